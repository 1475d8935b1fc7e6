/- Calls: the arguments, as they are laid. Conditions: as stated. -/
import Derived.Test.YtpnnnoagjcpmhaaDoorFq
open Bool renaming and_eq_true->af,and_eq_true_iff->cJ,not_eq_true'->eF,or_eq_true->bY
open List renaming all_cons->e9,all_eq_true->aV,append_assoc->aP,append_nil->bi,cons_append->aO,drop_zero->cA,flatMap->i_,flatMap_cons->bf,headD_cons->bH,length_map->aI,map_cons->aq,map_nil->aS,mem_append->ak,mem_append_left->aE,mem_append_right->aC,mem_cons->aF,mem_cons_of_mem->aA,mem_map->cz,mem_singleton->am,nil_sublist->iO,nodup_append->bR,singleton_append->aU,singleton_inj->eL
open List.Sublist renaming refl->bS
open Nat renaming le_refl->ao,le_succ->bk,lt_succ_self->aT,zero_le->dQ
open Option.some renaming inj->aa,injEq->bl
open Prod.mk renaming inj->ad
namespace Go.Ev
def MR(k:Nat):D:=match yD k with|.d x=>x|_=>default
theorem NU(k:Nat):yD k=.d (MR k):=rfl
def pp:Sh->List V->List D×List V
 |.x _,.x u v::l=>(aM u v,l)
 |.pt _,.x u v::l=>([.pt (aM u v)],l)
 |.nl k,l=>([MR k],l)
 |.fn f c,l=>([.fn f (pp c l).1],(pp c l).2)
 |.pr a c,l=>((pp a l).1++(pp c (pp a l).2).1,(pp c (pp a l).2).2)
 |_,l=>([],l)
def F5(t:Ty):Sl (El t)->Option (List (List D))
 |.nil=>none
 |.mk l=>some (l.map (aM t))
def vU(t:Ty):Sl (Sl (El t))->T
 |.nil=>.d (.lit (.slice none 0 0))
 |.mk l=>.xC (bm t) (l.map (F5 t))
theorem FX{t:Ty}(l:List (Sl (El t))):sf (l.map (lK t))=some (l.map (F5 t)):=by induction l with|nil=>rfl|cons s l ih=>simp only[aq,sf,ih];cases s<;>rfl
theorem vW{t:Ty}(l:List (Sl (El t))):(l.map (F5 t)).map lf=l.map (lK t):=by rw[List.map_map];exact List.map_congr_left fun s _=>by cases s<;>rfl
def eK:Sh->List V->List T×List V
 |.x _,.x u v::l=>((aM u v).map .d,l)
 |.os _,.x (.sl u) v::l=>([xD (bm u) (aM u) v],l)
 |.rw _,.x (.sl (.sl u)) v::l=>([vU u v],l)
 |.pb _ c,l=>([.pt (eK c l).1],(eK c l).2)
 |.nl k,l=>([.d (MR k)],l)
 |.st c,l=>eK c l
 |.pr a c,l=>((eK a l).1++(eK c (eK a l).2).1,(eK c (eK a l).2).2)
 |.gn,l=>([.rD],l)
 |_,l=>([],l)
def vj:Sh->Bool
 |.x t=>lH t
 |.st _=>true
 |_=>false
def fT:List (Bool×Sh)->List V->List A
 |[],_=>[]
 |(true,c)::r,l=>.mt ((eK c l).1.headD default)::fT r (eK c l).2
 |(false,c)::r,l=>(bif vj c then .agg (pp c l).1 else .d ((pp c l).1.headD default))::fT r (pp c l).2
def mT:List Sh->List V->List R
 |[],_=>[]
 |c::r,l=>(bif vj c then .agg (eK c l).1 else .c ((eK c l).1.headD default))::mT r (eK c l).2
def jr:List Sh->List V->List T
 |[],_=>[]
 |c::r,l=>(eK c l).1.headD default::jr r (eK c l).2
def um:Sh->Nat
 |.x t=>bm t+1
 |.pt t=>bm t+3
 |.fn _ c=>um c+2
 |.pr a c=>um a+um c
 |.ni=>0
 |_=>1
section
variable{h:H2}{n:Nat}{h1:bz}
def yO:C->Prop
 |.d _|.dz _ _ _ _=>True
 |_=>False
theorem CK{c:C}(hc:yO c)(k j:Nat):dE h1 k c=dE h1 j c:=by cases c with|d x=>rw[oc,oc]|dz a b e f=>cases k<;>cases j<;>simp only[dE]|_=>exact hc.elim
theorem vD:∀{cs:List C}{ds:List D}{aw:List Nat}{k:Nat},(∀c∈cs,yO c)->du h1 cs=some (ds,aw)->cs.length<k->fc h1 k cs=some (ds,aw):=by
 intro cs;induction cs with
 |nil=>intro ds aw k _ h _;simp only[du]at h;rw[<-h];cases k<;>rfl
 |cons c cs ih=>
  intro ds aw k hf h hk;cases k with
  |zero=>simp at hk
  |succ k=>
   simp only[du]at h;split at h
   .rename_i x a xs b hx hxs;simp only[fc];rw[CK (hf c (by simp)) k 300,hx,ih (fun c hc=>hf c (by simp[hc])) hxs (by simpa using hk)];exact h
   .simp at h
theorem zi:∀{x y:List C}{dx dy:List D}{ix iy:List Nat}{k:Nat},fc h1 k x=some (dx,ix)->fc h1 (k-x.length) y=some (dy,iy)->x.length<=k->fc h1 k (x++y)=some (dx++dy,ix++iy):=by
 intro x;induction x with
 |nil=>
  intro y dx dy ix iy k hx hy _;have:fc h1 k []=some ([],[]):=by cases k<;>rfl
  rw[this]at hx;obtain⟨rfl,rfl⟩:=ad (aa hx);simpa using hy
 |cons c x ih=>
  intro y dx dy ix iy k hx hy hk;cases k with
  |zero=>simp at hk
  |succ k=>
   simp only[fc]at hx;split at hx
   .rename_i p a q b hp hq;obtain⟨rfl,rfl⟩:=ad (aa hx);simp only[aO,fc,hp];rw[ih hq (by simpa using hy) (by simpa using hk)];simp
   .simp at hx
theorem B2{α:Type}{sz id:Nat}{enc:α->List D}{s:Sl α}:yO (jm sz enc id s):=by cases s<;>trivial
theorem JK{id lo:Nat}{t:Ty}{r:Sl (El t)}:yO (v7 id lo t r):=by cases r<;>trivial
theorem BY:∀(v w:V)(l:List Nat)(cs:List C),ie h v=some (w,l)->eD h v cs->gu h v=true->∀c∈cs,yO c:=by
 have fl:∀(ds:List D),∀c∈ds.map C.d,yO c:=fun ds c hc=>by obtain⟨d,_,rfl⟩:=cz.1 hc;trivial
 intro v;induction v with
 |so id=>
  intro w l cs hf hv _ c hc;simp only[ie]at hf;split at hf
  .rename_i t s l' hs;obtain⟨ver,ho,_⟩:=sg hs;obtain⟨c',rfl,hc'⟩:=hv;obtain rfl:=am.1 hc;rw[hc'.1 _ (ki ho)];exact B2
  .simp at hf
 |sr id=>
  intro w l cs hf hv _ c hc;simp only[ie]at hf;split at hf
  .rename_i t s ho;obtain⟨c',rfl,hc'⟩:=hv;obtain rfl:=am.1 hc;rw[hc'.1 _ (qy ho)];exact B2
  .simp at hf
 |sb id ver lo t r=>intro w l cs hf hv ha c hc;obtain⟨c',rfl,hc'⟩:=hv;obtain rfl:=am.1 hc;rw[hc'.1 (cJ.1 ha).2];exact JK
 |rc r ih=>
  intro w l cs hf hv ha;simp only[ie]at hf;split at hf
  .rename_i w' l' hw;exact ih w' l' cs hw hv ha
  .simp at hf
 |co a r iha ihr=>
  intro w l cs hf hv ha c hc;simp only[ie]at hf;split at hf
  .rename_i x l1 y l2 hx hy;obtain⟨ca,cr,rfl,h2,h3⟩:=hv;simp only[gu,af]at ha;rcases ak.1 hc with hc|hc
   .exact iha x l1 ca hx h2 ha.1 c hc
   .exact ihr y l2 cr hy h3 ha.2 c hc
  .simp at hf
 |x t v=>intro w l cs hf hv _;obtain⟨_,rfl⟩:=hv;exact fl _
 |kb c=>intro w l cs hf hv _;obtain rfl:=hv;exact fl [_]
 |nl k=>intro w l cs hf hv _;obtain rfl:=hv;exact fl [_]
 |fl q=>intro w l cs hf hv _;obtain⟨_,rfl⟩:=hv;rw[zO];exact fl _
 |ni=>intro w l cs hf hv _;obtain rfl:=hv;exact fl []
 |pt t v=>intro w l cs hf hv _;obtain⟨_,rfl⟩:=hv;exact fl [_]
 |fn z f q ih=>intro w l cs hf hv _;cases z with|true=>obtain⟨ds,_,rfl⟩:=hv;exact fl [_]|false=>simp[ie]at hf
 |_=>intro w l cs hf hv;simp[ie]at hf
theorem Kf:∀(v:V)(ds:List D),oU v=some ds->eD h v (ds.map .d):=by
 intro v;induction v with
 |co a r iha ihr=>
  intro ds hd;simp only[oU]at hd;split at hd
  .rename_i x y hx hy;obtain rfl:=aa hd;exact⟨_,_,by simp,iha x hx,ihr y hy⟩
  .simp at hd
 |pt t v=>
  intro ds hd;simp only[oU]at hd;split at hd
  .rename_i ht;obtain rfl:=aa hd;exact⟨ht,rfl⟩
  .simp at hd
 |ni=>intro ds hd;obtain rfl:[]=ds:=by simpa[oU]using hd
      rfl
 |_=>intro ds hd;simp[oU]at hd
theorem xw:∀(v:V),Ar v=true->gu h v=true/\∀n,eA n h v:=by intro v;induction v with|co a r iha ihr=>intro hv;simp only[Ar,af]at hv;exact⟨by simp only[gu,(iha hv.1).1,(ihr hv.2).1,Bool.and_self],fun n=>⟨(iha hv.1).2 n,(ihr hv.2).2 n⟩⟩|pt t v=>intro hv;exact⟨hv,fun _=>trivial⟩|ni=>intro _;exact⟨rfl,fun _=>trivial⟩|_=>intro hv;simp[Ar]at hv
theorem Hu(hr:HR n h1 h):∀(c:Sh)(v:V)(l:List V)(i:List Nat)(cs:List C),mM h c v=some (l,i)->eD h v cs->eA n h v->gu h v=true->
  ∃ds aw,(∀k,um c<=k->fc h1 k cs=some (ds,aw))/\(∀r,pp c (l++r)=(ds,r))/\(∀j∈aw,j∈i/\¬k7 h j)/\(∀j∈i,j∈aw\/k7 h j)/\cs.length<=um c:=by
 intro c;induction c with
 |x t=>
  intro v l i cs ha hv hk hal;simp only[mM]at ha;split at ha
  .rename_i w l' hw;split at ha
   .rename_i y hy;obtain⟨rfl,rfl⟩:=ad (aa ha);obtain⟨ds,aw,f1,f2,f3,f4,_⟩:=qK hr v w l' cs hw hv hk hal;have e3:=nG (gW w false t y _ hy f2);subst e3;have hl:cs.length=bm t:=by rw[<-rX f1,bD]
    exact⟨_,aw,fun k hk=>vD (BY v w l' cs hw hv hal) f1 (by simp only[um]at hk;omega),fun r=>rfl,f3,f4,by simp only[um];omega⟩
   .simp at ha
  .simp at ha
 |pt t=>
  intro v l i cs ha hv hk hal;cases v with
  |pt u v=>
   simp only[mM]at ha;split at ha
   .rename_i y hy;obtain⟨rfl,rfl⟩:=ad (aa ha);obtain⟨e,_⟩:=ux hy;obtain⟨_,rfl⟩:=hv;refine⟨[.pt (aM t y)],[],fun k hk=>?_,fun r=>rfl,fun j hj=>by simp at hj,fun j hj=>by simp at hj,by simp[um]⟩;rw[<-e];exact vp (h1:=h1) [.pt (aM t y)] k (by simp only[um]at hk;simp;omega)
   .simp at ha
  |op id u p=>
   cases p with
   |cons=>simp[mM]at ha
   |nil=>
    obtain rfl:=hv;have e0:k_ u []=0:=by cases u<;>rfl
    rw[e0];simp only[mM]at ha;split at ha
    .rename_i w c ho;obtain⟨hc,ha⟩:=aK ha;simp only[af,decide_eq_true_eq]at hc;split at ha
     .rename_i c' l' hw;split at ha
      .rename_i y hy;obtain⟨rfl,rfl⟩:=ad (aa ha);obtain⟨_,⟨cb,e1,e2,e3⟩,e4⟩:=hr.ob id _ ho;obtain⟨ds,aw,f1,f2,f3,f4,_⟩:=qK hr c c' l' cb hw e2 e4 hc.2;have e5:=nG (gW c' false t y _ hy f2);subst e5;have hl:cb.length=bm t:=by rw[<-rX f1,bD]
       have hnil:¬k7 h id:=by
        rintro(⟨u',v',e⟩|⟨u',ln',e⟩)
        .rcases e with e|e<;>rw[ho]at e<;>simp at e
        .rw [ho]at e;cases e
       refine⟨[.pt (aM t y)],id::aw,fun k hk=>?_,fun r=>rfl,fun j hj=>?_,fun j hj=>?_,by simp[um]⟩
       .simp only[um]at hk;obtain⟨k,rfl⟩:∃k',k=k'+2:=⟨k-2,by omega⟩
        have hv:fc h1 k cb=some (aM t y,aw):=vD (BY c c' l' cb hw e2 hc.2) f1 (by omega);simp only[fc,dE,e1,hv,dQ,if_true,cA,bi]
       .rcases aF.1 hj with rfl|hj
        .exact ⟨by simp,hnil⟩
        .exact ⟨by simp[(f3 j hj).1],(f3 j hj).2⟩
       .rcases aF.1 hj with rfl|hj
        .exact .inl (by simp)
        .exact (f4 j hj).imp (fun q=>by simp[q]) (fun q=>q)
      .simp at ha
     .simp at ha
    .rename_i w v ho;obtain⟨hc,ha⟩:=aK ha;split at ha
     .rename_i y hy;obtain⟨rfl,rfl⟩:=ad (aa ha);obtain⟨e,_⟩:=ux hy;obtain⟨_,⟨_,e1⟩,_⟩:=hr.ob id _ ho
      have hnil:¬k7 h id:=by
       rintro(⟨u',v',e⟩|⟨u',ln',e⟩)
       .rcases e with e|e<;>rw[ho]at e<;>simp at e
       .rw [ho]at e;cases e
      refine⟨[.pt (aM t y)],[id],fun k hk=>?_,fun r=>rfl,fun j hj=>?_,fun j hj=>.inl hj,by simp[um]⟩
      .simp only[um]at hk;obtain⟨k,rfl⟩:∃k',k=k'+2:=⟨k-2,by omega⟩
       simp only[fc,dE,e1,dQ,if_true,cA,bi,e]
      .obtain rfl:=am.1 hj;exact⟨by simp,hnil⟩
     .simp at ha
    .simp at ha
  |ep id m u p=>
   cases p with
   |cons=>simp[mM]at ha
   |nil=>
    obtain rfl:=hv;have e0:k_ u []=0:=by cases u<;>rfl
    rw[e0]
    have key:∀(w:Ty)(s:Sl (El w))(ver:Nat),(fO h id=some (.ar w s ver)\/fO h id=some (.im w s ver))->(bif decide (w=u)then(match fk w t (gt s.l m)with|some y=>some ([V.x t y],[id])|none=>none)else none)=some (l,i)->
      ∃ds aw,(∀k,um (.pt t)<=k->fc h1 k [.ep id m 0]=some (ds,aw))/\(∀r,pp (.pt t) (l++r)=(ds,r))/\(∀j∈aw,j∈i/\¬k7 h j)/\(∀j∈i,j∈aw\/k7 h j)/\[C.ep id m 0].length<=um (.pt t):=by
     intro w s ver ho ha;obtain⟨_,ha⟩:=aK ha;split at ha
     .rename_i y hy;obtain⟨rfl,rfl⟩:=ad (aa ha);obtain⟨e,_⟩:=ux hy;have hm:=hk.2.2.1 w s ver ho;cases s with
      |nil=>simp[Sl.l]at hm
      |mk q=>
       refine⟨[.pt (aM t y)],[id],fun k hk=>?_,fun r=>rfl,fun j hj=>?_,fun j hj=>.inl hj,by simp[um]⟩
       .simp only[um]at hk;obtain⟨k,rfl⟩:∃k',k=k'+1:=⟨k-1,by omega⟩
        have hg:(q.map (aM w))[m]?=some (aM w (gt q m)):=zW hm;have e2:aM w (gt q m)=aM t y:=e.symm;rcases ho with ho|ho
        .have e1:=(hr.ob id _ ho).2.1.2.2 q rfl;have:dE h1 k (.ep id m 0)=some (.pt (aM t y),[id]):=by cases k<;>simp only[dE,e1,hg,dQ,if_true,cA,e2]
         simp only[fc,this,bi]
        .have e1:=(hr.ob id _ ho).2.1.2.2 q rfl;have:dE h1 k (.ep id m 0)=some (.pt (aM t y),[id]):=by cases k<;>simp only[dE,e1,hg,dQ,if_true,cA,e2]
         simp only[fc,this,bi]
       .obtain rfl:=am.1 hj;exact⟨by simp,wC ho⟩
     .simp at ha
    simp only[mM]at ha;split at ha
    .rename_i ho;exact key _ _ _ (.inl ho) ha
    .rename_i ho;exact key _ _ _ (.inr ho) ha
    .simp at ha
  |_=>simp[mM]at ha
 |nl k=>
  intro v l i cs ha hv hk hal;cases v with
  |nl k'=>
   simp only[mM]at ha;obtain⟨hc,ha2⟩:=aK ha;obtain rfl:k=k':=by simpa using hc
   obtain⟨rfl,rfl⟩:=ad (aa ha2);obtain rfl:=hv;refine⟨[MR k],[],fun j hj=>?_,fun r=>rfl,fun j hj=>by simp at hj,fun j hj=>by simp at hj,by simp[um]⟩;simp only[um]at hj;obtain⟨j,rfl⟩:∃k',j=k'+1:=⟨j-1,by omega⟩
   have e:fc h1 j []=some ([],[]):=by cases j<;>rfl
   rw[NU];simp only[fc,oc,e,bi]
  |_=>simp[mM]at ha
 |fn f c ih=>
  intro v l i cs ha hv hk hal;cases v with
  |fn z f' q=>
   simp only[mM]at ha;obtain⟨hc,ha2⟩:=aK ha;obtain rfl:f=f':=by simpa using hc
   cases z with
   |true=>
    obtain⟨ds0,hd,rfl⟩:=hv;have hal':Ar q=true:=hal;obtain⟨a1,a2⟩:=xw (h:=h) q hal';obtain⟨ds,aw,g1,g2,g3,g4,g5⟩:=ih q l i (ds0.map .d) ha2 (Kf q ds0 hd) (a2 n) a1;have e:=g1 (um c+ds0.length+1) (by omega);rw[vp ds0 _ (by omega)]at e;obtain⟨rfl,rfl⟩:=ad (aa e);refine⟨[.fn f ds0],[],fun k hk=>?_,fun r=>?_,g3,g4,by simp[um]⟩
    .simp only[um]at hk;exact vp (h1:=h1) [.fn f ds0] k (by simp;omega)
    .simp only[pp,g2 r]
   |false=>
    obtain⟨xs,h2,rfl⟩:=hv;obtain⟨ds,aw,g1,g2,g3,g4,g5⟩:=ih q l i xs ha2 h2 hk hal;refine⟨[.fn f ds],aw,fun k hk=>?_,fun r=>?_,g3,g4,by simp[um]⟩
    .simp only[um]at hk;obtain⟨k,rfl⟩:∃k',k=k'+2:=⟨k-2,by omega⟩
     simp only[fc,dE,g1 k (by omega),bi]
    .simp only[pp,g2 r]
  |_=>simp[mM]at ha
 |pr a c iha ihc=>
  intro v l i cs ha hv hk hal;cases v with
  |co x r=>
   simp only[mM]at ha;split at ha
   .rename_i l1 i1 l2 i2 h2 h3;obtain⟨rfl,rfl⟩:=ad (aa ha);obtain⟨cx,cr,rfl,h4,h5⟩:=hv;simp only[gu,af]at hal;obtain⟨d1,j1,a1,a2,a3,a4,a5⟩:=iha x l1 i1 cx h2 h4 hk.1 hal.1;obtain⟨d2,j2,b1,b2,b3,b4,b5⟩:=ihc r l2 i2 cr h3 h5 hk.2 hal.2;refine⟨d1++d2,j1++j2,fun k hk=>?_,fun r=>?_,fun j hj=>?_,fun j hj=>?_,by simp[um];omega⟩
    .simp only[um]at hk;exact zi (a1 k (by omega)) (b1 _ (by omega)) (by omega)
    .simp only[pp,aP,a2,b2]
    .rcases ak.1 hj with hj|hj
     .exact ⟨aE _ (a3 j hj).1,(a3 j hj).2⟩
     .exact ⟨aC _ (b3 j hj).1,(b3 j hj).2⟩
    .rcases ak.1 hj with hj|hj
     .exact (a4 j hj).imp (aE _) id
     .exact (b4 j hj).imp (aC _) id
   .simp at ha
  |_=>simp[mM]at ha
 |ni=>intro v l i cs ha hv hk hal;cases v with|ni=>obtain⟨rfl,rfl⟩:=ad (aa ha);obtain rfl:=hv;exact⟨[],[],fun k _=>(by cases k<;>rfl),fun r=>rfl,fun j hj=>by simp at hj,fun j hj=>by simp at hj,by simp⟩|_=>simp[mM]at ha
 |_=>intro v l i cs ha;simp[mM]at ha
end
def oY:Sh->Nat
 |.x t=>bm t+1
 |.pb _ c=>oY c+2
 |.st c=>oY c
 |.pr a c=>oY a+oY c
 |.ni=>0
 |_=>1
section
variable{h:H2}{n:Nat}{h1:bz}
theorem sS(k:Nat)(x:D):dZ h1 k (.d x)=some (.d x,[],[]):=by cases k<;>rfl
theorem nm(k:Nat):gM h1 k []=some ([],[],[]):=by cases k<;>rfl
theorem ou:∀(ds:List D)(k:Nat),ds.length<=k->gM h1 k (ds.map .d)=some (ds.map .d,[],[]):=by
 intro ds;induction ds with
 |nil=>intro k _;exact nm k
 |cons d ds ih=>intro k hk;cases k with|zero=>simp at hk|succ k=>simp only[aq,gM,sS,ih k (by simpa using hk),bi]
theorem sR:∀{x y:List C}{tx ty:List T}{ox oy ix iy:List Nat}{k:Nat},gM h1 k x=some (tx,ox,ix)->gM h1 (k-x.length) y=some (ty,oy,iy)->x.length<=k->gM h1 k (x++y)=some (tx++ty,ox++oy,ix++iy):=by
 intro x;induction x with
 |nil=>intro y tx ty ox oy ix iy k hx hy _;rw[nm]at hx;obtain⟨rfl,e⟩:=ad (aa hx);obtain⟨rfl,rfl⟩:=ad e;simpa using hy
 |cons c x ih=>
  intro y tx ty ox oy ix iy k hx hy hk;cases k with
  |zero=>simp at hk
  |succ k=>
   simp only[gM]at hx;split at hx
   .rename_i p a i q b j hp hq;obtain⟨rfl,e⟩:=ad (aa hx);obtain⟨rfl,rfl⟩:=ad e;simp only[aO,gM,hp];rw[ih hq (by simpa using hy) (by simpa using hk)];simp
   .simp at hx
theorem sQ{c:C}{t:T}{bn rd:List Nat}{k:Nat}(hc:dZ h1 k c=some (t,bn,rd)):gM h1 (k+1) [c]=some ([t],bn,rd):=by simp only[gM,hc,nm,bi]
theorem QW{t:Ty}{id k:Nat}{q:List (Sl (El t))}(h:av h1 id=some (.nst (bm t) (di t q none))):dZ h1 k (jm 1 (aM (.sl t)) id (Sl.mk q:Sl (Sl (El t))))=some (.xC (bm t) (q.map (F5 t)),[id],[id]):=by simp only[jm,di]at h|-;cases k<;>simp only[dZ,h,aI,and_self,if_true,FX]
theorem uB(hr:HR n h1 h):∀(c:Sh)(ln:Bool)(v:V)(l:List V)(i:List Nat)(cs:List C),dH h c ln v=some (l,i)->eD h v cs->eA n h v->
  ∃ts bn rd,(∀k,oY c<=k->gM h1 k cs=some (ts,bn,rd))/\(∀r,eK c (l++r)=(ts,r))/\bn.Sublist i/\(∀j∈i,j∈bn\/k7 h j)/\(∀j∈rd,j∈i)/\cs.length<=oY c/\(∀j∈i,j<n):=by
 intro c;induction c with
 |x t=>
  intro ln v l i cs ha hv hk;cases ln with
  |true=>simp[dH]at ha
  |false=>
   simp only[dH]at ha;split at ha
   .rename_i y hy;obtain⟨rfl,rfl⟩:=ad (aa ha);have e:=gW v false t y cs hy hv;subst e;exact⟨_,[],[],fun k hk=>ou _ k (by rw[bD];simp only[oY]at hk;omega),fun r=>rfl,bS _,fun j hj=>by simp at hj,fun j hj=>hj,by simp[oY,bD],fun j hj=>by simp at hj⟩
   .simp at ha
 |os t=>
  intro ln v l i cs ha hv hk;cases ln with
  |true=>simp[dH]at ha
  |false=>
   cases v with
   |so id=>
    simp only[dH]at ha;split at ha
    .rename_i u s ver ho;split at ha
     .rename_i s' hs;obtain⟨rfl,rfl⟩:=ad (aa ha);obtain⟨e,rfl⟩:=cR hs;cases e;obtain⟨c,rfl,hc⟩:=hv;rw[hc.1 _ (ki (.inl ho))];cases s with
      |nil=>exact⟨[.d (.lit (.slice none 0 0))],[],[],fun k hk=>ou [.lit (.slice none 0 0)] k (by simpa[oY]using hk),fun r=>rfl,iO _,fun j hj=>by obtain rfl:=am.1 hj;exact .inr (.inl ⟨_,_,.inl ho⟩),fun j hj=>by simp at hj,by simp[oY],fun j hj=>by obtain rfl:=am.1 hj;exact hk⟩
      |mk q=>
       have e1:=(hr.ob id _ ho).2.1.2.2 q rfl;refine⟨[.sl (bm t) (q.map (aM t))],[id],[id],fun k hk=>?_,fun r=>rfl,bS _,fun j hj=>.inl hj,fun j hj=>hj,by simp[oY],fun j hj=>by obtain rfl:=am.1 hj;exact hk⟩;obtain⟨k,rfl⟩:∃k',k=k'+1:=⟨k-1,by simp only[oY]at hk;omega⟩
       exact sQ (RY e1)
     .simp at ha
    .simp at ha
   |nl k=>cases k with|zero=>obtain⟨rfl,rfl⟩:=ad (aa ha);obtain rfl:=hv;exact⟨[.d (.lit (.slice none 0 0))],[],[],fun k hk=>ou [.lit (.slice none 0 0)] k (by simpa[oY]using hk),fun r=>rfl,bS _,fun j hj=>by simp at hj,fun j hj=>hj,by simp[oY],fun j hj=>by simp at hj⟩|succ k=>simp[dH]at ha
   |_=>simp[dH]at ha
 |rw t=>
  intro ln v l i cs ha hv hk;cases ln with
  |true=>simp[dH]at ha
  |false=>
   cases v with
   |sr id=>
    simp only[dH]at ha;split at ha
    .rename_i u s ho;split at ha
     .rename_i s' hs;obtain⟨rfl,rfl⟩:=ad (aa ha);obtain⟨e,rfl⟩:=cR hs;cases e;obtain⟨c,rfl,hc⟩:=hv;rw[hc.1 _ (qy ho)];cases s with
      |nil=>exact⟨[.d (.lit (.slice none 0 0))],[],[],fun k hk=>ou [.lit (.slice none 0 0)] k (by simpa[oY]using hk),fun r=>rfl,iO _,fun j hj=>by obtain rfl:=am.1 hj;exact .inr (.inr ⟨_,_,ho⟩),fun j hj=>by simp at hj,by simp[oY],fun j hj=>by obtain rfl:=am.1 hj;exact hk⟩
      |mk q=>
       have e1:=(hr.ob id _ ho).2.1.2.2 q rfl;refine⟨[.xC (bm t) (q.map (F5 t))],[id],[id],fun k hk=>?_,fun r=>rfl,bS _,fun j hj=>.inl hj,fun j hj=>hj,by simp[oY],fun j hj=>by obtain rfl:=am.1 hj;exact hk⟩;obtain⟨k,rfl⟩:∃k',k=k'+1:=⟨k-1,by simp only[oY]at hk;omega⟩
       exact sQ (QW e1)
     .simp at ha
    .simp at ha
   |nl k=>cases k with|zero=>obtain⟨rfl,rfl⟩:=ad (aa ha);obtain rfl:=hv;exact⟨[.d (.lit (.slice none 0 0))],[],[],fun k hk=>ou [.lit (.slice none 0 0)] k (by simpa[oY]using hk),fun r=>rfl,bS _,fun j hj=>by simp at hj,fun j hj=>hj,by simp[oY],fun j hj=>by simp at hj⟩|succ k=>simp[dH]at ha
   |_=>simp[dH]at ha
 |pb t c ih=>
  intro ln v l i cs ha hv hk;cases ln with
  |true=>simp[dH]at ha
  |false=>
   cases v with
   |op id u p=>
    cases p with
    |cons=>simp[dH]at ha
    |nil=>
     simp only[dH]at ha;split at ha
     .rename_i w q ho;obtain⟨hc,ha2⟩:=aK ha;split at ha2
      .rename_i l' i' ha3;obtain⟨rfl,rfl⟩:=ad (aa ha2);obtain rfl:=hv;have e0:k_ u []=0:=by cases u<;>rfl
       rw[e0];obtain⟨_,⟨cb,e1,e2,e3⟩,e4⟩:=hr.ob id _ ho;obtain⟨ts,bn,rd,g1,g2,g3,g4,g5,g6,g7⟩:=ih false q l' i' cb ha3 e2 e4;refine⟨[.pt ts],id::bn,id::rd,fun k hk=>?_,fun r=>by simp only[eK,g2 r],g3.cons_cons _,fun j hj=>?_,fun j hj=>?_,by simp[oY],fun j hj=>?_⟩
       .obtain ⟨k,rfl⟩:∃k',k=k'+2:=⟨k-2,by simp only[oY]at hk;omega⟩
        refine sQ ?_;simp only[dZ,e1,g1 k (by simp only[oY]at hk;omega)]
       .rcases aF.1 hj with rfl|hj
        .exact .inl (by simp)
        .exact (g4 j hj).imp (fun q=>by simp[q]) (fun q=>q)
       .rcases aF.1 hj with rfl|hj
        .simp
        .simp [g5 j hj]
       .rcases aF.1 hj with rfl|hj
        .exact hk.1
        .exact g7 j hj
      .simp at ha2
     .simp at ha
   |_=>simp[dH]at ha
 |nl k=>
  intro ln v l i cs ha hv hk;cases ln with
  |true=>simp[dH]at ha
  |false=>
   cases v with
   |nl k'=>
    simp only[dH]at ha;obtain⟨hc,ha2⟩:=aK ha;obtain rfl:k=k':=by simpa using hc
    obtain⟨rfl,rfl⟩:=ad (aa ha2);obtain rfl:=hv;exact⟨[.d (MR k)],[],[],fun j hj=>ou [MR k] j (by simpa[oY]using hj),fun r=>rfl,bS _,fun j hj=>by simp at hj,fun j hj=>hj,by simp[oY],fun j hj=>by simp at hj⟩
   |_=>simp[dH]at ha
 |st c ih=>
  intro ln v l i cs ha hv hk;cases ln with
  |true=>simp[dH]at ha
  |false=>
   cases v with
   |rc q=>exact ih true q l i cs ha hv hk
   |x t v=>cases t with|st u=>obtain⟨hd,rfl⟩:=hv;exact ih true (FO u v) l i _ ha (zo u v hd) (CT u v)|_=>simp[dH]at ha
   |_=>simp[dH]at ha
 |pr a c iha ihc=>
  intro ln v l i cs ha hv hk;cases ln with
  |false=>simp[dH]at ha
  |true=>
   cases v with
   |co x r=>
    simp only[dH]at ha;split at ha
    .rename_i l1 i1 l2 i2 h2 h3;obtain⟨rfl,rfl⟩:=ad (aa ha);obtain⟨cx,cr,rfl,h4,h5⟩:=hv
     have hA:∃ts bn rd,(∀k,oY a<=k->gM h1 k cx=some (ts,bn,rd))/\(∀r,eK a (l1++r)=(ts,r))/\bn.Sublist i1/\(∀j∈i1,j∈bn\/k7 h j)/\(∀j∈rd,j∈i1)/\cx.length<=oY a/\(∀j∈i1,j<n):=by
      split at h2
      .rename_i t u v;unfold NX at h2;split at h2
       .obtain ⟨rfl,rfl⟩:=ad (aa h2);obtain⟨_,rfl⟩:=h4;exact⟨[.d (.lit (.slice none 0 0))],[],[],fun k hk=>ou [.lit (.slice none 0 0)] k (by simpa[oY]using hk),fun r=>rfl,bS _,fun j hj=>by simp at hj,fun j hj=>hj,by simp[oY,aM],fun j hj=>by simp at hj⟩
       .simp at h2
      .exact iha false x l1 i1 cx h2 h4 hk.1
     obtain⟨t1,o1,r1,a1,a2,a3,a4,a5,a6,a7⟩:=hA;obtain⟨t2,o2,r2,b1,b2,b3,b4,b5,b6,b7⟩:=ihc true r l2 i2 cr h3 h5 hk.2;refine⟨t1++t2,o1++o2,r1++r2,fun k hk=>?_,fun r=>?_,a3.append b3,fun j hj=>?_,fun j hj=>?_,by simp[oY];omega,fun j hj=>?_⟩
     .simp only[oY]at hk;exact sR (a1 k (by omega)) (b1 _ (by omega)) (by omega)
     .simp only[eK,aP,a2,b2]
     .rcases ak.1 hj with hj|hj
      .exact (a4 j hj).imp (aE _) (fun q=>q)
      .exact (b4 j hj).imp (aC _) (fun q=>q)
     .rcases ak.1 hj with hj|hj
      .exact aE _ (a5 j hj)
      .exact aC _ (b5 j hj)
     .rcases ak.1 hj with hj|hj
      .exact a7 j hj
      .exact b7 j hj
    .simp at ha
   |_=>simp[dH]at ha
 |ni=>
  intro ln v l i cs ha hv hk;cases ln with
  |false=>cases v<;>simp[dH]at ha
  |true=>cases v with|ni=>obtain⟨rfl,rfl⟩:=ad (aa ha);obtain rfl:=hv;exact⟨[],[],[],fun k _=>nm k,fun r=>rfl,bS _,fun j hj=>by simp at hj,fun j hj=>hj,by simp,fun j hj=>by simp at hj⟩|_=>simp[dH]at ha
 |_=>intro ln v l i cs ha;cases ln<;>simp[dH]at ha
theorem CM:∀(a b:List T)(m:Nat),gC m (a++b)=((gC m a).1++(gC (gC m a).2.2 b).1,(gC m a).2.1++(gC (gC m a).2.2 b).2.1,(gC (gC m a).2.2 b).2.2):=by intro a;induction a with|nil=>intro b m;simp[gC]|cons t a ih=>intro b m;simp only[aO,gC,ih,aP]
theorem pG(t:T)(m:Nat):gC m [t]=([(jA m t).1],(jA m t).2.1,(jA m t).2.2):=by simp[gC]
theorem Pj:∀(ds:List D)(m:Nat),gC m (ds.map T.d)=(ds.map .d,[],m+ds.length):=by intro ds;induction ds with|nil=>intro m;rfl|cons d ds ih=>intro m;simp only[aq,gC,jA,ih,List.nil_append,List.length_cons];congr 2;omega
theorem ue{a b:eG}(hd:∀p∈a,∀q∈b,p.1≠q.1)(i:Nat):av (a++b++h1) i=av (b++(a++h1)) i:=by rw[fF,fF,fF,<-dO,kQ hd]
structure Mk(s s':S2)(h1:bz)(u:eG):Prop where
 hr:HR s'.next (u++h1) s'.heap
 dA:ik s.next s.heap s'.heap
 db:s'.db=s.db
 gh:s'.gh=s.gh
 le:s.next<=s'.next
 DP:∀p∈u,s.next<=p.1/\p.1<s'.next
 wo:∃W,s'.wo=W++s.wo/\(∀p∈u,p.1∈W)/\(∀i∈W,s.next<=i/\i<s'.next)/\∀i,i∉W->fO s'.heap i=fO s.heap i
theorem Mk.skip{s:S2}{m:Nat}(hr:HR s.next h1 s.heap)(hm:s.next<=m):Mk s {s with next:=m} h1 []:=⟨hr.mono hm,ik.refl _ _,rfl,rfl,hm,fun p hp=>by simp at hp,[],rfl,fun p hp=>by simp at hp,fun i hi=>by simp at hi,fun _ _=>rfl⟩
theorem Mk.seq{s s1 s2:S2}{u1 u2:eG}(a:Mk s s1 h1 u1)(b:Mk s1 s2 (u1++h1) u2):Mk s s2 h1 (u1++u2):=by
 obtain⟨a3,a4,a5,a6,a7,a8,W,v1,v2,v3,v4⟩:=a;obtain⟨b3,b4,b5,b6,b7,b8,X,x1,x2,x3,x4⟩:=b;refine⟨?_,a4.trans a7 b4,b5.trans a5,b6.trans a6,by omega,fun p hp=>?_,X++W,by rw[x1,v1,aP],fun p hp=>?_,fun i hi=>?_,fun i hi=>?_⟩
 .exact b3.ext fun i=>ue (fun p hp q hq e=>by have:=(a8 p hp).2;have:=(b8 q hq).1;omega) i
 .rcases ak.1 hp with hp|hp
  .have:=a8 p hp;omega
  .have:=b8 p hp;omega
 .rcases ak.1 hp with hp|hp
  .exact aC _ (v2 p hp)
  .exact aE _ (x2 p hp)
 .rcases ak.1 hi with hi|hi
  .have:=x3 i hi;omega
  .have:=v3 i hi;omega
 .rw [x4 i fun q=>hi (aE _ q),v4 i fun q=>hi (aC _ q)]
end
section
variable{h:H2}{n:Nat}
theorem ik.bx{id:Nat}{t:Ty}{c:V}:ik n h ((id,some (.bx t c))::h):=⟨fun i o hi ho=>by
 rw[cB]at ho;split at ho
 .obtain rfl:=aa ho;exact .inr rfl
 .exact .inl ⟨o,ho,qp.refl _⟩⟩
theorem Mk.one{s:S2}{h1:bz}{o:O}{b:Option Ob}{u:eG}(hr:HR s.next h1 s.heap)(hu:u=[(s.next,b)]\/(u=[]/\∀b',sX ((s.next,some o)::s.heap) o b'))(hb:u=[(s.next,b)]->sX ((s.next,some o)::s.heap) o b)
  (hko:Az (s.next+1) ((s.next,some o)::s.heap) o):Mk s (fJ s o) h1 u:=by
 have hd:=oX.new (x:=.gR []) (v:=.no) (aw:=[]) (l:=[]) (m:=s.next+1) hr hu hb hko rfl trivial (fun i hi=>by simp at hi) (ao _);refine⟨hd.hr,hd.dA,rfl,rfl,bk _,fun p hp=>?_,[s.next],rfl,fun p hp=>?_,fun i hi=>?_,fun i hi=>?_⟩
 .rcases hu with rfl|⟨rfl,_⟩
  .obtain rfl:=am.1 hp;exact⟨ao _,aT _⟩
  .simp at hp
 .rcases hu with rfl|⟨rfl,_⟩
  .obtain rfl:=am.1 hp;simp
  .simp at hp
 .obtain rfl:=am.1 hi;exact⟨ao _,aT _⟩
 .simp only[fJ];rw[cB,if_neg fun e=>hi (by simp[e])]
theorem tg:∀(c:Sh)(ln:Bool)(l:List V)(s:S2)(w:V)(l':List V)(s':S2)(h1:bz),pB c ln l s=some (w,l',s')->HR s.next h1 s.heap->
  eD s'.heap w (gC s.next (eK c l).1).1/\eA s'.next s'.heap w/\Mk s s' h1 (gC s.next (eK c l).1).2.1/\s'.next=(gC s.next (eK c l).1).2.2/\l'=(eK c l).2/\(ln=false->qS w=vj c):=by
 intro c;induction c with
 |x t=>
  intro ln l s w l' s' h1 hm hr;cases ln with
  |true=>simp[pB]at hm
  |false=>match l with|.x u v::l=>simp only[pB]at hm;obtain⟨hc,hm2⟩:=aK hm;simp only[af,decide_eq_true_eq]at hc;obtain⟨rfl,hd⟩:=hc;obtain⟨rfl,e⟩:=ad (aa hm2);obtain⟨rfl,rfl⟩:=ad e;simp only[eK,Pj,bD];exact⟨⟨hd,rfl⟩,trivial,Mk.skip hr (Nat.le_add_right _ _),trivial,trivial,fun _=>rfl⟩|[]|.kb _::_|.nl _::_|.so _::_|.sr _::_|.sb _ _ _ _ _::_|.op _ _ _::_|.ep _ _ _ _::_|.pt _ _::_|.fn _ _ _::_|.om _::_|.rc _::_|.tp _::_|.ni::_|.co _ _::_|.fl _::_|.no::_|.gn::_=>simp[pB]at hm
 |os t=>
  intro ln l s w l' s' h1 hm hr;cases ln with
  |true=>simp[pB]at hm
  |false=>
   match l with
   |.x (.sl u) v::l=>
    simp only[pB]at hm;obtain⟨hc,hm2⟩:=aK hm;simp only[af,decide_eq_true_eq]at hc;obtain⟨rfl,hd⟩:=hc;obtain⟨d1,d2⟩:=mh hd;obtain⟨rfl,e⟩:=ad (aa hm2);obtain⟨rfl,rfl⟩:=ad e;simp only[eK,pG];have hv:eD (fJ s (.ar u v 0)).heap (.so s.next) [jm (bm u) (aM u) s.next v]:=⟨_,rfl,fun c' hc'=>by simp only[fJ,rl]at hc';exact aa hc',vX⟩
    cases v with|nil=>exact⟨hv,aT _,Mk.one (b:=none) hr (.inr ⟨rfl,fun b'=>⟨d1,d2,fun l e=>by cases e⟩⟩) (fun e=>by cases e) trivial,by first|rfl|trivial,by first|rfl|trivial,fun _=>rfl⟩|mk q=>exact⟨hv,aT _,Mk.one (b:=some (.aJ (bm u) (q.map (aM u)))) hr (.inl rfl) (fun _=>⟨d1,d2,fun l e=>by cases e;rfl⟩) trivial,by first|rfl|trivial,by first|rfl|trivial,fun _=>rfl⟩
   |[]|.kb _::_|.nl _::_|.so _::_|.sr _::_|.sb _ _ _ _ _::_|.op _ _ _::_|.ep _ _ _ _::_|.pt _ _::_|.fn _ _ _::_|.om _::_|.rc _::_|.tp _::_|.ni::_|.co _ _::_|.fl _::_|.no::_|.gn::_=>simp[pB]at hm
   |.x (.i _) _::_|.x .b _::_|.x .s _::_|.x (.f _) _::_|.x (.mp _ _) _::_|.x .un _::_|.x (.pr _ _) _::_|.x (.st _) _::_|.x (.ar _ _) _::_|.x (.o _) _::_=>simp[pB]at hm
 |rw t=>
  intro ln l s w l' s' h1 hm hr;cases ln with
  |true=>simp[pB]at hm
  |false=>
   match l with
   |.x (.sl (.sl u)) v::l=>
    simp only[pB]at hm;obtain⟨hc,hm2⟩:=aK hm;simp only[af,decide_eq_true_eq]at hc;obtain⟨rfl,hd⟩:=hc;obtain⟨d1,d2⟩:=mh hd;obtain⟨rfl,e⟩:=ad (aa hm2);obtain⟨rfl,rfl⟩:=ad e;simp only[eK,pG];have hv:eD (fJ s (.rw u v none)).heap (.sr s.next) [jm 1 (aM (.sl u)) s.next (v:Sl (Sl (El u)))]:=⟨_,rfl,fun c' hc'=>by simp only[fJ,rl]at hc';exact aa hc',vX⟩
    cases v with
    |nil=>exact⟨hv,aT _,Mk.one (b:=none) hr (.inr ⟨rfl,fun b'=>⟨d1,d2,fun l e=>by cases e⟩⟩) (fun e=>by cases e) trivial,by first|rfl|trivial,by first|rfl|trivial,fun _=>rfl⟩
    |mk q=>
     have e1:(jA s.next (vU u (.mk q))).1=jm 1 (aM (.sl u)) s.next (Sl.mk q:Sl (Sl (El u))):=by simp[vU,jA,jm]
     have e2:(jA s.next (vU u (.mk q))).2.1=[(s.next,some (.nst (bm u) (di u q none)))]:=by simp only[vU,jA,vW,di]
     rw[e1,e2];exact⟨hv,aT _,Mk.one (b:=some (.nst (bm u) (di u q none))) hr (.inl rfl) (fun _=>⟨d1,d2,fun l e=>by cases e;rfl⟩) trivial,by first|rfl|trivial,by first|rfl|trivial,fun _=>rfl⟩
   |[]|.kb _::_|.nl _::_|.so _::_|.sr _::_|.sb _ _ _ _ _::_|.op _ _ _::_|.ep _ _ _ _::_|.pt _ _::_|.fn _ _ _::_|.om _::_|.rc _::_|.tp _::_|.ni::_|.co _ _::_|.fl _::_|.no::_|.gn::_=>simp[pB]at hm
   |.x (.sl (.i _)) _::_|.x (.sl .b) _::_|.x (.sl .s) _::_|.x (.sl (.f _)) _::_|.x (.sl (.mp _ _)) _::_|.x (.sl .un) _::_|.x (.sl (.pr _ _)) _::_|.x (.sl (.st _)) _::_|.x (.sl (.ar _ _)) _::_|.x (.sl (.o _)) _::_|.x (.i _) _::_|.x .b _::_|.x .s _::_|.x (.f _) _::_|.x (.mp _ _) _::_|.x .un _::_|.x (.pr _ _) _::_|.x (.st _) _::_|.x (.ar _ _) _::_|.x (.o _) _::_=>simp[pB]at hm
 |pb t c ih=>
  intro ln l s w l' s' h1 hm hr;cases ln with
  |true=>simp[pB]at hm
  |false=>
   simp only[pB]at hm;split at hm
   .rename_i w0 l0 s2 hm0;obtain⟨hf,hm2⟩:=aK hm;obtain⟨rfl,e⟩:=ad (aa hm2);obtain⟨rfl,rfl⟩:=ad e;obtain⟨q1,q2,q3,q4,q5,_⟩:=ih false l {s with next:=s.next+1} w0 l0 s2 h1 hm0 (hr.mono (bk _));simp only[eK,pG,jA];obtain⟨a3,a4,a5,a6,a7,a8,W,v1,v2,v3,v4⟩:=q3;simp only at a4 a5 a6 a7 a8 v1 v3 v4;have hlt:s.next<s2.next:=by omega
    have hin:∀i,i∉W->fO s2.heap i=fO s.heap i:=v4;refine⟨?_,⟨hlt,by cases t<;>trivial⟩,⟨?_,?_,a5,a6,by show s.next<=s2.next;omega,fun p hp=>?_,s.next::W,by simp only[cX,v1];rfl,fun p hp=>?_,fun i hi=>?_,fun i hi=>?_⟩,q4,q5,fun _=>rfl⟩
    .show [_]=[_]
     have e0:k_ t []=0:=by cases t<;>rfl
     rw[e0]
    .refine HR.AH (u:=[(s.next,some (.box _))]) a3 (ao _) hlt ik.bx (fun i hi=>?_) fun o' ho'=>?_
     .rw [aU,bZ,if_neg fun e=>hi e.symm]
     .obtain rfl:=aa ho';refine⟨?_,fN (ao _) ik.bx q2⟩;rw[aU,bZ,if_pos rfl];exact⟨_,rfl,j8 ik.bx q2 q1,hf⟩
    .exact ik.trans (n':=s2.next) (by omega) (⟨fun i o hi ho=>a4.ob i o (by omega) ho⟩:ik s.next s.heap s2.heap) ik.bx
    .simp only[cX];rcases aF.1 hp with rfl|hp
     .exact ⟨ao _,hlt⟩
     .have:=a8 p hp;omega
    .rcases aF.1 hp with rfl|hp
     .simp
     .exact aA _ (v2 p hp)
    .simp only[cX];rcases aF.1 hi with rfl|hi
     .exact ⟨ao _,hlt⟩
     .have:=v3 i hi;omega
    .simp only[cX];rw[cB,if_neg fun e=>hi (by simp[e]),hin i fun q=>hi (by simp[q])]
   .simp at hm
 |nl k=>intro ln l s w l' s' h1 hm hr;cases ln with|true=>simp[pB]at hm|false=>simp only[pB]at hm;obtain⟨rfl,e⟩:=ad (aa hm);obtain⟨rfl,rfl⟩:=ad e;simp only[eK,pG,jA];exact⟨rfl,trivial,Mk.skip hr (bk _),by first|rfl|trivial,by first|rfl|trivial,fun _=>rfl⟩
 |st c ih=>
  intro ln l s w l' s' h1 hm hr;cases ln with
  |true=>simp[pB]at hm
  |false=>
   simp only[pB]at hm;split at hm
   .rename_i w0 l0 s2 hm0;obtain⟨rfl,e⟩:=ad (aa hm);obtain⟨rfl,rfl⟩:=ad e;obtain⟨q1,q2,q3,q4,q5,_⟩:=ih true l s w0 l0 s2 h1 hm0 hr;exact⟨q1,q2,q3,q4,q5,fun _=>rfl⟩
   .simp at hm
 |pr a c iha ihc=>
  intro ln l s w l' s' h1 hm hr;cases ln with
  |false=>simp[pB]at hm
  |true=>
   simp only[pB]at hm;split at hm
   .rename_i x l1 s1 hm1;split at hm
    .rename_i r l2 s2 hm2;obtain⟨rfl,e⟩:=ad (aa hm);obtain⟨rfl,rfl⟩:=ad e;obtain⟨q1,q2,q3,q4,q5,_⟩:=iha false l s x l1 s1 h1 hm1 hr;subst q5;obtain⟨p1,p2,p3,p4,p5,_⟩:=ihc true _ s1 r l2 s2 _ hm2 q3.hr;subst p5;simp only[eK,CM];rw[q4]at p1 p3 p4;exact⟨⟨_,_,rfl,j8 p3.dA q2 q1,p1⟩,⟨fN p3.le p3.dA q2,p2⟩,Mk.seq q3 p3,p4,by first|rfl|trivial,fun e=>by cases e⟩
    .simp at hm
   .simp at hm
 |ni=>intro ln l s w l' s' h1 hm hr;cases ln with|false=>simp[pB]at hm|true=>simp only[pB]at hm;obtain⟨rfl,e⟩:=ad (aa hm);obtain⟨rfl,rfl⟩:=ad e;exact⟨rfl,trivial,Mk.skip hr (ao _),rfl,rfl,fun e=>by cases e⟩
 |_=>intro ln l s w l' s' h1 hm;cases ln<;>simp[pB]at hm
end
def LP:List (Bool×Sh)->List Bool->Bool
 |[],_=>true
 |(b,_)::r,ms=>decide (ms.headD false=b)&&LP r ms.tail
def tn:Sh->Bool
 |.os _|.rw _|.pb _ _|.nl _=>true
 |_=>false
def wy:Sh->Bool
 |.x t=>bm t==1
 |.os _|.rw _|.pb _ _|.nl _|.pt _|.fn _ _=>true
 |_=>false
def zD:List (Bool×Sh)->Bool
 |[]=>true
 |(b,c)::r=>(bif b then tn c&&Nat.ble (oY c) 300 else(vj c||wy c)&&Nat.ble (um c) 300)&&zD r
section
variable{h:H2}{n:Nat}{h1:bz}
def Nc(h:H2)(n:Nat)(h1:bz)(p:V×List Nat)(q:C×List Nat×List Nat):Prop:=
 eD h p.1 [q.1]/\eA n h p.1/\(∃t,dZ h1 300 q.1=some (t,q.2.1,q.2.2))/\q.2.1.Sublist p.2/\(∀j∈p.2,j∈q.2.1\/k7 h j)/\(∀j∈q.2.2,j∈p.2)/\(∀j∈p.2,j<n)/\
  match p.1 with|.so id=>p.2=[id]/\∃u s ver,fO h id=some (.ar u s ver)|.sr id=>p.2=[id]/\∃u s,fO h id=some (.rw u s none)|.op id _ _=>id∈p.2/\¬k7 h id|.nl _=>True|_=>False
def u4(h:H2)(n:Nat)(h1:bz):List (V×List Nat)->List (C×List Nat×List Nat)->Prop
 |[],l=>l=[]
 |p::r,l=>∃q m,l=q::m/\Nc h n h1 p q/\u4 h n h1 r m
theorem JB{v w:V}{l:List Nat}(hf:ie h v=some (w,l)):qS v=qS w:=by
 cases v with
 |so id=>
  simp only[ie]at hf;split at hf
  .obtain ⟨rfl,_⟩:=ad (aa hf);rfl
  .simp at hf
 |sr id=>
  simp only[ie]at hf;split at hf
  .obtain ⟨rfl,_⟩:=ad (aa hf);rfl
  .simp at hf
 |sb id ver lo t r=>simp only[ie,ry]at hf;obtain⟨rfl,_⟩:=ad (aa hf);rfl
 |rc l=>
  simp only[ie]at hf;split at hf
  .obtain ⟨rfl,_⟩:=ad (aa hf);rfl
  .simp at hf
 |co a r=>
  simp only[ie]at hf;split at hf
  .obtain ⟨rfl,_⟩:=ad (aa hf);rfl
  .simp at hf
 |fn z f l=>cases z<;>simp[ie]at hf;rw[<-hf.1]
 |_=>first|(simp[ie]at hf;done)|(simp[ie]at hf;rw[<-hf.1])
theorem I7{c:Sh}{v:V}{l:List V}{i:List Nat}{x:TV}(hr:HR n h1 h)(hl:tn c=true)(hf:oY c<=300)(ha:dH h c false v=some (l,i))(hx:eW h v x)(hk:eA n h v):
  ∃cc t bn rd,x=.c cc/\dZ h1 300 cc=some (t,bn,rd)/\(∀r,eK c (l++r)=([t],r))/\Nc h n h1 (v,i) (cc,bn,rd):=by
 have hp:Ly v/\qS v=false:=by
  cases c<;>simp[tn]at hl
  all_goals(cases v<;>first|exact⟨trivial,rfl⟩|(simp[dH]at ha;done))
 obtain⟨cc,rfl,hc⟩:=gY (mO hp.1 hx) hp.2;obtain⟨ts,bn,rd,g1,g2,g3,g4,g5,g6,g7⟩:=uB hr c false v l i [cc] ha hc hk;have e:=g1 301 (by omega);simp only[gM,nm]at e;split at e
 .rename_i t a b x' b' j hp1 hp2;obtain⟨rfl,e2⟩:=ad (aa hp2);obtain⟨rfl,rfl⟩:=ad e2;clear e2;clear hp2;obtain⟨rfl,e3⟩:=ad (aa e);obtain⟨rfl,rfl⟩:=ad e3;refine⟨cc,t,_,_,rfl,by simpa using hp1,g2,hc,hk,⟨t,by simpa using hp1⟩,g3,g4,g5,g7,?_⟩;cases v with
  |so id=>
   cases c with
   |os t=>
    simp only[dH]at ha;split at ha
    .rename_i u s ver ho;split at ha
     .obtain ⟨_,rfl⟩:=ad (aa ha);exact⟨rfl,u,s,ver,ho⟩
     .simp at ha
    .simp at ha
   |_=>simp[dH,gi,tn]at ha hl
  |sr id=>
   cases c with
   |rw t=>
    simp only[dH]at ha;split at ha
    .rename_i u s ho;split at ha
     .obtain ⟨_,rfl⟩:=ad (aa ha);exact⟨rfl,u,s,ho⟩
     .simp at ha
    .simp at ha
   |_=>simp[dH,gi,tn]at ha hl
  |op id u p=>
   cases c with
   |pb t c=>
    cases p with
    |cons=>simp[dH]at ha
    |nil=>
     simp only[dH]at ha;split at ha
     .rename_i w q ho;obtain⟨_,ha2⟩:=aK ha;split at ha2
      .obtain ⟨_,rfl⟩:=ad (aa ha2);refine⟨by simp,?_⟩;rintro(⟨u',v',e⟩|⟨u',ln',e⟩)
       .rcases e with e|e<;>rw[ho]at e<;>simp at e
       .rw [ho]at e;cases e
      .simp at ha2
     .simp at ha
   |_=>simp[dH,gi,tn]at ha hl
  |nl k=>trivial
  |_=>(cases c<;>simp[tn]at hl<;>simp[dH]at ha)
 .simp at e
theorem Cu(hr:HR n h1 h):∀(ps:List (Bool×Sh))(vs:List V)(ms:List Bool)(m:List V)(j:List Nat)(q:List (V×List Nat))(xs:List TV),sD h ps vs=some (m,j,q)->kH h vs xs->(∀w∈vs,eA n h w)->(∀w∈vs,gu h w=true)->LP ps ms=true->zD ps=true->
  ∃aw lent,fy h1 xs ms=some (fT ps m,aw,lent)/\(∀i∈aw,i∈j/\¬k7 h i)/\(∀i∈j,i∈aw\/k7 h i)/\u4 h n h1 q lent:=by
 intro ps;induction ps with
 |nil=>intro vs ms m j q xs ha hx hk hal hm hp;cases vs with|cons=>simp[sD]at ha|nil=>obtain⟨rfl,e⟩:=ad (aa ha);obtain⟨rfl,rfl⟩:=ad e;obtain rfl:=jB hx;exact⟨[],[],rfl,fun i hi=>by simp at hi,fun i hi=>by simp at hi,rfl⟩
 |cons p ps ih=>
  obtain⟨b,c⟩:=p;intro vs ms m j q xs ha hx hk hal hm hp;cases vs with
  |nil=>simp[sD]at ha
  |cons v vs=>
   obtain⟨x,ys,rfl,hx1,hx2⟩:=fg hx;simp only[LP,af,decide_eq_true_eq]at hm;simp only[zD,af]at hp;simp only[sD]at ha;split at ha
   .rename_i m' j' q' hrest;obtain⟨aw,lent,e1,e2,e3,e4⟩:=ih vs ms.tail m' j' q' ys hrest hx2 (fun w hw=>hk w (by simp[hw])) (fun w hw=>hal w (by simp[hw])) hm.2 hp.2;cases b with
    |true=>
     simp only[cond_true]at ha;split at ha
     .rename_i l i ha2;obtain⟨rfl,e⟩:=ad (aa ha);obtain⟨rfl,rfl⟩:=ad e;have hp1:=hp.1;simp only[cond_true,af,Nat.ble_eq]at hp1;obtain⟨cc,t,bn,rd,rfl,f1,f2,f3⟩:=I7 hr hp1.1 hp1.2 ha2 hx1 (hk v (by simp));refine⟨aw,(cc,bn,rd)::lent,?_,e2,e3,⟨_,_,rfl,f3,e4⟩⟩;rw[PR f1 hm.1 e1];simp only[fT,f2,bH]
     .simp at ha
    |false=>
     simp only[cond_false]at ha;split at ha
     .rename_i l i ha2;obtain⟨rfl,e⟩:=ad (aa ha);obtain⟨rfl,rfl⟩:=ad e;have hp1:=hp.1;simp only[cond_false,af,Nat.ble_eq,bY]at hp1;have hpl:Ly v:=by cases v<;>first|trivial|(cases c<;>simp[mM,ie]at ha2)
      cases hs:vj c with
      |true=>
       cases c with
       |x t=>
        simp only[mM]at ha2;split at ha2
        .rename_i w l' hw;split at ha2
         .rename_i y hy;obtain⟨rfl,rfl⟩:=ad (aa ha2);obtain⟨cs,hc,h3,h4⟩:=mO hpl hx1;obtain⟨ds,is,f1,f2,f3,f4,_⟩:=qK hr v w l' cs hw hc (hk v (by simp)) (hal v (by simp));have e5:=nG (gW w false t y _ hy f2);subst e5;refine⟨is++aw,lent,?_,fun k hk=>?_,fun k hk=>?_,e4⟩
          .rw [h3 (((JB hw).trans (ut hy)).trans hs),Ox f1 hm.1 e1];simp only[fT,hs,cond_true];rfl
          .rcases ak.1 hk with hk|hk
           .exact ⟨aE _ (f3 k hk).1,(f3 k hk).2⟩
           .exact ⟨aC _ (e2 k hk).1,(e2 k hk).2⟩
          .rcases ak.1 hk with hk|hk
           .exact (f4 k hk).imp (aE _) (fun q=>q)
           .exact (e3 k hk).imp (aC _) (fun q=>q)
         .simp at ha2
        .simp at ha2
       |st c=>simp[mM]at ha2
       |_=>simp[vj]at hs
      |false=>
       have hag:qS v=false:=by
        cases c with
        |x t=>
         simp only[mM]at ha2;split at ha2
         .rename_i w l' hw;split at ha2
          .rename_i y hy;exact((JB hw).trans (ut hy)).trans hs
          .simp at ha2
         .simp at ha2
        |_=>cases v<;>first|rfl|(simp[mM]at ha2;done)|(simp[vj]at hs;done)|(simp[wy,vj]at hp1;done)
       obtain⟨cs,hc,h3,h4⟩:=mO hpl hx1;obtain⟨ds,is,g1,g2,g3,g4,g5⟩:=Hu hr c v l i cs ha2 hc (hk v (by simp)) (hal v (by simp));refine⟨is++aw,lent,?_,fun k hk=>?_,fun k hk=>?_,e4⟩
       .obtain ⟨cc,rfl,rfl⟩:=h4 hag;have e:=g1 301 (by omega);have en:fc h1 300 []=some ([],[]):=rfl;simp only[fc,en]at e;split at e
        .rename_i d a xs' b' hv1 hv2;obtain⟨rfl,rfl⟩:=ad (aa hv2);clear hv2;obtain⟨rfl,rfl⟩:=ad (aa e);rw[RH hv1 hm.1 e1];simp only[fT,hs,g2,cond_false,bH,bi]
        .simp at e
       .rcases ak.1 hk with hk|hk
        .exact ⟨aE _ (g3 k hk).1,(g3 k hk).2⟩
        .exact ⟨aC _ (e2 k hk).1,(e2 k hk).2⟩
       .rcases ak.1 hk with hk|hk
        .exact (g4 k hk).imp (aE _) (fun q=>q)
        .exact (e3 k hk).imp (aC _) (fun q=>q)
     .simp at ha
   .simp at ha
end
section
variable{h:H2}{n:Nat}{h1:bz}
structure Bk(s s':S2)(h1:bz)(I:List Nat)(u:eG):Prop where
 hr:HR s'.next (u++h1) s'.heap
 dA:ik s.next s.heap s'.heap
 db:s'.db=s.db
 gh:s'.gh=s.gh
 le:s.next<=s'.next
 DP:∀p∈u,p.1∈I\/(s.next<=p.1/\p.1<s'.next)
 nb:∀i,i<s.next->fO s.heap i=none->fO s'.heap i=none
 wo:∃W,s'.wo=W++s.wo/\(∀p∈u,p.1∈W)/\∀i,i∉W->fO s'.heap i=fO s.heap i
theorem Bk.refl{s:S2}(hr:HR s.next h1 s.heap):Bk s s h1 [] []:=⟨hr,ik.refl _ _,rfl,rfl,ao _,fun p hp=>by simp at hp,fun _ _ h=>h,[],rfl,fun p hp=>by simp at hp,fun _ _=>rfl⟩
theorem Bk.seq{s s1 s2:S2}{I J:List Nat}{u1 u2:eG}(a:Bk s s1 h1 I u1)(b:Bk s1 s2 (u1++h1) J u2)(hd:∀i∈I,i∉J)(hI:∀i∈I,i<s.next)(hJ:∀j∈J,j<s.next):Bk s s2 h1 (I++J) (u1++u2):=by
 obtain⟨a3,a4,a5,a6,a7,a8,a9,W,v1,v2,v4⟩:=a;obtain⟨b3,b4,b5,b6,b7,b8,b9,X,x1,x2,x4⟩:=b;refine⟨b3.ext fun i=>ue (fun p hp q hq e=>?_) i,a4.trans a7 b4,b5.trans a5,b6.trans a6,by omega,fun p hp=>?_,fun i hi h=>b9 i (by omega) (a9 i hi h),X++W,by rw[x1,v1,aP],fun p hp=>?_,fun i hi=>?_⟩
 .rcases a8 p hp with h2|h2<;>rcases b8 q hq with h3|h3
  .exact hd _ h2 (e▸h3)
  .have:=hI _ h2;omega
  .have:=hJ _ h3;omega
  .omega
 .rcases ak.1 hp with hp|hp
  .rcases a8 p hp with h2|h2
   .exact .inl (aE _ h2)
   .exact .inr (by omega)
  .rcases b8 p hp with h2|h2
   .exact .inl (aC _ h2)
   .exact .inr (by omega)
 .rcases ak.1 hp with hp|hp
  .exact aC _ (v2 p hp)
  .exact aE _ (x2 p hp)
 .rw [x4 i fun q=>hi (aE _ q),v4 i fun q=>hi (aC _ q)]
theorem m9:∀(i:List Nat)(s:S2),(gZ i s).db=s.db/\(gZ i s).next=s.next/\(gZ i s).gh=s.gh/\(gZ i s).wo=i++s.wo/\∀j,fO (gZ i s).heap j=if j∈i then none else fO s.heap j:=by
 intro i;induction i with
 |nil=>intro s;exact⟨rfl,rfl,rfl,rfl,fun j=>by simp[gZ]⟩
 |cons a i ih=>
  intro s;obtain⟨h1,h2,h3,h4,h5⟩:=ih s;refine⟨h1,h2,h3,by simp[gZ,cX,h4],fun j=>?_⟩;simp only[gZ,cX,cB,h5];by_cases e:a=j
  .subst e;simp
  .simp [e,Ne.symm e]
theorem ik.sub{g:H2}(hs:∀i o,fO g i=some o->fO h i=some o):ik n h g:=⟨fun i o _ ho=>.inl ⟨o,hs i o ho,qp.refl _⟩⟩
theorem HR.sub{g:H2}(hr:HR n h1 h)(hs:∀i o,fO g i=some o->fO h i=some o):HR n h1 g:=⟨fun i o ho=>let⟨a,b,c⟩:=hr.ob i o (hs i o ho);⟨a,nF (ik.sub hs) c b,mr (ao _) (ik.sub hs) c⟩⟩
theorem wN{i:List Nat}{s:S2}:∀j o,fO (gZ i s).heap j=some o->fO s.heap j=some o:=by
 intro j o ho;rw[(m9 i s).2.2.2.2]at ho;split at ho
 .simp at ho
 .exact ho
theorem yI{bn:List Nat}{j:Nat}(hj:j∉bn):av (bn.map (fun i=>(i,(none:Option Ob)))++h1) j=av h1 j:=uf fun p hp e=>by obtain⟨i,hi,rfl⟩:=cz.1 hp;exact hj (e▸hi)
theorem Bk.j5{s:S2}{i bn:List Nat}(hr:HR s.next h1 s.heap)(ho:∀j∈bn,j∈i):Bk s (gZ i s) h1 i (bn.map fun j=>(j,none)):=by
 obtain⟨k1,k2,k3,k4,k5⟩:=m9 i s;refine⟨⟨fun j o hj=>?_⟩,ik.sub wN,k1,k3,by omega,fun p hp=>?_,fun j _ h=>by rw[k5];split<;>first|rfl|exact h,i,k4,fun p hp=>?_,fun j hj=>by rw[k5,if_neg hj]⟩
 .obtain ⟨a,b,c⟩:=(hr.sub wN).ob j o hj;refine⟨by omega,?_,by rw[k2];exact c⟩;have:j∉i:=fun hm=>by rw[k5,if_pos hm]at hj;simp at hj
  rw[yI fun hm=>this (ho j hm)];exact b
 .obtain ⟨j,hj,rfl⟩:=cz.1 hp;exact .inl (ho j hj)
 .obtain ⟨j,hj,rfl⟩:=cz.1 hp;exact ho j hj
theorem rh{α:Type}{a b:Sl α}{u:Unit}(hl:su a b=some u):a.eC=b.eC/\a.l.length=b.l.length:=by
 cases a<;>cases b<;>simp[su]at hl
 .exact ⟨rfl,rfl⟩
 .exact ⟨rfl,yH.1 hl⟩
theorem qL{c:C}{rd:List Nat}{x:D}{r:List (C×List Nat×List Nat)}{ts:List T}{m:Nat}:dv m ((c,[],rd)::r) (.d x::ts)=dv m r ts:=by simp only[dv]
theorem wu{x:D}{t:T}{bn rd:List Nat}(hp:dZ h1 300 (.d x)=some (t,bn,rd)):bn=[]:=by rw[sS]at hp;obtain⟨_,e⟩:=ad (aa hp);exact(ad e).1.symm
theorem IW{q:List (V×List Nat)}{v:V}{i:List Nat}(hn:(i_ (fun(p:V×List Nat)=>p.2) ((v,i)::q)).Nodup):(∀j∈i,j∉i_ (fun(p:V×List Nat)=>p.2) q)/\(i_ (fun(p:V×List Nat)=>p.2) q).Nodup:=by simp only[bf]at hn;exact⟨fun j hj hm=>(bR.1 hn).2.2 j hj j hm rfl,(bR.1 hn).2.1⟩
theorem u4.lt:∀{q:List (V×List Nat)}{lent:List (C×List Nat×List Nat)},u4 h n h1 q lent->∀j∈i_ (fun(p:V×List Nat)=>p.2) q,j<n:=by
 intro q;induction q with
 |nil=>intro lent _ j hj;simp at hj
 |cons p q ih=>
  rintro lent ⟨x,m,rfl,hx,hm⟩ j hj;simp only[bf,ak]at hj;rcases hj with hj|hj
  .exact hx.2.2.2.2.2.2.1 j hj
  .exact ih hm j hj
theorem Kr{szi m id len k:Nat}{aj:List (Option (List (List D)))}{rd:List Nat}{r:List (C×List Nat×List Nat)}{ts:List T}{w:eG}(hl:aj.length=len)(hr:dv m r ts=some (w,k)):
  dv m ((.dz 1 id 0 len,[id],rd)::r) (.xC szi aj::ts)=some ((id,some (.nst szi (aj.map lf)))::w,k):=by
 simp only[dv,hl,hr,and_self,if_true]
theorem xp{β:Type}{z:β}(hr0:HR n h1 h):∀(os:List Sh)(q:List (V×List Nat))(lent:List (C×List Nat×List Nat))(l:List V)(s:S2)(H:bz)(k:S2->Option β),dJ os q l s k=some z->u4 h n h1 q lent->n<=s.next->HR s.next H s.heap->ik n h s.heap->
  (i_ (fun(p:V×List Nat)=>p.2) q).Nodup->∃s1 bu,k s1=some z/\dv s.next lent (jr os l)=some (bu,s1.next)/\Bk s s1 H (i_ (fun(p:V×List Nat)=>p.2) q) bu:=by
 intro os;induction os with
 |nil=>
  intro q lent l s H k hb hl hn hr dA hnd;cases q with
  |cons p q=>simp[dJ]at hb
  |nil=>cases l with|cons=>simp[dJ]at hb|nil=>obtain rfl:lent=[]:=hl;exact⟨s,[],hb,rfl,Bk.refl hr⟩
 |cons o os ih=>
  intro q lent l s H k hb hl hn hr dA hnd;cases q with
  |nil=>cases o<;>simp[dJ]at hb
  |cons p q=>
   obtain⟨v,i⟩:=p;obtain⟨⟨c,bn,rd⟩,m,rfl,⟨hc,hkv,⟨tp,hpk⟩,hsub,hcov,hrd,hlt,hsh⟩,hl2⟩:=hl;obtain⟨hd,hnd2⟩:=IW hnd;have hI:∀j∈i,j<s.next:=fun j hj=>by have:j<n:=hlt j hj;omega
   have hJ:∀j∈i_ (fun(p:V×List Nat)=>p.2) q,j<s.next:=fun j hj=>by have:=hl2.lt j hj;omega
   cases o with
   |nl kk=>cases i with|cons=>simp[dJ]at hb|nil=>simp only[dJ]at hb;obtain⟨s1,bu,e1,e2,e3⟩:=ih q m l s H k hb hl2 hn hr dA hnd2;have:bn=[]:=List.sublist_nil.1 hsub;subst this;exact⟨s1,bu,e1,by simp only[jr,eK,bH,qL];exact e2,by simpa using e3⟩
   |gn=>simp only[dJ]at hb;obtain⟨k1,k2,k3,k4,k5⟩:=m9 i s;have b1:Bk s (gZ i s) H i (bn.map fun j=>(j,none)):=Bk.j5 hr fun j hj=>hsub.subset hj;obtain⟨s1,bu,e1,e2,e3⟩:=ih q m l (gZ i s) _ k hb hl2 (by omega) b1.hr (dA.trans hn b1.dA) hnd2;rw[k2]at e2;exact⟨s1,_,e1,by simp only[jr,eK,bH];exact Hr e2,by simpa using b1.seq e3 hd hI hJ⟩
   |os t=>
    cases v with
    |nl kk=>
     cases kk with
     |succ=>cases l with|nil=>simp[dJ]at hb|cons w l=>cases w<;>simp[dJ]at hb
     |zero=>
      cases i with
      |cons=>cases l with|nil=>simp[dJ]at hb|cons w l=>cases w<;>simp[dJ]at hb
      |nil=>
       match l with
       |.x (.sl u) v::l=>
        simp only[dJ]at hb;split at hb
        .rename_i v' hv;obtain⟨e,rfl⟩:=cR hv;cases e;obtain⟨_,hls,hb2⟩:=oZ hb;obtain⟨hni,_⟩:=rh hls;obtain⟨s1,bu,e1,e2,e3⟩:=ih q m l s H k hb2 hl2 hn hr dA hnd2;have:bn=[]:=List.sublist_nil.1 hsub;subst this;refine⟨s1,bu,e1,?_,by simpa using e3⟩;cases v with|mk=>simp[Sl.eC]at hni|nil=>simp only[jr,eK,bH,xD,qL];exact e2
        .simp at hb
       |[]|.kb _::_|.nl _::_|.so _::_|.sr _::_|.sb _ _ _ _ _::_|.op _ _ _::_|.ep _ _ _ _::_|.pt _ _::_|.fn _ _ _::_|.om _::_|.rc _::_|.tp _::_|.ni::_|.co _ _::_|.fl _::_|.no::_|.gn::_=>simp[dJ]at hb
       |.x (.i _) _::_|.x .b _::_|.x .s _::_|.x (.f _) _::_|.x (.mp _ _) _::_|.x .un _::_|.x (.pr _ _) _::_|.x (.st _) _::_|.x (.ar _ _) _::_|.x (.o _) _::_=>simp[dJ]at hb
    |so id=>
     match l with
     |.x (.sl u) v::l=>
      simp only[dJ]at hb;split at hb
      .rename_i w old ver v' ho hv;obtain⟨e,rfl⟩:=cR hv;cases e;split at hb
       .rename_i v2 hv2;obtain⟨e,rfl⟩:=cR hv2;cases e;obtain⟨_,hls,hb2⟩:=oZ hb;obtain⟨hni,hln⟩:=rh hls;obtain⟨rfl,u0,s0,ver0,ho0⟩:=hsh;have hid:id<n:=hkv;obtain⟨o1,ho1,hos⟩:=(dA.ob id _ hid ho).resolve_right (by simp[L0]);rw[ho0]at ho1;obtain rfl:=aa ho1;obtain⟨_,rfl,hn1,hn2,_⟩:=hos;obtain⟨cc,ece,hcc⟩:=hc;obtain rfl:=eL.1 ece;have ec:=hcc.1 _ (ki (.inl ho0));obtain⟨q1,q2,q3⟩:=(hr.ob id _ ho).2.1;have hosn:qp (.ar u0 old ver) (.ar u0 v (ver+1)):=⟨bk _,rfl,hni.symm,hln.symm,fun e=>by omega⟩
        have key:∀(uu:eG),(∀p∈uu,p.1=id)->(∀l,v=.mk l->av (uu++H) id=some (.aJ (bm u0) (l.map (aM u0))))->Bk s (cX s id (some (.ar u0 v (ver+1)))) H [id] uu:=by intro uu hu hlk;have d:=qc (x:=.gR []) (v:=.no) (aw:=[]) (l:=[]) hr ho hni.symm hln.symm hu hlk (fun _=>rfl) (fun _ _=>trivial) (fun i hi=>by simp at hi);exact⟨d.hr,d.dA,rfl,rfl,ao _,fun p hp=>.inl (by simp[hu p hp]),d.nb,[id],rfl,fun p hp=>by simp[hu p hp],fun j hj=>by simp only[cX];rw[cB,if_neg fun e=>hj (by simp[e])]⟩
        cases v with
        |nil=>
         have b1:=key [] (fun p hp=>by simp at hp) (fun l e=>by cases e);obtain⟨s1,bu,f1,f2,e3⟩:=ih q m l _ _ k hb2 hl2 hn b1.hr (dA.trans hn b1.dA) hnd2;have hnil:s0.eC=true:=by rw[hn1,<-hni];rfl
         cases s0 with|mk=>simp[Sl.eC]at hnil|nil=>subst ec;have:=wu hpk;subst this;refine⟨s1,bu,f1,?_,by simpa using b1.seq e3 hd hI hJ⟩;simp only[jr,eK,bH,xD,qL];exact f2
        |mk vl=>
         have b1:=key [(id,some (.aJ (bm u0) (vl.map (aM u0))))] (fun p hp=>by simp at hp;simp[hp]) (fun l e=>by cases e;rw[aU,bZ,if_pos rfl]);obtain⟨s1,bu,f1,f2,e3⟩:=ih q m l _ _ k hb2 hl2 hn b1.hr (dA.trans hn b1.dA) hnd2;have hnil:s0.eC=false:=by rw[hn1,<-hni];rfl
         cases s0 with|nil=>simp[Sl.eC]at hnil|mk q9=>subst ec;have hlk:=(hr0.ob id _ ho0).2.1.2.2 q9 rfl;have hp2:=RY (k:=300) hlk;simp only[jm]at hpk;rw[hp2]at hpk;obtain⟨_,e⟩:=ad (aa hpk);obtain⟨rfl,rfl⟩:=ad e;refine⟨s1,_,f1,?_,by simpa using b1.seq e3 hd hI hJ⟩;simp only[jr,eK,bH,xD,jm];refine Mt ?_ f2;simp only[Sl.l]at hn2 hln;simp only[aI];omega
       .simp at hb
      .simp at hb
     |[]|.kb _::_|.nl _::_|.so _::_|.sr _::_|.sb _ _ _ _ _::_|.op _ _ _::_|.ep _ _ _ _::_|.pt _ _::_|.fn _ _ _::_|.om _::_|.rc _::_|.tp _::_|.ni::_|.co _ _::_|.fl _::_|.no::_|.gn::_=>simp[dJ]at hb
     |.x (.i _) _::_|.x .b _::_|.x .s _::_|.x (.f _) _::_|.x (.mp _ _) _::_|.x .un _::_|.x (.pr _ _) _::_|.x (.st _) _::_|.x (.ar _ _) _::_|.x (.o _) _::_=>simp[dJ]at hb
    |_=>simp[dJ]at hb
   |rw t=>
    cases v with
    |nl kk=>
     cases kk with
     |succ=>cases l with|nil=>simp[dJ]at hb|cons w l=>cases w<;>simp[dJ]at hb
     |zero=>
      cases i with
      |cons=>cases l with|nil=>simp[dJ]at hb|cons w l=>cases w<;>simp[dJ]at hb
      |nil=>
       match l with
       |.x (.sl (.sl u)) v::l=>
        simp only[dJ]at hb;split at hb
        .rename_i v' hv;obtain⟨e,rfl⟩:=cR hv;cases e;obtain⟨_,hls,hb2⟩:=oZ hb;obtain⟨hni,_⟩:=rh hls;obtain⟨s1,bu,e1,e2,e3⟩:=ih q m l s H k hb2 hl2 hn hr dA hnd2;have:bn=[]:=List.sublist_nil.1 hsub;subst this;refine⟨s1,bu,e1,?_,by simpa using e3⟩;cases v with|mk=>simp[Sl.eC]at hni|nil=>simp only[jr,eK,bH,vU,qL];exact e2
        .simp at hb
       |[]|.kb _::_|.nl _::_|.so _::_|.sr _::_|.sb _ _ _ _ _::_|.op _ _ _::_|.ep _ _ _ _::_|.pt _ _::_|.fn _ _ _::_|.om _::_|.rc _::_|.tp _::_|.ni::_|.co _ _::_|.fl _::_|.no::_|.gn::_=>simp[dJ]at hb
       |.x (.sl (.i _)) _::_|.x (.sl .b) _::_|.x (.sl .s) _::_|.x (.sl (.f _)) _::_|.x (.sl (.mp _ _)) _::_|.x (.sl .un) _::_|.x (.sl (.pr _ _)) _::_|.x (.sl (.st _)) _::_|.x (.sl (.ar _ _)) _::_|.x (.sl (.o _)) _::_|.x (.i _) _::_|.x .b _::_|.x .s _::_|.x (.f _) _::_|.x (.mp _ _) _::_|.x .un _::_|.x (.pr _ _) _::_|.x (.st _) _::_|.x (.ar _ _) _::_|.x (.o _) _::_=>simp[dJ]at hb
    |sr id=>
     match l with
     |.x (.sl (.sl u)) v::l=>
      simp only[dJ]at hb;split at hb
      .rename_i w old ln v' ho hv;obtain⟨e,rfl⟩:=cR hv;cases e;split at hb
       .rename_i v2 hv2;obtain⟨e,rfl⟩:=cR hv2;cases e;obtain⟨_,hls,hb2⟩:=oZ hb;obtain⟨hni,hln⟩:=rh hls;obtain⟨rfl,u0,s0,ho0⟩:=hsh;have hid:id<n:=hkv;obtain⟨o1,ho1,hos⟩:=(dA.ob id _ hid ho).resolve_right (by simp[L0]);rw[ho0]at ho1;obtain rfl:=aa ho1;obtain⟨rfl,hn1,hn2⟩:=hos;obtain⟨cc,ece,hcc⟩:=hc;obtain rfl:=eL.1 ece;have ec:=hcc.1 _ (qy ho0);obtain⟨q1,q2,q3⟩:=(hr.ob id _ ho).2.1;have hosn:qp (.rw u0 old ln) (.rw u0 v none):=⟨rfl,hni.symm,hln.symm⟩
        have key:∀(uu:eG),(∀p∈uu,p.1=id)->(∀l,v=.mk l->av (uu++H) id=some (.nst (bm u0) (di u0 l none)))->Bk s (cX s id (some (.rw u0 v none))) H [id] uu:=by intro uu hu hlk;have d:=EB (x:=.gR []) (v:=.no) (aw:=[]) (l:=[]) hr ho hosn hu ⟨q1,q2,hlk⟩ trivial rfl trivial (fun i hi=>by simp at hi);exact⟨d.hr,d.dA,rfl,rfl,ao _,fun p hp=>.inl (by simp[hu p hp]),d.nb,[id],rfl,fun p hp=>by simp[hu p hp],fun j hj=>by simp only[cX];rw[cB,if_neg fun e=>hj (by simp[e])]⟩
        cases v with
        |nil=>
         have b1:=key [] (fun p hp=>by simp at hp) (fun l e=>by cases e);obtain⟨s1,bu,f1,f2,e3⟩:=ih q m l _ _ k hb2 hl2 hn b1.hr (dA.trans hn b1.dA) hnd2;have hnil:s0.eC=true:=by rw[hn1,<-hni];rfl
         cases s0 with|mk=>simp[Sl.eC]at hnil|nil=>subst ec;have:=wu hpk;subst this;refine⟨s1,bu,f1,?_,by simpa using b1.seq e3 hd hI hJ⟩;simp only[jr,eK,bH,vU,qL];exact f2
        |mk vl=>
         have b1:=key [(id,some (.nst (bm u0) (di u0 vl none)))] (fun p hp=>by simp at hp;simp[hp]) (fun l e=>by cases e;rw[aU,bZ,if_pos rfl]);obtain⟨s1,bu,f1,f2,e3⟩:=ih q m l _ _ k hb2 hl2 hn b1.hr (dA.trans hn b1.dA) hnd2;have hnil:s0.eC=false:=by rw[hn1,<-hni];rfl
         cases s0 with|nil=>simp[Sl.eC]at hnil|mk q9=>subst ec;have hlk:=(hr0.ob id _ ho0).2.1.2.2 q9 rfl;have hp2:=QW (k:=300) hlk;simp only[jm]at hpk hp2;rw[hp2]at hpk;obtain⟨_,e⟩:=ad (aa hpk);obtain⟨rfl,rfl⟩:=ad e;refine⟨s1,_,f1,?_,by simpa using b1.seq e3 hd hI hJ⟩;simp only[jr,eK,bH,vU,jm,aI];rw[show di u0 vl none=(vl.map (F5 u0)).map lf from(vW vl).symm];refine Kr ?_ f2;rw[aI];exact hln.trans hn2.symm
       .simp at hb
      .simp at hb
     |[]|.kb _::_|.nl _::_|.so _::_|.sr _::_|.sb _ _ _ _ _::_|.op _ _ _::_|.ep _ _ _ _::_|.pt _ _::_|.fn _ _ _::_|.om _::_|.rc _::_|.tp _::_|.ni::_|.co _ _::_|.fl _::_|.no::_|.gn::_=>simp[dJ]at hb
     |.x (.sl (.i _)) _::_|.x (.sl .b) _::_|.x (.sl .s) _::_|.x (.sl (.f _)) _::_|.x (.sl (.mp _ _)) _::_|.x (.sl .un) _::_|.x (.sl (.pr _ _)) _::_|.x (.sl (.st _)) _::_|.x (.sl (.ar _ _)) _::_|.x (.sl (.o _)) _::_|.x (.i _) _::_|.x .b _::_|.x .s _::_|.x (.f _) _::_|.x (.mp _ _) _::_|.x .un _::_|.x (.pr _ _) _::_|.x (.st _) _::_|.x (.ar _ _) _::_|.x (.o _) _::_=>simp[dJ]at hb
    |_=>simp[dJ]at hb
   |pb t c2=>
    cases v with
    |op id u p=>
     cases p with
     |cons=>simp[dJ]at hb
     |nil=>
      simp only[dJ]at hb;split at hb
      case h_2=>simp at hb
      rename_i oid hoid;split at hb
      .rename_i w l' s2 hm;obtain⟨hf,hb2⟩:=aK hb;simp only[af,decide_eq_true_eq]at hf;obtain⟨hf,rfl⟩:=hf;obtain⟨g1,g2,g3,g4,g5,_⟩:=tg c2 false l s w l' s2 H hm hr;subst g5;obtain⟨hid,hnn⟩:=hsh;have hio:id∈bn:=(hcov id hid).resolve_right hnn
       obtain rfl:c=.op id 0:=by
        have e0:k_ u []=0:=by cases u<;>rfl
        have:[c]=[C.op id (k_ u [])]:=hc;rw[e0]at this;exact eL.1 this
       obtain⟨k1,k2,k3,k4,k5⟩:=m9 i s2;have hids:id<s2.next:=by have:=hI id hid;have:=g3.le;omega
       have b1:Bk s (cX (gZ i s2) id (some (.bx u w))) H i ((id,some (.box (gC s.next (eK c2 l).1).1))::(gC s.next (eK c2 l).1).2.1++bn.map (fun j=>(j,none))):=by
        obtain⟨a3,a4,a5,a6,a7,a8,W,v1,v2,v3,v4⟩:=g3;have hs2:ik s2.next s2.heap (cX (gZ i s2) id (some (.bx u w))).heap:=ik.trans (ao _) (ik.sub wN) ik.bx;refine⟨⟨fun j o hj=>?_⟩,ik.trans a7 a4 hs2,k1.trans a5,k3.trans a6,by simp only[cX];omega,fun p hp=>?_,fun j hj hn=>(by simp only[cX];rw[cB,if_neg (fun e=>by rw[e,hn]at hoid;cases hoid),k5];split<;>first|rfl|(rw[v4 j fun q=>by have:=(v3 j q).1;omega];exact hn)),id::(i++W),by simp only[cX,k4,v1,aO,aP],fun p hp=>?_,fun j hj=>?_⟩
        .simp only[cX]at hj|-;rw[cB]at hj;split at hj
         .rename_i e;subst e;obtain rfl:=aa hj;refine⟨by omega,?_,?_⟩
          .rw [aO,aO,bZ,if_pos rfl];exact⟨_,rfl,j8 hs2 g2 g1,hf⟩
          .rw [k2];exact fN (ao _) hs2 g2
         .rename_i e;have hji:j∉i:=fun hm=>by rw[k5,if_pos hm]at hj;simp at hj
          rw[k5,if_neg hji]at hj;obtain⟨c1,c2',c3⟩:=a3.ob j o hj;refine⟨by omega,?_,?_⟩
          .rw [aO,aO,bZ,if_neg e,aP];have:av ((gC s.next (eK c2 l).1).2.1++(bn.map (fun j=>(j,none))++H)) j=av ((gC s.next (eK c2 l).1).2.1++H) j:=by simp only[av,fP];have:=yI (h1:=H) (bn:=bn) (j:=j) fun hm=>hji (hsub.subset hm);simp only[av,fP]at this;cases bX (gC s.next (eK c2 l).1).2.1 j with|some x=>rfl|none=>exact this
           rw[this];exact nF hs2 c3 c2'
          .rw [k2];exact mr (ao _) hs2 c3
        .rcases ak.1 hp with hp|hp
         .rcases aF.1 hp with rfl|hp
          .exact .inl hid
          .have:=a8 p hp;exact .inr ⟨this.1,by simp only[cX];omega⟩
         .obtain ⟨j,hj,rfl⟩:=cz.1 hp;exact .inl (hsub.subset hj)
        .rcases ak.1 hp with hp|hp
         .rcases aF.1 hp with rfl|hp
          .simp
          .simp [v2 p hp]
         .obtain ⟨j,hj,rfl⟩:=cz.1 hp;simp[hsub.subset hj]
        .simp only[cX];rw[cB,if_neg fun e=>hj (by simp[e]),k5,if_neg fun q=>hj (by simp[q]),v4 j fun q=>hj (by simp[q])]
       obtain⟨s1,bu,e1,e2,e3⟩:=ih q m _ _ _ k hb2 hl2 (by have:=b1.le;omega) b1.hr (dA.trans hn b1.dA) hnd2;have en:(cX (gZ i s2) id (some (.bx u w))).next=(gC s.next (eK c2 l).1).2.2:=by simp only[cX,k2,g4]
       rw[en]at e2;refine⟨s1,_,e1,?_,by simpa using b1.seq e3 hd hI hJ⟩;simp only[jr,eK,bH];have:=Ms (n:=s.next) (id:=id) (bn:=bn) (rd:=rd) (by simpa using hio) e2;rw[this];simp only[aO,aP]
      .simp at hb
    |_=>simp[dJ]at hb
   |_=>simp[dJ]at hb
end
def O8(c:Sh):Bool:=vj c||wy c
section
variable{h:H2}{n:Nat}{h1:bz}
theorem Ad{c:Sh}{l l':List V}{s s':S2}{w:V}(hm:pB c false l s=some (w,l',s'))(ho:wy c=true):(eK c l).1.length=1:=by
 cases c with
 |x t=>match l with|.x u v::l=>simp only[pB]at hm;obtain⟨hc,_⟩:=aK hm;simp only[af,decide_eq_true_eq]at hc;obtain⟨rfl,_⟩:=hc;simpa[eK,bD,wy]using ho|[]|.kb _::_|.nl _::_|.so _::_|.sr _::_|.sb _ _ _ _ _::_|.op _ _ _::_|.ep _ _ _ _::_|.pt _ _::_|.fn _ _ _::_|.om _::_|.rc _::_|.tp _::_|.ni::_|.co _ _::_|.fl _::_|.no::_|.gn::_=>simp[pB]at hm
 |os t=>match l with|.x (.sl u) v::l=>rfl|[]|.kb _::_|.nl _::_|.so _::_|.sr _::_|.sb _ _ _ _ _::_|.op _ _ _::_|.ep _ _ _ _::_|.pt _ _::_|.fn _ _ _::_|.om _::_|.rc _::_|.tp _::_|.ni::_|.co _ _::_|.fl _::_|.no::_|.gn::_=>simp[pB]at hm|.x (.i _) _::_|.x .b _::_|.x .s _::_|.x (.f _) _::_|.x (.mp _ _) _::_|.x .un _::_|.x (.pr _ _) _::_|.x (.st _) _::_|.x (.ar _ _) _::_|.x (.o _) _::_=>simp[pB]at hm
 |rw t=>match l with|.x (.sl (.sl u)) v::l=>rfl|[]|.kb _::_|.nl _::_|.so _::_|.sr _::_|.sb _ _ _ _ _::_|.op _ _ _::_|.ep _ _ _ _::_|.pt _ _::_|.fn _ _ _::_|.om _::_|.rc _::_|.tp _::_|.ni::_|.co _ _::_|.fl _::_|.no::_|.gn::_=>simp[pB]at hm|.x (.sl (.i _)) _::_|.x (.sl .b) _::_|.x (.sl .s) _::_|.x (.sl (.f _)) _::_|.x (.sl (.mp _ _)) _::_|.x (.sl .un) _::_|.x (.sl (.pr _ _)) _::_|.x (.sl (.st _)) _::_|.x (.sl (.ar _ _)) _::_|.x (.sl (.o _)) _::_|.x (.i _) _::_|.x .b _::_|.x .s _::_|.x (.f _) _::_|.x (.mp _ _) _::_|.x .un _::_|.x (.pr _ _) _::_|.x (.st _) _::_|.x (.ar _ _) _::_|.x (.o _) _::_=>simp[pB]at hm
 |pb t c=>rfl
 |nl k=>rfl
 |_=>first|(simp[pB]at hm;done)|(simp[wy]at ho;done)
theorem yE:∀(rs:List Sh)(l:List V)(s:S2)(xs:List V)(l':List V)(s':S2)(h1:bz),GC rs l s=some (xs,l',s')->HR s.next h1 s.heap->rs.all O8=true->
  zk s'.heap (cC xs) (fV s.next (mT rs l)).1/\(∀x∈xs,eA s'.next s'.heap x)/\Mk s s' h1 (fV s.next (mT rs l)).2.1/\s'.next=(fV s.next (mT rs l)).2.2/\xs.length=rs.length:=by
 intro rs;induction rs with
 |nil=>intro l s xs l' s' h1 hm hr _;obtain⟨rfl,e⟩:=ad (aa hm);obtain⟨rfl,rfl⟩:=ad e;exact⟨rfl,fun x hx=>by simp at hx,Mk.skip hr (ao _),rfl,rfl⟩
 |cons c rs ih=>
  intro l s xs l' s' h1 hm hr hok;simp only[e9,af]at hok;simp only[GC]at hm;split at hm
  .rename_i x l1 s1 hm1;split at hm
   .rename_i ys l2 s2 hm2;obtain⟨rfl,e⟩:=ad (aa hm);obtain⟨rfl,rfl⟩:=ad e;obtain⟨q1,q2,q3,q4,q5,q6⟩:=tg c false l s x l1 s1 h1 hm1 hr;have q6:=q6 rfl;subst q5
    have hu:uK s.next (bif vj c then .agg (eK c l).1 else .c ((eK c l).1.headD default))=(bif vj c then .agg (gC s.next (eK c l).1).1 else .c ((gC s.next (eK c l).1).1.headD default),(gC s.next (eK c l).1).2.1,(gC s.next (eK c l).1).2.2)/\qv s1.heap x (bif vj c then .agg (gC s.next (eK c l).1).1 else .c ((gC s.next (eK c l).1).1.headD default)):=by
     cases hs:vj c with
     |true=>exact⟨rfl,vK (q6.trans hs) q1⟩
     |false=>
      have hl:(eK c l).1.length=1:=by
       have h2:wy c=true:=by simpa[O8,hs]using hok.1
       exact Ad hm1 h2
      match ht:(eK c l).1,hl with|[t],_=>rw[ht]at q1;simp only[pG]at q1;refine⟨by simp only[cond_false,bH,uK,pG],?_⟩;simp only[cond_false,pG,bH];exact c_ (q6.trans hs) q1
    obtain⟨hu1,hu2⟩:=hu;obtain⟨p1,p2,p3,p4,p5⟩:=ih (eK c l).2 s1 ys l2 s2 _ hm2 q3.hr hok.2;rw[q4]at p1 p3 p4;simp only[mT,fV,hu1];refine⟨⟨_,_,rfl,tT p3.dA q2 hu2,p1⟩,fun y hy=>?_,q3.seq p3,p4,by simp[p5]⟩;rcases aF.1 hy with rfl|hy
    .exact fN p3.le p3.dA q2
    .exact p2 y hy
   .simp at hm
  .simp at hm
end
def zP:Ty->Bool
 |.i _|.b|.s|.f _|.un=>true
 |.pr a c=>zP a&&zP c
 |.st t|.ar _ t=>zP t
 |_=>false
def N1:Sh->Bool
 |.x t=>zP t
 |_=>false
def N2:Sh->Bool
 |.os t=>zP t
 |.gn=>true
 |_=>false
def Pq(sp:l8):Bool:=sp.al.all (fun w=>w.1.all N1&&w.2.all N2)
def KW(sp:l8):Bool:=LP sp.ps sp.iR&&zD sp.ps&&sp.al.all (fun w=>w.1.all O8)&&(!sp.ro||Pq sp)
def KX(Q:List Sh->List Sh->List V->Prop):(r o:List Sh)->(w:Wy)->tG.Et r o w->Prop
 |r,o,[],z=>Q r o (mV (gG r++gG o) z)
 |r,o,(r',o')::w,z=>match z with|.inl z=>Q r o (mV (gG r++gG o) z)|.inr z=>KX Q r' o' w z
def KY(Q:List Sh->List Sh->List V->Prop):(w:Wy)->tG w->Prop
 |[],z=>nomatch z
 |(r,o)::w,z=>KX Q r o w z
def dq(P:Program)(f:FuncId)(sp:l8):Prop:=KW sp=true/\∀p z,sp.fn p=some z->KY (fun rs os l=>qV P f (fT sp.ps (mV (gG (sp.ps.map (·.2))) p)) (mT rs (l.take (gG rs).length)) (jr os (l.drop (gG rs).length))) sp.al z
def nV(P:Program)(tb:Cz):Prop:=∀e∈tb,dq P e.1 e.2
theorem nV.nil{P:Program}:nV P []:=fun e he=>by simp at he
theorem nV.cons{P:Program}{f:FuncId}{sp:l8}{tb:Cz}(h:dq P f sp)(ht:nV P tb):nV P ((f,sp)::tb):=fun e he=>by
 rcases aF.1 he with rfl|he
 .exact h
 .exact ht e he
theorem FE{β:Type}{k:List Sh->List Sh->List V->Option β}{Q:List Sh->List Sh->List V->Prop}{b:β}:∀(w:Wy)(z:tG w),Pg k w z=some b->KY Q w z->∃r o l,(r,o)∈w/\k r o l=some b/\Q r o l:=by
 have key:∀(w:Wy)(r o:List Sh)(z:tG.Et r o w),Nl k r o w z=some b->KX Q r o w z->∃r' o' l,(r',o')∈(r,o)::w/\k r' o' l=some b/\Q r' o' l:=by
  intro w;induction w with
  |nil=>intro r o z hz hq;exact⟨r,o,_,by simp,hz,hq⟩
  |cons p w ih=>intro r o z hz hq;cases z with|inl z=>exact⟨r,o,_,by simp,hz,hq⟩|inr z=>obtain⟨r',o',l,h1,h2,h3⟩:=ih p.1 p.2 z hz hq;exact⟨r',o',l,aA _ h1,h2,h3⟩
 intro w z hz hq;cases w with|nil=>exact nomatch z|cons p w=>exact key w p.1 p.2 z hz hq
theorem xh{u:Ty}{v:V}{y:El u}(h:rQ u v=some y):v=.x u y:=by cases v with|x t v=>obtain⟨rfl,rfl⟩:=cR (show fk t u v=some y from h);rfl|_=>simp[rQ]at h
theorem od:∀(cs:List Ty)(l:List V)(p:oV cs),tU cs l=some p->mV cs p=l:=by
 have key:∀(r:List Ty)(a:Ty)(l:List V)(p:oV.CE a r),CP a r l=some p->K6 a r p=l:=by
  intro r;induction r with
  |nil=>
   intro a l p h
   match l with|[]=>exact nomatch (show(none:Option (oV.CE a []))=some p from h)|[v]=>rw[xh (show rQ a v=some p from h)];rfl|_::_::_=>exact nomatch (show(none:Option (oV.CE a []))=some p from h)
  |cons c r ih=>
   intro a l p h
   match l with
   |[]=>exact nomatch (show(none:Option (oV.CE a (c::r)))=some p from h)
   |v::l=>
    have h:FM (rQ a v) (CP c r l)=some p:=h;cases hx:rQ a v with
    |none=>rw[hx]at h;exact nomatch h
    |some x=>cases hy:CP c r l with|none=>rw[hx,hy]at h;exact nomatch h|some y=>rw[hx,hy]at h;obtain rfl:=aa h;show V.x a x::K6 c r y=v::l;rw[ih c l y hy,xh hx]
 intro cs l p h
 match cs,l with|[],[]=>rfl|[],_::_=>exact nomatch (show(none:Option (oV []))=some p from h)|a::r,l=>exact key r a l p h
section
variable{h:H2}{n:Nat}{h1:bz}
theorem AJ{a b:List V}{x y:List TV}(ha:kH h a x)(hb:kH h b y):kH h (a++b) (x++y):=by induction a generalizing x with|nil=>rw[jB ha];exact hb|cons v a ih=>obtain⟨c,r,rfl,h2,h3⟩:=fg ha;exact⟨h2,ih h3⟩
theorem vG:∀(v:V)(l:List V)(cs:List C),tM v=some l->eD h v cs->eA n h v->gu h v=true->kH h l (cs.map TV.c)/\(∀w∈l,eA n h w)/\∀w∈l,gu h w=true:=by
 intro v;induction v with
 |ni=>intro l cs hl hc _ _;obtain rfl:=aa hl;obtain rfl:=hc;exact⟨trivial,fun w hw=>by simp at hw,fun w hw=>by simp at hw⟩
 |co a r iha ihr=>
  intro l cs hl hc hk hal;simp only[tM]at hl;obtain⟨h1,hl⟩:=aK hl;simp only[af,beq_iff_eq,eF]at h1;split at hl
  .rename_i l' hl';obtain rfl:=aa hl;obtain⟨x,y,rfl,h2,h3⟩:=hc;simp only[gu,af]at hal;obtain⟨q1,q2,q3⟩:=ihr l' y hl' h3 hk.2 hal.2;have hlen:=gy h2;rw[h1.1]at hlen
   match x,hlen with
   |[c],_=>
    refine⟨⟨bM (c_ h1.2 h2),q1⟩,fun w hw=>?_,fun w hw=>?_⟩
    .rcases aF.1 hw with rfl|hw
     .exact hk.1
     .exact q2 w hw
    .rcases aF.1 hw with rfl|hw
     .exact hal.1
     .exact q3 w hw
  .simp at hl
 |_=>intro l cs hl;simp[tM]at hl
theorem D0:∀(tb:Cz)(f:Nat)(vs:List V)(sp:l8)(l:List V)(i:List Nat)(q:List (V×List Nat)),yP h f vs tb=some (sp,l,i,q)->(f,sp)∈tb/\sD h sp.ps vs=some (l,i,q):=by
 intro tb;induction tb with
 |nil=>intro f vs sp l i q hf;simp[yP]at hf
 |cons e tb ih=>
  obtain⟨g,Qa⟩:=e;intro f vs sp l i q hf;simp only[yP]at hf;cases hg:(g==f)with
  |false=>rw[hg,cond_false]at hf;obtain⟨h2,h3⟩:=ih f vs sp l i q hf;exact⟨aA _ h2,h3⟩
  |true=>
   rw[hg,cond_true]at hf;obtain rfl:g=f:=by simpa using hg
   split at hf
   .rename_i l' i' q' ha;simp only[bl,Prod.mk.injEq]at hf;obtain⟨rfl,rfl,rfl,rfl⟩:=hf;exact⟨by simp,ha⟩
   .obtain ⟨h2,h3⟩:=ih g vs sp l i q hf;exact⟨aA _ h2,h3⟩
theorem By:∀{l:List Nat},wB l=true->l.Nodup:=by intro l;induction l with|nil=>intro _;exact List.nodup_nil|cons a l ih=>intro hl;simp only[wB,af,eF,List.contains_eq_mem,decide_eq_false_iff_not]at hl;exact List.nodup_cons.2 ⟨hl.1,ih hl.2⟩
theorem u4.bn:∀{q:List (V×List Nat)}{lent:List (C×List Nat×List Nat)},u4 h n h1 q lent->
  (lent.flatMap (fun(p:C×List Nat×List Nat)=>p.2.1)).Sublist (q.flatMap (·.2))/\(∀j∈lent.flatMap (fun(p:C×List Nat×List Nat)=>p.2.2),j∈q.flatMap (·.2)):=by
 intro q;induction q with
 |nil=>rintro lent rfl;exact⟨bS _,fun j hj=>hj⟩
 |cons p q ih=>
  rintro lent ⟨x,m,rfl,hx,hm⟩;obtain⟨a,b⟩:=ih hm;simp only[bf];refine⟨hx.2.2.2.1.append a,fun j hj=>?_⟩;rcases ak.1 hj with hj|hj
  .exact aE _ (hx.2.2.2.2.2.1 j hj)
  .exact aC _ (b j hj)
theorem CJ(hr:HR n h1 h):∀{q:List (V×List Nat)}{lent:List (C×List Nat×List Nat)},u4 h n h1 q lent->dU h1 lent=true:=by
 intro q;induction q with
 |nil=>rintro lent rfl;rfl
 |cons p q ih=>
  obtain⟨v,i⟩:=p;rintro lent ⟨⟨c,bn,rd⟩,m,rfl,hx,hm⟩;have hw:=ih hm;obtain⟨hc,_,_,_,_,_,_,hsh⟩:=hx;cases c with
  |dz sz id off len=>
   cases v with
   |so id'=>obtain⟨_,u,s,ver,ho⟩:=hsh;obtain⟨cc,e,hcc⟩:=hc;obtain rfl:=eL.1 e;have e2:=hcc.1 _ (ki (.inl ho));cases s with|nil=>simp[jm]at e2|mk l=>simp only[jm,C.dz.injEq]at e2;obtain⟨rfl,rfl,rfl,rfl⟩:=e2;exact Qh ((hr.ob _ _ ho).2.1.2.2 l rfl) hw
   |sr jd=>obtain⟨_,u,s,ho⟩:=hsh;obtain⟨cc,e,hcc⟩:=hc;obtain rfl:=eL.1 e;have e2:=hcc.1 _ (qy ho);cases s with|nil=>simp[jm]at e2|mk l=>simp only[jm,C.dz.injEq]at e2;obtain⟨rfl,rfl,rfl,rfl⟩:=e2;have hl:=(hr.ob _ _ ho).2.1.2.2 l rfl;simp only[dU,hl,di,aI,beq_self_eq_true,Bool.and_self,Bool.true_and];exact hw
   |nl k=>have:[C.dz sz id off len]=[yD k]:=hc
          simp[yD]at this
   |op a b2 e=>have:[C.dz sz id off len]=[C.op a (k_ b2 e)]:=hc
               simp at this
   |_=>exact hsh.elim
  |_=>exact hw
end
section
variable{P:Program}{h1:bz}{β:Type}{s:S2}{k:V->S2->List Nat->Option β}{z:β}
def RU(P:Program)(h1:bz)(kk:K)(xs:List TV)(s:S2)(k:V->S2->List Nat->Option β)(z:β):Prop:=∃v s' l,k v s' l=some z/\∃call:Call,lE P call/\∃x u aw m,cm call kk (xs.map some) h1 s.next=some (x,u,aw,m)/\oX s s' h1 x u aw m v l
theorem L9{b:Bool}{f:Nat}{caps:V}{xf:TV}{cs:List V}(hf:eW s.heap (.fn b f caps) xf)(hk:eA s.next s.heap (.fn b f caps))(ha:gu s.heap (.fn b f caps)=true)(hc:tM caps=some cs):
  ∃cc,JH (some xf)=some (f,cc)/\kH s.heap cs (cc.map TV.c)/\(∀w∈cs,eA s.next s.heap w)/\∀w∈cs,gu s.heap w=true:=by
 rcases CO hf with⟨rfl,ds,hd,rfl⟩|⟨rfl,xs,hd,rfl⟩
 .obtain ⟨a1,a2⟩:=xw (h:=s.heap) caps ha;exact⟨ds.map .d,rfl,vG caps cs _ hc (Kf caps ds hd) (a2 _) a1⟩
 .exact ⟨xs,rfl,vG caps cs _ hc hd hk ha⟩
theorem A9{xs:List V}{vs:List TV}{g:H2}{m:Nat}(h:zk g (cC xs) vs)(hk:∀x∈xs,eA m g x):eW g (ND xs) (qA vs)/\eA m g (ND xs):=by
 have hrow:∀(l:List V),(∀x∈l,eA m g x)->eA m g (cC l):=by intro l;induction l with|nil=>intro _;trivial|cons a l ih=>intro hl;exact⟨hl a (by simp),ih fun x hx=>hl x (by simp[hx])⟩
 match xs with|[]=>obtain rfl:=h;exact⟨⟨[],rfl,rfl⟩,trivial⟩|[v]=>obtain⟨x,ys,rfl,h2,h3⟩:=h;obtain rfl:=h3;exact⟨bM h2,hk v (by simp)⟩|a::b::l=>obtain⟨x,ys,rfl,h2,h3⟩:=h;obtain⟨y,zs,rfl,h4,h5⟩:=h3;exact⟨⟨_,rfl,_,_,rfl,h2,_,_,rfl,h4,h5⟩,hrow _ hk⟩
theorem BI:∀(t:Ty)(v:El t),zP t=true->∀d∈aM t v,∃y,d=.lit y:=by
 intro t;induction t with
 |pr a c iha ihc=>
  intro v h d hd;simp only[zP,af]at h;rcases ak.1 (show d∈aM a v.1++aM c v.2 from hd)with hd|hd
  .exact iha _ h.1 d hd
  .exact ihc _ h.2 d hd
 |st t ih=>intro v h d hd;exact ih v h d hd
 |ar n t ih=>intro v h d hd;obtain⟨a,_,ha⟩:=List.mem_flatMap.1 (show d∈v.1.flatMap (aM t)from hd);exact ih a h d ha
 |un=>intro v h d hd;exact absurd (show d∈[]from hd) (by simp)
 |i k=>intro v h d hd;exact⟨_,am.1 (show d∈[_]from hd)⟩
 |b=>intro v h d hd;exact⟨_,am.1 (show d∈[_]from hd)⟩
 |s=>intro v h d hd;exact⟨_,am.1 (show d∈[_]from hd)⟩
 |f k=>intro v h d hd;exact⟨_,am.1 (show d∈[_]from hd)⟩
 |_=>intro v h;simp[zP]at h
theorem I3:∀(rs:List Sh)(l:List V)(s:S2)(xs:List V)(l':List V)(s':S2),GC rs l s=some (xs,l',s')->rs.all N1=true->rs.all O8=true->(mT rs l).all uh=true:=by
 intro rs;induction rs with
 |nil=>intro l s xs l' s' _ _ _;rfl
 |cons c rs ih=>
  intro l s xs l' s' hm hl ho;simp only[e9,af]at hl ho;simp only[GC]at hm;split at hm
  .rename_i x l1 s1 hm1;split at hm
   .rename_i ys l2 s2 hm2;cases c with
    |x t=>
     have ho1:=ho.1
     match l with
     |.x u v::l=>
      have hm1':=hm1;simp only[pB]at hm1;obtain⟨hc,hm3⟩:=aK hm1;simp only[af,decide_eq_true_eq]at hc;obtain⟨rfl,_⟩:=hc;obtain⟨rfl,e⟩:=ad (aa hm3);obtain⟨rfl,rfl⟩:=ad e;have hlit:=BI u v hl.1;simp only[mT,eK,e9,af];refine⟨?_,ih _ _ _ _ _ hm2 hl.2 ho.2⟩;cases hs:vj (.x u)with
      |true=>simp only[cond_true,uh,aV];intro t ht;obtain⟨d,hd,rfl⟩:=cz.1 ht;obtain⟨y,rfl⟩:=hlit d hd;rfl
      |false=>
       have h2:wy (.x u)=true:=by simpa[O8,hs]using ho1
       have hlen:=Ad hm1' h2;simp only[eK,aI]at hlen
       match he:aM u v,hlen with|[d],_=>obtain⟨y,rfl⟩:=hlit d (by rw[he];simp);rfl
     |[]|.kb _::_|.nl _::_|.so _::_|.sb _ _ _ _ _::_|.op _ _ _::_|.ep _ _ _ _::_|.pt _ _::_|.fn _ _ _::_|.om _::_|.rc _::_|.tp _::_|.ni::_|.co _ _::_|.fl _::_|.no::_|.gn::_=>simp[pB]at hm1
    |_=>simp[N1]at hl
   .simp at hm
  .simp at hm
theorem I4{t:Ty}(v:El (.sl t))(h:zP t=true):Dp (xD (bm t) (aM t) v)=true:=by cases v with|nil=>rfl|mk l=>show(l.map (aM t)).all _=true;rw[List.all_map,aV];intro x _;show(aM t x).all _=true;rw[aV];intro d hd;obtain⟨y,rfl⟩:=BI t x h d hd;rfl
theorem I5{β:Type}{z:β}:∀(os:List Sh)(q:List (V×List Nat))(l:List V)(s:S2)(k:S2->Option β),dJ os q l s k=some z->os.all N2=true->(jr os l).all Dp=true:=by
 intro os;induction os with
 |nil=>intro q l s k _ _;rfl
 |cons c os ih=>
  intro q l s k hb ho;simp only[e9,af]at ho;obtain⟨h1,h2⟩:=ho;cases c with
  |gn=>cases q with|nil=>simp[dJ]at hb|cons p q=>simp only[dJ]at hb;have:=ih _ _ _ _ hb h2;simp only[jr,eK,e9,bH,this,Bool.and_true];rfl
  |os t=>
   have hh:∀(u:Ty)(v:El (.sl u))(l:List V)(q':List (V×List Nat))(s':S2),(∃y,fk (.sl u) (.sl t) v=some y)->(hb:dJ os q' l s' k=some z)->(jr (.os t::os) (.x (.sl u) v::l)).all Dp=true:=by
    intro u v l q' s' ⟨y,hy⟩ hb2;obtain⟨e,_⟩:=cR hy;have e:u=t:=by injection e
    subst e;have:=ih _ _ _ _ hb2 h2;simp only[jr,eK,e9,bH,this,Bool.and_true];exact I4 v h1
   cases q with
   |nil=>simp[dJ]at hb
   |cons p q=>
    obtain⟨pv,pi⟩:=p;cases l with
    |nil=>cases pv<;>simp[dJ]at hb
    |cons x l=>
     cases x with
     |x u v=>
      cases u with
      |sl u=>
       cases pv with
       |nl n=>
        cases n with
        |zero=>
         cases pi with
         |nil=>
          simp only[dJ]at hb;split at hb
          .rename_i y hy;obtain⟨_,_,hb⟩:=oZ hb;exact hh u v l q s ⟨y,hy⟩ hb
          .cases hb
         |cons _ _=>simp[dJ]at hb
        |succ n=>simp[dJ]at hb
       |so id=>
        simp only[dJ]at hb;split at hb
        .rename_i w old ver y ho hy;split at hb
         .obtain ⟨_,_,hb⟩:=oZ hb;exact hh u v l q _ ⟨y,hy⟩ hb
         .cases hb
        .cases hb
       |_=>simp[dJ]at hb
      |_=>cases pv<;>simp[dJ]at hb
     |_=>cases pv<;>simp[dJ]at hb
  |_=>simp[N2]at h1
theorem Eh{tb:Cz}{ro:Bool}{iR:List Bool}{f:V}{vs:List V}{xf:TV}{xs:List TV}(htb:nV P tb)(hz:vB tb ro iR f vs s k=some z)(hr:HR s.next h1 s.heap)(hf:eW s.heap f xf)(hfk:eA s.next s.heap f)(hfa:gu s.heap f=true)
  (hx:kH s.heap vs xs) (hk:∀w∈vs,eA s.next s.heap w) (ha:∀w∈vs,gu s.heap w=true):RU P h1 (.call ro iR) (xf::xs) s k z:=by
 cases f with
 |fn b fid caps=>
  simp only[vB]at hz;split at hz
  case h_2=>simp at hz
  rename_i sp pay j q hfs;split at hfs
  case h_2=>simp at hfs
  rename_i cs hcs;obtain⟨hmem,hargs⟩:=D0 tb fid _ sp pay j q hfs;obtain⟨hwy,hgood⟩:=htb _ hmem;simp only[KW,af]at hwy;obtain⟨⟨⟨w1,w2⟩,w3⟩,w4⟩:=hwy;obtain⟨hc,hz2⟩:=aK hz;simp only[af,decide_eq_true_eq]at hc;obtain⟨⟨⟨c1,c2⟩,c3⟩,c4⟩:=hc;clear hz;split at hz2
  case h_2=>simp at hz2
  rename_i p hp;obtain⟨zz,hzz,hz3⟩:=oZ hz2;obtain⟨rs,os,l,hm,hk3,hg⟩:=FE sp.al zz hz3 (hgood p zz hzz);rw[od _ _ _ hp]at hg;obtain⟨cc,hfn,d1,d2,d3⟩:=L9 hf hfk hfa hcs;rw[c2]at w1;obtain⟨aw,lent,e1,e2,e3,e4⟩:=Cu hr sp.ps (vs++cs) iR pay j q (xs++cc.map TV.c) hargs (AJ hx d1) (fun w hw=>(ak.1 hw).elim (hk w) (d2 w)) (fun w hw=>(ak.1 hw).elim (ha w) (d3 w)) w1 w2;obtain⟨o1,o2⟩:=e4.bn;have hnd:=By c3;have hap:∀i∈i_ (fun(p:V×List Nat)=>p.2) q,i∉j:=fun i hi=>by simpa using aV.1 c4 i hi
  have hdec:decide ((lent.flatMap (fun(p:C×List Nat×List Nat)=>p.2.1)).Nodup/\(lent.flatMap (fun(p:C×List Nat×List Nat)=>p.2.1)).all (fun i=>!aw.contains i)=true)=true:=by refine decide_eq_true ⟨o1.nodup hnd,aV.2 fun i hi=>?_⟩;have:=hap i (o1.subset hi);simpa using fun hm=>this (e2 i hm).1
  have hwl:=CJ hr e4;have hokR:rs.all O8=true:=aV.1 w3 _ hm;cases ro with
  |true=>
   have hro:sp.ro=true:=by simpa using c1
   rw[hro]at w4;have w5:Pq sp=true:=by simpa using w4
   have v3:=aV.1 w5 _ hm;simp only[af]at v3;simp only[cond_true]at hk3;obtain⟨s1,bu,b1,b2,b3⟩:=xp hr os q lent _ s h1 _ hk3 e4 (ao _) hr (ik.refl _ _) hnd;split at b1
   case h_2=>simp at b1
   rename_i ys l2 s2 hmk;obtain⟨m1,m2,m3,m4,m5⟩:=yE rs _ s1 ys l2 s2 _ hmk b3.hr hokR;obtain⟨t1,t2⟩:=A9 m1 m2;have hlit:=I3 rs _ s1 ys l2 s2 hmk v3.1 hokR;have hout:=I5 os q _ s _ hk3 v3.2;refine⟨_,_,_,b1,only fid (fT sp.ps pay) (mT rs (l.take (gG rs).length)) (jr os (l.drop (gG rs).length)),EW hg,?_⟩;have hld:=LZ (h:=h1) (aw:=aw) hlit hout b2;obtain⟨g1,g2⟩:=Fv (ro:=true) hfn (lD xs) e1 hwl hdec hld;refine⟨_,_,_,_,y9 g1 g2,?_⟩;obtain⟨W1,x1,x2,x3⟩:=b3.wo;obtain⟨W2,y1,y2,y3,y4⟩:=m3.wo;refine⟨t1,t2,?_,b3.dA.trans b3.le m3.dA,by rw[m3.db,b3.db],by rw[m3.gh,b3.gh],by omega,by have:=b3.le;have:=m3.le;omega,fun i hi=>?_,fun i hi h=>(by rw[y4 i fun q=>by have:=(y3 i q).1;have:=b3.le;omega];exact b3.nb i hi h),W2++W1,by rw[y1,x1];simp only[aP],fun p hp=>?_,fun i hi=>?_⟩
   .have:=m3.hr;simpa only[aP]using this
   .rcases ak.1 hi with hi|hi
    .exact aE _ (e2 i hi).1
    .exact aC _ (o2 i hi)
   .simp only[ak]at hp|-;rcases hp with hp|hp
    .exact .inl (y2 p hp)
    .exact .inr (x2 p hp)
   .simp only[ak,not_or]at hi;rw[y4 i hi.1,x3 i hi.2]
  |false=>
   simp only[cond_false]at hk3;split at hk3
   case h_2=>simp at hk3
   rename_i s0 hs0;obtain⟨fu,f1,f2,f3,f4,f5,f6,f7,f8,f9⟩:=z6 (s0:=s) rfl hr j s0 aw aw hs0 e2 e3;obtain⟨s1,bu,b1,b2,b3⟩:=xp hr os q lent _ s0 (fu++h1) _ hk3 e4 (by omega) (by rw[f6];exact f2) f3 hnd;split at b1
   case h_2=>simp at b1
   rename_i ys l2 s2 hmk;obtain⟨m1,m2,m3,m4,m5⟩:=yE rs _ s1 ys l2 s2 _ hmk b3.hr hokR;obtain⟨t1,t2⟩:=A9 m1 m2;rw[f6]at b2;refine⟨_,_,_,b1,only fid (fT sp.ps pay) (mT rs (l.take (gG rs).length)) (jr os (l.drop (gG rs).length)),EW hg,?_⟩;have hld:=Rt (rs:=mT rs (l.take (gG rs).length)) f1 b2;obtain⟨g1,g2⟩:=Fv (ro:=false) hfn (lD xs) e1 hwl hdec hld;refine⟨_,_,_,_,y9 g1 g2,?_⟩;obtain⟨W1,x1,x2,x3⟩:=b3.wo;obtain⟨W2,y1,y2,y3,y4⟩:=m3.wo;refine⟨t1,t2,?_,(f3.trans (Nat.le_of_eq f6.symm) b3.dA).trans (by have:=b3.le;omega) m3.dA,by rw[m3.db,b3.db,f4],by rw[m3.gh,b3.gh,f5],by omega,by have:=b3.le;have:=m3.le;omega,fun i hi=>?_,fun i hi h=>(by rw[y4 i fun q=>by have:=(y3 i q).1;have:=b3.le;omega];exact b3.nb i (by omega) ((f9 i fun q=>DU rfl hs0 i q h).trans h)),W2++W1++j,by rw[y1,x1,f7];simp only[aP],fun p hp=>?_,fun i hi=>?_⟩
   .have:=m3.hr;simpa only[aP]using this
   .rcases ak.1 hi with hi|hi
    .exact aE _ (e2 i hi).1
    .exact aC _ (o2 i hi)
   .simp only[aP,ak]at hp|-;rcases hp with hp|hp|hp
    .exact .inl (y2 p hp)
    .exact .inr (.inl (x2 p hp))
    .exact .inr (.inr (f8 p hp))
   .simp only[aP,ak,not_or]at hi;rw[y4 i hi.1,x3 i hi.2.1,f9 i hi.2.2]
 |_=>simp[vB]at hz
end
def kg:Prop:=∀g v,Jv g=some v->∃d,Oe g=some d/\∀h n,eW h v (.c (.d d))/\eA n h v/\gu h v=true
theorem tF{n:Nat}{h h':H2}(hs:ik n h h')(hnb:∀i,i<n->fO h i=none->fO h' i=none):∀{v:V},eA n h v->gu h' v=true->gu h v=true:=by
 have key:∀id,id<n->(match fO h' id with|some _=>true|none=>false)=true->(match fO h id with|some _=>true|none=>false)=true:=by intro id hid ha;cases ho:fO h id with|some _=>rfl|none=>rw[hnb id hid ho]at ha;simp at ha
 intro v;induction v with
 |so id=>
  intro hk ha;have hk:id<n:=hk;simp only[gu]at ha|-;split at ha
  .rename_i t s v ho;obtain⟨s0,v0,h1,_⟩:=q8 hs hk (.inl ho);rcases h1 with h1|h1<;>rw[h1]
  .rename_i t s v ho;obtain⟨s0,v0,h1,_⟩:=q8 hs hk (.inr ho);rcases h1 with h1|h1<;>rw[h1]
  .simp at ha
 |sr id=>
  intro hk ha;have hk:id<n:=hk;simp only[gu]at ha|-;split at ha
  .rename_i t s ln ho;obtain⟨s0,ln0,h1,_⟩:=EK hs hk ho;rw[h1]
  .simp at ha
 |sb id ver lo t r=>
  rintro⟨hid,hk⟩ ha;obtain⟨hd,ha⟩:=cJ.1 ha;have ha:As h' id ver=true:=ha;obtain⟨u,s,ho⟩:=j9 ha;obtain⟨s0,v0,h3,h4,_,_⟩:=q8 hs hid ho;obtain⟨h7,_⟩:=hk u s0 v0 h3;have:v0=ver:=by omega
  subst this;refine cJ.2 ⟨hd,?_⟩;rcases h3 with h3|h3<;>rw[h3]<;>simp
 |op id t p=>rintro⟨hid,_⟩ ha;exact key id hid ha
 |ep id m t p=>rintro⟨hid,_⟩ ha;exact key id hid ha
 |om id=>intro hid ha;exact key id hid ha
 |fn z f l ih=>intro hk ha;cases z with|true=>exact ha|false=>exact ih hk ha
 |rc l ih=>intro hk ha;exact ih hk ha
 |tp l ih=>intro hk ha;exact ih hk ha
 |co a r iha ihr=>rintro⟨h1,h2⟩ ha;simp only[gu,af]at ha|-;exact⟨iha h1 ha.1,ihr h2 ha.2⟩
 |_=>intro _ ha;exact ha
def HB(h:H2):V->List C->Prop
 |.ni,cs=>cs=[]
 |.co a r,cs=>∃c m,cs=c::m/\(gu h a=true->eD h a [c])/\HB h r m
 |_,_=>False
theorem BW{n:Nat}{h h':H2}(hs:ik n h h')(hnb:∀i,i<n->fO h i=none->fO h' i=none):∀{v:V}{cs:List C},eA n h v->HB h v cs->HB h' v cs:=by intro v;induction v with|co a r _ ihr=>rintro cs ⟨h1,h2⟩ ⟨c,m,rfl,h3,h4⟩;exact⟨c,m,rfl,fun ha=>j8 hs h1 (h3 (tF hs hnb h1 ha)),ihr h2 h4⟩|ni=>intro cs _ h;exact h|_=>intro cs _ h;exact h.elim
structure R2(s1:St)(s:S2):Prop where
 db:∀t v,bX s.db t=some v->eA s.next s.heap v/\(gu s.heap v=true\/v=.no->∃x,bX s1.db t=some x/\eW s.heap v x)
 hr:HR s.next s1.heap s.heap
 next:s1.next<=s.next
 gh:HB s.heap s.gh s1.gh/\eA s.next s.heap s.gh
theorem Ii{v:Value}(hp:dP v=true)(ha:∀cs,v≠.agg cs):cv v=some (.c (.d (.lit v))):=by
 unfold cv;split
 .rename_i cs;exact absurd rfl (ha cs)
 .rw [if_pos hp]
theorem Fs{c:Value}{v:V}(hc:Qf c=some v)(h:H2)(n:Nat):∃x,cv c=some x/\eW h v x/\eA n h v/\gu h v=true:=by
 unfold Qf at hc;split at hc
 case h_10=>
  rename_i cs;split at hc
  .rename_i hp;obtain rfl:=aa hc;refine⟨.agg (cs.toList.map fun v=>.d (.lit v)),by simp only[cv];rw[if_pos hp],bM (vK rfl ⟨hp,rfl⟩),trivial,hp⟩
  .simp at hc
 case h_11=>simp at hc
 all_goals
  obtain rfl:=aa hc;exact⟨_,Ii rfl (fun cs e=>by cases e),bM (c_ rfl (by first|rfl|exact⟨rfl,rfl⟩)),trivial,rfl⟩
theorem mq(hg:kg){s1:St}{s:S2}(hr:R2 s1 s){o:Operand}{v:V}(ho:Hy s.db s.heap o=some v):∃x,jq s1.db o=some x/\eW s.heap v x/\eA s.next s.heap v/\gu s.heap v=true:=by
 cases o with
 |tmp t=>
  simp only[Hy]at ho;split at ho
  .rename_i w hw;obtain⟨ha,ho⟩:=aK ho;obtain rfl:=aa ho;obtain⟨h3,h4⟩:=hr.db t w hw;obtain⟨x,h1,h2⟩:=h4 (.inl ha);exact⟨x,h1,h2,h3,ha⟩
  .simp at ho
 |const c=>exact Fs ho _ _
 |global g=>obtain⟨d,h1,h2⟩:=hg g v ho;exact⟨_,by simp only[jq,h1,Option.map_some],h2 _ _⟩
 |func f=>obtain rfl:=aa ho;exact⟨_,rfl,bM (c_ rfl ⟨[],rfl,rfl⟩),trivial,rfl⟩
structure qk(s1:St)(s:S2)(q:Rg):Prop where
 r:R2 s1 s
 kn:∀g b,N9 q.kn g=some b->bX s1.db g=some (tB b)
 cd:∀t g b v,bX q.cd t=some (g,b,v)->∃c,bX s1.db g=some (tB c)/\(c=b->∃x,bX s1.db t=some x/\eW s.heap v x/\eA s.next s.heap v)
theorem Nv{a b:Bool}(h:tB a=tB b):a=b:=by simpa[tB]using h
theorem sV(hg:kg){s1:St}{s:S2}{q:Rg}(hr:qk s1 s q){gc:Option (Nat×Bool)}(hgc:∀g b,gc=some (g,b)->bX s1.db g=some (tB b)){o:Operand}{v:V}(ho:Hz s q gc o=some v):
  ∃x,jq s1.db o=some x/\eW s.heap v x/\eA s.next s.heap v/\gu s.heap v=true:=by
 cases o with
 |tmp t=>
  simp only[Hz]at ho;split at ho
  .rename_i g b w hw;obtain⟨hc,ho⟩:=aK ho;obtain⟨ha,ho⟩:=aK ho;obtain rfl:=aa ho;obtain⟨c,h1,h2⟩:=hr.cd t g b w hw
   have hb:bX s1.db g=some (tB b):=by
    simp only[bY,decide_eq_true_eq]at hc;rcases hc with hc|hc
    .exact hgc g b hc
    .exact hr.kn g b hc
   rw[h1]at hb;obtain⟨x,h3,h4,h5⟩:=h2 (Nv (aa hb));exact⟨x,h3,h4,h5,ha⟩
  .exact mq hg hr.r ho
 |const c=>exact mq hg hr.r ho
 |global g=>exact mq hg hr.r ho
 |func f=>exact mq hg hr.r ho
theorem yz(hg:kg){s1:St}{s:S2}{q:Rg}(hr:qk s1 s q){gc:Option (Nat×Bool)}(hgc:∀g b,gc=some (g,b)->bX s1.db g=some (tB b)):∀(os:List Operand)(vs:List V),Dx s q gc os=some vs->
  ∃xs,os.map (jq s1.db)=xs.map some/\kH s.heap vs xs/\(∀w∈vs,eA s.next s.heap w)/\∀w∈vs,gu s.heap w=true:=by
 intro os;induction os with
 |nil=>intro vs ho;obtain rfl:=aa ho;exact⟨[],rfl,trivial,fun w hw=>by simp at hw,fun w hw=>by simp at hw⟩
 |cons o os ih=>
  intro vs ho;simp only[Dx]at ho;split at ho
  .rename_i v l hv hl;obtain rfl:=aa ho;obtain⟨x,h1,h2,h3,h4⟩:=sV hg hr hgc hv;obtain⟨xs,g1,g2,g3,g4⟩:=ih l hl;refine⟨x::xs,by simp[h1,g1],⟨h2,g2⟩,fun w hw=>?_,fun w hw=>?_⟩
   .rcases aF.1 hw with rfl|hw
    .exact h3
    .exact g3 w hw
   .rcases aF.1 hw with rfl|hw
    .exact h4
    .exact g4 w hw
  .simp at ho
theorem J8{h:H2}{t:Ty}{w:V}{b:El t}{x:TV}(hd:je t=true)(hx:eW h w x)(hc:rn t w=some b):eW h (.x t b) x:=by obtain⟨cs,h1,h2,h3⟩:=mO (M4 hc) hx;have e:=gW w false t b cs hc h1;have ha:=ut hc;exact bM ⟨cs,⟨hd,e⟩,fun q=>h2 (ha.trans q),fun q=>h3 (ha.trans q)⟩
theorem BE{h:H2}{c:Bool}{a b v:V}{x:TV}(hm:Rr c a b=some v)(ha:gu h a=true)(hb:gu h b=true)(h1:c=true->eW h a x)(h2:c=false->eW h b x):eW h v x/\∀n,eA n h v:=by
 unfold Rr at hm;split at hm
 .rename_i p q;obtain rfl:=aa hm;refine⟨?_,fun _=>trivial⟩;cases c with|true=>rw[tR (h1 rfl)];exact xb _|false=>rw[tR (h2 rfl)];exact xb _
 .rename_i t p w;split at hm
  .rename_i y hy;obtain rfl:=aa hm;refine⟨?_,fun _=>trivial⟩;cases c with|true=>exact h1 rfl|false=>exact J8 ha (h2 rfl) hy
  .simp at hm
 .rename_i t p w;split at hm
  .rename_i y hy;obtain rfl:=aa hm;refine⟨?_,fun _=>trivial⟩;cases c with|true=>exact J8 hb (h1 rfl) hy|false=>exact h2 rfl
  .simp at hm
 .simp at hm
theorem vr(hg:kg){e:List (Nat×V)}{h:H2}{o:Operand}{v:V}(ho:Hy e h o=some v):gu h v=true:=by
 cases o with
 |tmp t=>
  simp only[Hy]at ho;split at ho
  .obtain ⟨ha,ho⟩:=aK ho;obtain rfl:=aa ho;exact ha
  .simp at ho
 |const c=>obtain⟨_,_,_,_,ha⟩:=Fs ho h 0;exact ha
 |global g=>obtain⟨d,_,h2⟩:=hg g v ho;exact(h2 h 0).2.2
 |func f=>obtain rfl:=aa ho;rfl
theorem EV(hg:kg){s:S2}{q:Rg}{gc:Option (Nat×Bool)}{o:Operand}{v:V}(ho:Hz s q gc o=some v):gu s.heap v=true:=by
 cases o with
 |tmp t=>
  simp only[Hz]at ho;split at ho
  .obtain ⟨hc,ho⟩:=aK ho;obtain⟨ha,ho⟩:=aK ho;obtain rfl:=aa ho;exact ha
  .exact vr hg ho
 |const c=>exact vr (e:=s.db) (o:=.const c) hg ho
 |global g=>exact vr (e:=s.db) (o:=.global g) hg ho
 |func f=>exact vr (e:=s.db) (o:=.func f) hg ho
theorem Ga(hg:kg){s1:St}{s:S2}{q:Rg}(hr:qk s1 s q){gc:Option (Nat×Bool)}(hgc:∀g b,gc=some (g,b)->bX s1.db g=some (tB b)){os:List Operand}{v:V}(hp:Ik s q gc os=some v)(c:Call)(H:bz)(nx:Nat):
  ∃x,cm c .pick (os.map (jq s1.db)) H nx=some (x,[],[],nx)/\eW s.heap v x/\eA s.next s.heap v:=by
 have one:∀(g a b:Operand)(t:Bool)(w:V),jq s1.db g=some (tB t)->Hz s q gc (bif t then a else b)=some w->∃x,cm c .pick ([g,a,b].map (jq s1.db)) H nx=some (x,[],[],nx)/\eW s.heap w x/\eA s.next s.heap w:=by intro g a b t w h1 h2;obtain⟨x,h3,h4,h5,_⟩:=sV hg hr hgc h2;refine⟨x,?_,h4,h5⟩;simp only[aq,aS,h1];cases t with|true=>simp only[cond_true]at h3;rw[h3];rfl|false=>simp only[cond_false]at h3;rw[h3];rfl
 unfold Ik at hp;split at hp
 .rename_i g a b;split at hp
  .rename_i _ _ t hk;exact one _ a b t v (hr.kn g t hk) hp
  .rename_i t hk he;obtain⟨x,h1,h2⟩:=(hr.r.db g _ he).2 (.inl rfl);rw[tR h2]at h1;exact one _ a b t v h1 hp
  .rename_i t hk he;obtain⟨x,h1,h2⟩:=(hr.r.db g _ he).2 (.inl rfl)
   .rw [EF h2]at h1;split at hp
    .rename_i x y hx hy;have ax:=EV hg hx;have ay:=EV hg hy;cases t with|true=>obtain⟨z,g1,g2,_⟩:=sV hg hr (gc:=some (g,true)) (fun g' b' e=>by cases e;exact h1) hx;obtain⟨m1,m2⟩:=BE hp ax ay (fun _=>g2) (fun e=>by cases e);refine⟨z,?_,m1,m2 _⟩;have h1':jq s1.db (.tmp g)=some (tB true):=h1;simp only[aq,aS,h1',g1];rfl|false=>obtain⟨z,g1,g2,_⟩:=sV hg hr (gc:=some (g,false)) (fun g' b' e=>by cases e;exact h1) hy;obtain⟨m1,m2⟩:=BE hp ax ay (fun e=>by cases e) (fun _=>g2);refine⟨z,?_,m1,m2 _⟩;have h1':jq s1.db (.tmp g)=some (tB false):=h1;simp only[aq,aS,h1',g1];rfl
    .simp at hp
  .simp at hp
 .rename_i t a b;exact one _ a b t v rfl hp
 .simp at hp
theorem F9{s:S2}{q:Rg}{gc:Option (Nat×Bool)}{os:List Operand}{vs:List V}(ho:Dx s q gc os=some vs)(hp:Lw os=true):∀a k b,vs=[a,.x (.i k) b]->0<b:=by
 intro a k b e;subst e
 match os with
 |[o,.const (.int k' m)]=>
  simp only[Lw,decide_eq_true_eq]at hp;simp only[Dx,Hz,Hy,Qf]at ho;split at ho
  .rename_i v l hv hl;simp only[bl]at hl;subst hl;simp only[bl,List.cons.injEq,and_true]at ho;obtain⟨_,e⟩:=ho;cases e;exact hp
  .simp at ho
theorem yh(hg:kg){s1:St}{s:S2}{q:Rg}(hr:qk s1 s q){gc:Option (Nat×Bool)}(hgc:∀g b,gc=some (g,b)->bX s1.db g=some (tB b)){o:OP}{v:V}{l:List Nat}(ht:K9 o s q gc=some (v,l))(c:Call)(nx:Nat):
  ∃x aw,cm c o.o.k (o.o.args.map (jq s1.db)) s1.heap nx=some (x,[],aw,nx)/\eW s.heap v x/\eA s.next s.heap v/\∀i∈aw,i∈l:=by
 unfold K9 at ht;cases hpk:DS o.o.k with
 |true=>
  rw[hpk,cond_true]at ht;split at ht
  .rename_i w hw;obtain⟨rfl,rfl⟩:=ad (aa ht);obtain⟨x,h1,h2,h3⟩:=Ga hg hr hgc hw c s1.heap nx;have hk:o.o.k=.pick:=by revert hpk;cases o.o.k<;>simp[DS]
   rw[hk];exact⟨x,[],h1,h2,h3,fun i hi=>by simp at hi⟩
  .simp at ht
 |false=>
  rw[hpk,cond_false]at ht;split at ht
  .rename_i vs hvs;obtain⟨xs,h1,h2,h3,h4⟩:=yz hg hr hgc _ _ hvs;rw[h1];exact FN hr.r.hr ht h2 h3 h4 (fun hp=>F9 hvs hp) c nx
  .simp at ht
theorem JP{P:Program}{β:Type}{tb:Cz}(htb:nV P tb)(hg:kg){s1:St}{s:S2}{q:Rg}(hr:qk s1 s q){gc:Option (Nat×Bool)}(hgc:∀g b,gc=some (g,b)->bX s1.db g=some (tB b)){o:OP}{k:V->S2->List Nat->Option β}{z:β}
  (hz:Qe tb o s q gc k=some z):∃v s' l,k v s' l=some z/\∃call:Call,lE P call/\∃x u aw m,cm call o.o.k (o.o.args.map (jq s1.db)) s1.heap s.next=some (x,u,aw,m)/\oX s s' s1.heap x u aw m v l:=by
 unfold Qe at hz;split at hz
 .rename_i v l ht;obtain⟨x,aw,h1,h2,h3,h4⟩:=yh hg hr hgc ht oN s.next;exact⟨v,s,l,hz,oN,pd,x,[],aw,s.next,h1,oX.pure hr.r.hr h2 h3 h4⟩
 .split at hz
  .rename_i vs hvs;obtain⟨xs,h1,h2,h3,h4⟩:=yz hg hr hgc _ _ hvs;rw[h1];split at hz
   .rename_i ro iR f vs' hk;obtain⟨y,ys,rfl,h5,h6⟩:=fg h2;obtain⟨v,s',l,e1,call,e2,x,u,aw,m,e3,e4⟩:=Eh (P:=P) htb hz hr.r.hr h5 (h3 _ (by simp)) (h4 _ (by simp)) h6 (fun w hw=>h3 w (by simp[hw])) (fun w hw=>h4 w (by simp[hw]));rw[hk];exact⟨v,s',l,e1,call,e2,x,u,aw,m,e3,e4⟩
   .obtain ⟨v,s',l,e1,e2⟩:=Ds hz hr.r.hr h2 h3 h4;obtain⟨x,u,aw,m,e3,e4⟩:=e2 oN;exact⟨v,s',l,e1,oN,pd,x,u,aw,m,e3,e4⟩
  .simp at hz
end Go.Ev
