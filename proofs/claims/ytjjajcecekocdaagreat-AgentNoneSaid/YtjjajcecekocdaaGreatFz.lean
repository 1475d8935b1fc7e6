/- Calls: the arguments, as they are laid. Conditions: as stated. -/
import Derived.Test.YtjjajcecekocdaaGreatFq
open Bool renaming and_eq_true->ah,and_eq_true_iff->cN,and_self->lW,not_eq_true'->fB,or_eq_true->fM
open List renaming all_cons->fJ,all_eq_true->aV,append_assoc->aS,append_nil->bo,cons_append->aO,drop_zero->cM,flatMap->kf,flatMap_cons->br,headD_cons->bJ,length_map->aR,map_cons->ap,map_nil->aN,mem_append->ak,mem_append_left->aG,mem_append_right->aD,mem_cons->aJ,mem_cons_of_mem->aC,mem_map->eh,mem_singleton->aq,nil_sublist->iI,nodup_append->dj,singleton_append->aT,singleton_inj->fg
open List.Sublist renaming refl->bI
open Nat renaming le_refl->am,le_succ->a_,lt_succ_self->aQ,zero_le->jX
open Option.some renaming inj->aa,injEq->bS
open Prod.mk renaming inj->ad
namespace Go.Ev
def L6(k:Nat):D:=match z7 k with|.d x=>x|_=>default
theorem MX(k:Nat):z7 k=.d (L6 k):=rfl
def rh:Sh->List V->List D×List V
 |.x _,.x u v::l=>(aP u v,l)
 |.pt _,.x u v::l=>([.pt (aP u v)],l)
 |.nl k,l=>([L6 k],l)
 |.fn f c,l=>([.fn f (rh c l).1],(rh c l).2)
 |.pr a c,l=>((rh a l).1++(rh c (rh a l).2).1,(rh c (rh a l).2).2)
 |_,l=>([],l)
def Gb(t:Ty):Sl (El t)->Option (List (List D))
 |.nil=>none
 |.mk l=>some (l.map (aP t))
def xR(t:Ty):Sl (Sl (El t))->T
 |.nil=>.d (.lit (.slice none 0 0))
 |.mk l=>.zh (bG t) (l.map (Gb t))
theorem F4{t:Ty}(l:List (Sl (El t))):uE (l.map (nn t))=some (l.map (Gb t)):=by induction l with|nil=>rfl|cons s l ih=>simp only[ap,uE,ih];cases s<;>rfl
theorem xT{t:Ty}(l:List (Sl (El t))):(l.map (Gb t)).map mL=l.map (nn t):=by rw[List.map_map];exact List.map_congr_left fun s _=>by cases s<;>rfl
def SH(k v:Ty)(m:Mp (El k) (El v)):T:=.mp (li k) (li v) (m.es.map (AV (uv k) (aP v))) m.bN
def ff:Sh->List V->List T×List V
 |.x _,.x u v::l=>((aP u v).map .d,l)
 |.os _,.x (.sl u) v::l=>([MA (bG u) (aP u) v],l)
 |.rw _,.x (.sl (.sl u)) v::l=>([xR u v],l)
 |.mp _ _,.x (.mp k v) m::l=>([SH k v m],l)
 |.pb _ c,l=>([.pt (ff c l).1],(ff c l).2)
 |.nl k,l=>([.d (L6 k)],l)
 |.st c,l=>ff c l
 |.pr a c,l=>((ff a l).1++(ff c (ff a l).2).1,(ff c (ff a l).2).2)
 |.gn,l=>([.j6],l)
 |_,l=>([],l)
def xk:Sh->Bool
 |.x t=>li t
 |.st _=>true
 |_=>false
def eT:List (Bool×Sh)->List V->List A
 |[],_=>[]
 |(true,c)::r,l=>.mt ((ff c l).1.headD default)::eT r (ff c l).2
 |(false,c)::r,l=>(bif xk c then .agg (rh c l).1 else .d ((rh c l).1.headD default))::eT r (rh c l).2
def ja:List Sh->List V->List R
 |[],_=>[]
 |c::r,l=>(bif xk c then .agg (ff c l).1 else .c ((ff c l).1.headD default))::ja r (ff c l).2
def kG:List Sh->List V->List T
 |[],_=>[]
 |c::r,l=>(ff c l).1.headD default::kG r (ff c l).2
def wn:Sh->Nat
 |.x t=>bG t+1
 |.pt t=>bG t+3
 |.fn _ c=>wn c+2
 |.pr a c=>wn a+wn c
 |.ni=>0
 |_=>1
section
variable{h:H2}{n:Nat}{h1:bh}
def Af:C->Prop
 |.d _|.bP _ _ _ _=>True
 |_=>False
theorem Dr{c:C}(hc:Af c)(k j:Nat):eu h1 k c=eu h1 j c:=by cases c with|d x=>rw[pU,pU]|bP a b e f=>cases k<;>cases j<;>simp only[eu]|_=>exact hc.elim
theorem xD:∀{cs:List C}{ds:List D}{au:List Nat}{k:Nat},(∀c∈cs,Af c)->dC h1 cs=some (ds,au)->cs.length<k->fN h1 k cs=some (ds,au):=by
 intro cs;induction cs with
 |nil=>intro ds au k _ h _;simp only[dC]at h;rw[<-h];cases k<;>rfl
 |cons c cs ih=>
  intro ds au k hf h hk;cases k with
  |zero=>simp at hk
  |succ k=>
   simp only[dC]at h;split at h
   .rename_i x a xs b hx hxs;simp only[fN];rw[Dr (hf c (by simp)) k 300,hx,ih (fun c hc=>hf c (by simp[hc])) hxs (by simpa using hk)];exact h
   .simp at h
theorem AC:∀{x y:List C}{dx dy:List D}{ix iy:List Nat}{k:Nat},fN h1 k x=some (dx,ix)->fN h1 (k-x.length) y=some (dy,iy)->x.length<=k->fN h1 k (x++y)=some (dx++dy,ix++iy):=by
 intro x;induction x with
 |nil=>
  intro y dx dy ix iy k hx hy _;have:fN h1 k []=some ([],[]):=by cases k<;>rfl
  rw[this]at hx;obtain⟨rfl,rfl⟩:=ad (aa hx);simpa using hy
 |cons c x ih=>
  intro y dx dy ix iy k hx hy hk;cases k with
  |zero=>simp at hk
  |succ k=>
   simp only[fN]at hx;split at hx
   .rename_i p a q b hp hq;obtain⟨rfl,rfl⟩:=ad (aa hx);simp only[aO,fN,hp];rw[ih hq (by simpa using hy) (by simpa using hk)];simp
   .simp at hx
theorem CM{α:Type}{sz id:Nat}{enc:α->List D}{s:Sl α}:Af (kr sz enc id s):=by cases s<;>trivial
theorem Jb{id lo:Nat}{t:Ty}{r:Sl (El t)}:Af (xp id lo t r):=by cases r<;>trivial
theorem CH:∀(v w:V)(l:List Nat)(cs:List C),jb h v=some (w,l)->eY h v cs->ig h v=true->∀c∈cs,Af c:=by
 have fl:∀(ds:List D),∀c∈ds.map C.d,Af c:=fun ds c hc=>by obtain⟨d,_,rfl⟩:=eh.1 hc;trivial
 intro v;induction v with
 |so id=>
  intro w l cs hf hv _ c hc;simp only[jb]at hf;split at hf
  .rename_i t s l' hs;obtain⟨ver,ho,_⟩:=uF hs;obtain⟨c',rfl,hc'⟩:=hv;obtain rfl:=aq.1 hc;rw[hc'.1 _ (lF ho)];exact CM
  .simp at hf
 |sr id=>
  intro w l cs hf hv _ c hc;simp only[jb]at hf;split at hf
  .rename_i t s ho;obtain⟨c',rfl,hc'⟩:=hv;obtain rfl:=aq.1 hc;rw[hc'.1 _ (sI ho)];exact CM
  .simp at hf
 |sb id ver lo t r=>intro w l cs hf hv ha c hc;obtain⟨c',rfl,hc'⟩:=hv;obtain rfl:=aq.1 hc;rw[hc'.1 (cN.1 ha).2];exact Jb
 |rc r ih=>
  intro w l cs hf hv ha;simp only[jb]at hf;split at hf
  .rename_i w' l' hw;exact ih w' l' cs hw hv ha
  .simp at hf
 |co a r iha ihr=>
  intro w l cs hf hv ha c hc;simp only[jb]at hf;split at hf
  .rename_i x l1 y l2 hx hy;obtain⟨ca,cr,rfl,h2,h3⟩:=hv;simp only[ig,ah]at ha;rcases ak.1 hc with hc|hc
   .exact iha x l1 ca hx h2 ha.1 c hc
   .exact ihr y l2 cr hy h3 ha.2 c hc
  .simp at hf
 |x t v=>intro w l cs hf hv _;obtain⟨_,rfl⟩:=hv;exact fl _
 |kb c=>intro w l cs hf hv _;obtain rfl:=hv;exact fl [_]
 |nl k=>intro w l cs hf hv _;obtain rfl:=hv;exact fl [_]
 |fl q=>intro w l cs hf hv _;obtain⟨_,rfl⟩:=hv;rw[AX];exact fl _
 |ni=>intro w l cs hf hv _;obtain rfl:=hv;exact fl []
 |pt t v=>intro w l cs hf hv _;obtain⟨_,rfl⟩:=hv;exact fl [_]
 |fn z f q ih=>intro w l cs hf hv _;cases z with|true=>obtain⟨ds,_,rfl⟩:=hv;exact fl [_]|false=>simp[jb]at hf
 |_=>intro w l cs hf hv;simp[jb]at hf
theorem Jy:∀(v:V)(ds:List D),qD v=some ds->eY h v (ds.map .d):=by
 intro v;induction v with
 |co a r iha ihr=>
  intro ds hd;simp only[qD]at hd;split at hd
  .rename_i x y hx hy;obtain rfl:=aa hd;exact⟨_,_,by simp,iha x hx,ihr y hy⟩
  .simp at hd
 |pt t v=>
  intro ds hd;simp only[qD]at hd;split at hd
  .rename_i ht;obtain rfl:=aa hd;exact⟨ht,rfl⟩
  .simp at hd
 |ni=>intro ds hd;obtain rfl:[]=ds:=by simpa[qD]using hd
      rfl
 |_=>intro ds hd;simp[qD]at hd
theorem y_:∀(v:V),Bp v=true->ig h v=true/\∀n,eW n h v:=by intro v;induction v with|co a r iha ihr=>intro hv;simp only[Bp,ah]at hv;exact⟨by simp only[ig,(iha hv.1).1,(ihr hv.2).1,lW],fun n=>⟨(iha hv.1).2 n,(ihr hv.2).2 n⟩⟩|pt t v=>intro hv;exact⟨hv,fun _=>trivial⟩|ni=>intro _;exact⟨rfl,fun _=>trivial⟩|_=>intro hv;simp[Bp]at hv
theorem Ho(hr:HR n h1 h):∀(c:Sh)(v:V)(l:List V)(i:List Nat)(cs:List C),oI h c v=some (l,i)->eY h v cs->eW n h v->ig h v=true->
  ∃ds au,(∀k,wn c<=k->fN h1 k cs=some (ds,au))/\(∀r,rh c (l++r)=(ds,r))/\(∀j∈au,j∈i/\¬mF h j)/\(∀j∈i,j∈au\/mF h j)/\cs.length<=wn c:=by
 intro c;induction c with
 |x t=>
  intro v l i cs ha hv hk hal;simp only[oI]at ha;split at ha
  .rename_i w l' hw;split at ha
   .rename_i y hy;obtain⟨rfl,rfl⟩:=ad (aa ha);obtain⟨ds,au,f1,f2,f3,f4,_⟩:=sT hr v w l' cs hw hv hk hal;have e3:=pA (iN w false t y _ hy f2);subst e3;have hl:cs.length=bG t:=by rw[<-uy f1,bH]
    exact⟨_,au,fun k hk=>xD (CH v w l' cs hw hv hal) f1 (by simp only[wn]at hk;omega),fun r=>rfl,f3,f4,by simp only[wn];omega⟩
   .simp at ha
  .simp at ha
 |pt t=>
  intro v l i cs ha hv hk hal;cases v with
  |pt u v=>
   simp only[oI]at ha;split at ha
   .rename_i y hy;obtain⟨rfl,rfl⟩:=ad (aa ha);obtain⟨e,_⟩:=wx hy;obtain⟨_,rfl⟩:=hv;refine⟨[.pt (aP t y)],[],fun k hk=>?_,fun r=>rfl,fun j hj=>by simp at hj,fun j hj=>by simp at hj,by simp[wn]⟩;rw[<-e];exact xo (h1:=h1) [.pt (aP t y)] k (by simp only[wn]at hk;simp;omega)
   .simp at ha
  |op id u p=>
   cases p with
   |cons=>simp[oI]at ha
   |nil=>
    obtain rfl:=hv;have e0:mJ u []=0:=by cases u<;>rfl
    rw[e0];simp only[oI]at ha;split at ha
    .rename_i w c ho;obtain⟨hc,ha⟩:=aH ha;simp only[ah,decide_eq_true_eq]at hc;split at ha
     .rename_i c' l' hw;split at ha
      .rename_i y hy;obtain⟨rfl,rfl⟩:=ad (aa ha);obtain⟨_,⟨cb,e1,e2,e3⟩,e4⟩:=hr.ob id _ ho;obtain⟨ds,au,f1,f2,f3,f4,_⟩:=sT hr c c' l' cb hw e2 e4 hc.2;have e5:=pA (iN c' false t y _ hy f2);subst e5;have hl:cb.length=bG t:=by rw[<-uy f1,bH]
       have hnil:¬mF h id:=by
        rintro(⟨u',v',e⟩|⟨u',ln',e⟩)
        .rcases e with e|e<;>rw[ho]at e<;>simp at e
        .rw [ho]at e;cases e
       refine⟨[.pt (aP t y)],id::au,fun k hk=>?_,fun r=>rfl,fun j hj=>?_,fun j hj=>?_,by simp[wn]⟩
       .simp only[wn]at hk;obtain⟨k,rfl⟩:∃k',k=k'+2:=⟨k-2,by omega⟩
        have hv:fN h1 k cb=some (aP t y,au):=xD (CH c c' l' cb hw e2 hc.2) f1 (by omega);simp only[fN,eu,e1,hv,jX,if_true,cM,bo]
       .rcases aJ.1 hj with rfl|hj
        .exact ⟨by simp,hnil⟩
        .exact ⟨by simp[(f3 j hj).1],(f3 j hj).2⟩
       .rcases aJ.1 hj with rfl|hj
        .exact .inl (by simp)
        .exact (f4 j hj).imp (fun q=>by simp[q]) (fun q=>q)
      .simp at ha
     .simp at ha
    .rename_i w v ho;obtain⟨hc,ha⟩:=aH ha;split at ha
     .rename_i y hy;obtain⟨rfl,rfl⟩:=ad (aa ha);obtain⟨e,_⟩:=wx hy;obtain⟨_,⟨_,e1⟩,_⟩:=hr.ob id _ ho
      have hnil:¬mF h id:=by
       rintro(⟨u',v',e⟩|⟨u',ln',e⟩)
       .rcases e with e|e<;>rw[ho]at e<;>simp at e
       .rw [ho]at e;cases e
      refine⟨[.pt (aP t y)],[id],fun k hk=>?_,fun r=>rfl,fun j hj=>?_,fun j hj=>.inl hj,by simp[wn]⟩
      .simp only[wn]at hk;obtain⟨k,rfl⟩:∃k',k=k'+2:=⟨k-2,by omega⟩
       simp only[fN,eu,e1,jX,if_true,cM,bo,e]
      .obtain rfl:=aq.1 hj;exact⟨by simp,hnil⟩
     .simp at ha
    .simp at ha
  |ep id m u p=>
   cases p with
   |cons=>simp[oI]at ha
   |nil=>
    obtain rfl:=hv;have e0:mJ u []=0:=by cases u<;>rfl
    rw[e0]
    have key:∀(w:Ty)(s:Sl (El w))(ver:Nat),(fO h id=some (.ar w s ver)\/fO h id=some (.im w s ver))->(bif decide (w=u)then(match fF w t (gt s.l m)with|some y=>some ([V.x t y],[id])|none=>none)else none)=some (l,i)->
      ∃ds au,(∀k,wn (.pt t)<=k->fN h1 k [.ep id m 0]=some (ds,au))/\(∀r,rh (.pt t) (l++r)=(ds,r))/\(∀j∈au,j∈i/\¬mF h j)/\(∀j∈i,j∈au\/mF h j)/\[C.ep id m 0].length<=wn (.pt t):=by
     intro w s ver ho ha;obtain⟨_,ha⟩:=aH ha;split at ha
     .rename_i y hy;obtain⟨rfl,rfl⟩:=ad (aa ha);obtain⟨e,_⟩:=wx hy;have hm:=hk.2.2.1 w s ver ho;cases s with
      |nil=>simp[Sl.l]at hm
      |mk q=>
       refine⟨[.pt (aP t y)],[id],fun k hk=>?_,fun r=>rfl,fun j hj=>?_,fun j hj=>.inl hj,by simp[wn]⟩
       .simp only[wn]at hk;obtain⟨k,rfl⟩:∃k',k=k'+1:=⟨k-1,by omega⟩
        have hg:(q.map (aP w))[m]?=some (aP w (gt q m)):=A3 hm;have e2:aP w (gt q m)=aP t y:=e.symm;rcases ho with ho|ho
        .have e1:=(hr.ob id _ ho).2.1.2.2 q rfl;have:eu h1 k (.ep id m 0)=some (.pt (aP t y),[id]):=by cases k<;>simp only[eu,e1,hg,jX,if_true,cM,e2]
         simp only[fN,this,bo]
        .have e1:=(hr.ob id _ ho).2.1.2.2 q rfl;have:eu h1 k (.ep id m 0)=some (.pt (aP t y),[id]):=by cases k<;>simp only[eu,e1,hg,jX,if_true,cM,e2]
         simp only[fN,this,bo]
       .obtain rfl:=aq.1 hj;exact⟨by simp,yo ho⟩
     .simp at ha
    simp only[oI]at ha;split at ha
    .rename_i ho;exact key _ _ _ (.inl ho) ha
    .rename_i ho;exact key _ _ _ (.inr ho) ha
    .simp at ha
  |_=>simp[oI]at ha
 |nl k=>
  intro v l i cs ha hv hk hal;cases v with
  |nl k'=>
   simp only[oI]at ha;obtain⟨hc,ha2⟩:=aH ha;obtain rfl:k=k':=by simpa using hc
   obtain⟨rfl,rfl⟩:=ad (aa ha2);obtain rfl:=hv;refine⟨[L6 k],[],fun j hj=>?_,fun r=>rfl,fun j hj=>by simp at hj,fun j hj=>by simp at hj,by simp[wn]⟩;simp only[wn]at hj;obtain⟨j,rfl⟩:∃k',j=k'+1:=⟨j-1,by omega⟩
   have e:fN h1 j []=some ([],[]):=by cases j<;>rfl
   rw[MX];simp only[fN,pU,e,bo]
  |_=>simp[oI]at ha
 |fn f c ih=>
  intro v l i cs ha hv hk hal;cases v with
  |fn z f' q=>
   simp only[oI]at ha;obtain⟨hc,ha2⟩:=aH ha;obtain rfl:f=f':=by simpa using hc
   cases z with
   |true=>
    obtain⟨ds0,hd,rfl⟩:=hv;have hal':Bp q=true:=hal;obtain⟨a1,a2⟩:=y_ (h:=h) q hal';obtain⟨ds,au,g1,g2,g3,g4,g5⟩:=ih q l i (ds0.map .d) ha2 (Jy q ds0 hd) (a2 n) a1;have e:=g1 (wn c+ds0.length+1) (by omega);rw[xo ds0 _ (by omega)]at e;obtain⟨rfl,rfl⟩:=ad (aa e);refine⟨[.fn f ds0],[],fun k hk=>?_,fun r=>?_,g3,g4,by simp[wn]⟩
    .simp only[wn]at hk;exact xo (h1:=h1) [.fn f ds0] k (by simp;omega)
    .simp only[rh,g2 r]
   |false=>
    obtain⟨xs,h2,rfl⟩:=hv;obtain⟨ds,au,g1,g2,g3,g4,g5⟩:=ih q l i xs ha2 h2 hk hal;refine⟨[.fn f ds],au,fun k hk=>?_,fun r=>?_,g3,g4,by simp[wn]⟩
    .simp only[wn]at hk;obtain⟨k,rfl⟩:∃k',k=k'+2:=⟨k-2,by omega⟩
     simp only[fN,eu,g1 k (by omega),bo]
    .simp only[rh,g2 r]
  |_=>simp[oI]at ha
 |pr a c iha ihc=>
  intro v l i cs ha hv hk hal;cases v with
  |co x r=>
   simp only[oI]at ha;split at ha
   .rename_i l1 i1 l2 i2 h2 h3;obtain⟨rfl,rfl⟩:=ad (aa ha);obtain⟨cx,cr,rfl,h4,h5⟩:=hv;simp only[ig,ah]at hal;obtain⟨d1,j1,a1,a2,a3,a4,a5⟩:=iha x l1 i1 cx h2 h4 hk.1 hal.1;obtain⟨d2,j2,b1,b2,b3,b4,b5⟩:=ihc r l2 i2 cr h3 h5 hk.2 hal.2;refine⟨d1++d2,j1++j2,fun k hk=>?_,fun r=>?_,fun j hj=>?_,fun j hj=>?_,by simp[wn];omega⟩
    .simp only[wn]at hk;exact AC (a1 k (by omega)) (b1 _ (by omega)) (by omega)
    .simp only[rh,aS,a2,b2]
    .rcases ak.1 hj with hj|hj
     .exact ⟨aG _ (a3 j hj).1,(a3 j hj).2⟩
     .exact ⟨aD _ (b3 j hj).1,(b3 j hj).2⟩
    .rcases ak.1 hj with hj|hj
     .exact (a4 j hj).imp (aG _) id
     .exact (b4 j hj).imp (aD _) id
   .simp at ha
  |_=>simp[oI]at ha
 |ni=>intro v l i cs ha hv hk hal;cases v with|ni=>obtain⟨rfl,rfl⟩:=ad (aa ha);obtain rfl:=hv;exact⟨[],[],fun k _=>(by cases k<;>rfl),fun r=>rfl,fun j hj=>by simp at hj,fun j hj=>by simp at hj,by simp⟩|_=>simp[oI]at ha
 |_=>intro v l i cs ha;simp[oI]at ha
end
def pj:Sh->Nat
 |.x t=>bG t+1
 |.pb _ c=>pj c+2
 |.st c=>pj c
 |.pr a c=>pj a+pj c
 |.ni=>0
 |_=>1
section
variable{h:H2}{n:Nat}{h1:bh}
theorem vi(k:Nat)(x:D):dn h1 k (.d x)=some (.d x,[],[]):=by cases k<;>rfl
theorem ph(k:Nat):iB h1 k []=some ([],[],[]):=by cases k<;>rfl
theorem oZ:∀(ds:List D)(k:Nat),ds.length<=k->iB h1 k (ds.map .d)=some (ds.map .d,[],[]):=by
 intro ds;induction ds with
 |nil=>intro k _;exact ph k
 |cons d ds ih=>intro k hk;cases k with|zero=>simp at hk|succ k=>simp only[ap,iB,vi,ih k (by simpa using hk),bo]
theorem vh:∀{x y:List C}{tx ty:List T}{ox oy ix iy:List Nat}{k:Nat},iB h1 k x=some (tx,ox,ix)->iB h1 (k-x.length) y=some (ty,oy,iy)->x.length<=k->iB h1 k (x++y)=some (tx++ty,ox++oy,ix++iy):=by
 intro x;induction x with
 |nil=>intro y tx ty ox oy ix iy k hx hy _;rw[ph]at hx;obtain⟨rfl,e⟩:=ad (aa hx);obtain⟨rfl,rfl⟩:=ad e;simpa using hy
 |cons c x ih=>
  intro y tx ty ox oy ix iy k hx hy hk;cases k with
  |zero=>simp at hk
  |succ k=>
   simp only[iB]at hx;split at hx
   .rename_i p a i q b j hp hq;obtain⟨rfl,e⟩:=ad (aa hx);obtain⟨rfl,rfl⟩:=ad e;simp only[aO,iB,hp];rw[ih hq (by simpa using hy) (by simpa using hk)];simp
   .simp at hx
theorem qV{c:C}{t:T}{bi rd:List Nat}{k:Nat}(hc:dn h1 k c=some (t,bi,rd)):iB h1 (k+1) [c]=some ([t],bi,rd):=by simp only[iB,hc,ph,bo]
theorem Rt{t:Ty}{id k:Nat}{q:List (Sl (El t))}(h:ao h1 id=some (.nst (bG t) (dO t q none))):dn h1 k (kr 1 (aP (.sl t)) id (Sl.mk q:Sl (Sl (El t))))=some (.zh (bG t) (q.map (Gb t)),[id],[id]):=by simp only[kr,dO]at h|-;cases k<;>simp only[dn,h,aR,and_self,if_true,F4]
theorem wC(hr:HR n h1 h):∀(c:Sh)(ln:Bool)(v:V)(l:List V)(i:List Nat)(cs:List C),dQ h c ln v=some (l,i)->eY h v cs->eW n h v->
  ∃ts bi rd,(∀k,pj c<=k->iB h1 k cs=some (ts,bi,rd))/\(∀r,ff c (l++r)=(ts,r))/\bi.Sublist i/\(∀j∈i,j∈bi\/mF h j)/\(∀j∈rd,j∈i)/\cs.length<=pj c/\(∀j∈i,j<n):=by
 intro c;induction c with
 |x t=>
  intro ln v l i cs ha hv hk;cases ln with
  |true=>simp[dQ]at ha
  |false=>
   simp only[dQ]at ha;split at ha
   .rename_i y hy;obtain⟨rfl,rfl⟩:=ad (aa ha);have e:=iN v false t y cs hy hv;subst e;exact⟨_,[],[],fun k hk=>oZ _ k (by rw[bH];simp only[pj]at hk;omega),fun r=>rfl,bI _,fun j hj=>by simp at hj,fun j hj=>hj,by simp[pj,bH],fun j hj=>by simp at hj⟩
   .simp at ha
 |os t=>
  intro ln v l i cs ha hv hk;cases ln with
  |true=>simp[dQ]at ha
  |false=>
   cases v with
   |so id=>
    simp only[dQ]at ha;split at ha
    .rename_i u s ver ho;split at ha
     .rename_i s' hs;obtain⟨rfl,rfl⟩:=ad (aa ha);obtain⟨e,rfl⟩:=cE hs;cases e;obtain⟨c,rfl,hc⟩:=hv;rw[hc.1 _ (lF (.inl ho))];cases s with
      |nil=>exact⟨[.d (.lit (.slice none 0 0))],[],[],fun k hk=>oZ [.lit (.slice none 0 0)] k (by simpa[pj]using hk),fun r=>rfl,iI _,fun j hj=>by obtain rfl:=aq.1 hj;exact .inr (.inl ⟨_,_,.inl ho⟩),fun j hj=>by simp at hj,by simp[pj],fun j hj=>by obtain rfl:=aq.1 hj;exact hk⟩
      |mk q=>
       have e1:=(hr.ob id _ ho).2.1.2.2 q rfl;refine⟨[.sl (bG t) (q.map (aP t))],[id],[id],fun k hk=>?_,fun r=>rfl,bI _,fun j hj=>.inl hj,fun j hj=>hj,by simp[pj],fun j hj=>by obtain rfl:=aq.1 hj;exact hk⟩;obtain⟨k,rfl⟩:∃k',k=k'+1:=⟨k-1,by simp only[pj]at hk;omega⟩
       exact qV (Tb e1)
     .simp at ha
    .simp at ha
   |nl k=>cases k with|zero=>obtain⟨rfl,rfl⟩:=ad (aa ha);obtain rfl:=hv;exact⟨[.d (.lit (.slice none 0 0))],[],[],fun k hk=>oZ [.lit (.slice none 0 0)] k (by simpa[pj]using hk),fun r=>rfl,bI _,fun j hj=>by simp at hj,fun j hj=>hj,by simp[pj],fun j hj=>by simp at hj⟩|succ k=>simp[dQ]at ha
   |_=>simp[dQ]at ha
 |rw t=>
  intro ln v l i cs ha hv hk;cases ln with
  |true=>simp[dQ]at ha
  |false=>
   cases v with
   |sr id=>
    simp only[dQ]at ha;split at ha
    .rename_i u s ho;split at ha
     .rename_i s' hs;obtain⟨rfl,rfl⟩:=ad (aa ha);obtain⟨e,rfl⟩:=cE hs;cases e;obtain⟨c,rfl,hc⟩:=hv;rw[hc.1 _ (sI ho)];cases s with
      |nil=>exact⟨[.d (.lit (.slice none 0 0))],[],[],fun k hk=>oZ [.lit (.slice none 0 0)] k (by simpa[pj]using hk),fun r=>rfl,iI _,fun j hj=>by obtain rfl:=aq.1 hj;exact .inr (.inr ⟨_,_,ho⟩),fun j hj=>by simp at hj,by simp[pj],fun j hj=>by obtain rfl:=aq.1 hj;exact hk⟩
      |mk q=>
       have e1:=(hr.ob id _ ho).2.1.2.2 q rfl;refine⟨[.zh (bG t) (q.map (Gb t))],[id],[id],fun k hk=>?_,fun r=>rfl,bI _,fun j hj=>.inl hj,fun j hj=>hj,by simp[pj],fun j hj=>by obtain rfl:=aq.1 hj;exact hk⟩;obtain⟨k,rfl⟩:∃k',k=k'+1:=⟨k-1,by simp only[pj]at hk;omega⟩
       exact qV (Rt e1)
     .simp at ha
    .simp at ha
   |nl k=>cases k with|zero=>obtain⟨rfl,rfl⟩:=ad (aa ha);obtain rfl:=hv;exact⟨[.d (.lit (.slice none 0 0))],[],[],fun k hk=>oZ [.lit (.slice none 0 0)] k (by simpa[pj]using hk),fun r=>rfl,bI _,fun j hj=>by simp at hj,fun j hj=>hj,by simp[pj],fun j hj=>by simp at hj⟩|succ k=>simp[dQ]at ha
   |_=>simp[dQ]at ha
 |mp kt vt=>
  intro ln v l i cs ha hv hk;cases ln with
  |true=>simp[dQ]at ha
  |false=>
   cases v with
   |om id=>
    simp only[dQ]at ha;split at ha
    .rename_i k' v' m ho;split at ha
     .rename_i m' hm;obtain⟨rfl,rfl⟩:=ad (aa ha);obtain⟨e,rfl⟩:=cE hm;cases e;obtain rfl:=hv;have e1:=(hr.ob id _ ho).2.1.2.2;refine⟨[SH kt vt m],[id],[id],fun k hk=>?_,fun r=>rfl,bI _,fun j hj=>.inl hj,fun j hj=>hj,by simp[pj],fun j hj=>by obtain rfl:=aq.1 hj;exact hk⟩;obtain⟨k,rfl⟩:∃k',k=k'+1:=⟨k-1,by simp only[pj]at hk;omega⟩
      have e2:dn h1 k (.om id)=some (SH kt vt m,[id],[id]):=by cases k<;>simp only[dn,e1,xu]<;>rfl
      exact qV e2
     .simp at ha
    .simp at ha
   |_=>simp[dQ]at ha
 |pb t c ih=>
  intro ln v l i cs ha hv hk;cases ln with
  |true=>simp[dQ]at ha
  |false=>
   cases v with
   |op id u p=>
    cases p with
    |cons=>simp[dQ]at ha
    |nil=>
     simp only[dQ]at ha;split at ha
     .rename_i w q ho;obtain⟨hc,ha2⟩:=aH ha;split at ha2
      .rename_i l' i' ha3;obtain⟨rfl,rfl⟩:=ad (aa ha2);obtain rfl:=hv;have e0:mJ u []=0:=by cases u<;>rfl
       rw[e0];obtain⟨_,⟨cb,e1,e2,e3⟩,e4⟩:=hr.ob id _ ho;obtain⟨ts,bi,rd,g1,g2,g3,g4,g5,g6,g7⟩:=ih false q l' i' cb ha3 e2 e4;refine⟨[.pt ts],id::bi,id::rd,fun k hk=>?_,fun r=>by simp only[ff,g2 r],g3.cons_cons _,fun j hj=>?_,fun j hj=>?_,by simp[pj],fun j hj=>?_⟩
       .obtain ⟨k,rfl⟩:∃k',k=k'+2:=⟨k-2,by simp only[pj]at hk;omega⟩
        refine qV ?_;simp only[dn,e1,g1 k (by simp only[pj]at hk;omega)]
       .rcases aJ.1 hj with rfl|hj
        .exact .inl (by simp)
        .exact (g4 j hj).imp (fun q=>by simp[q]) (fun q=>q)
       .rcases aJ.1 hj with rfl|hj
        .simp
        .simp [g5 j hj]
       .rcases aJ.1 hj with rfl|hj
        .exact hk.1
        .exact g7 j hj
      .simp at ha2
     .simp at ha
   |_=>simp[dQ]at ha
 |nl k=>
  intro ln v l i cs ha hv hk;cases ln with
  |true=>simp[dQ]at ha
  |false=>
   cases v with
   |nl k'=>
    simp only[dQ]at ha;obtain⟨hc,ha2⟩:=aH ha;obtain rfl:k=k':=by simpa using hc
    obtain⟨rfl,rfl⟩:=ad (aa ha2);obtain rfl:=hv;exact⟨[.d (L6 k)],[],[],fun j hj=>oZ [L6 k] j (by simpa[pj]using hj),fun r=>rfl,bI _,fun j hj=>by simp at hj,fun j hj=>hj,by simp[pj],fun j hj=>by simp at hj⟩
   |_=>simp[dQ]at ha
 |st c ih=>
  intro ln v l i cs ha hv hk;cases ln with
  |true=>simp[dQ]at ha
  |false=>
   cases v with
   |rc q=>exact ih true q l i cs ha hv hk
   |x t v=>cases t with|st u=>obtain⟨hd,rfl⟩:=hv;exact ih true (F0 u v) l i _ ha (AG u v hd) (Dw u v)|_=>simp[dQ]at ha
   |_=>simp[dQ]at ha
 |pr a c iha ihc=>
  intro ln v l i cs ha hv hk;cases ln with
  |false=>simp[dQ]at ha
  |true=>
   cases v with
   |co x r=>
    simp only[dQ]at ha;split at ha
    .rename_i l1 i1 l2 i2 h2 h3;obtain⟨rfl,rfl⟩:=ad (aa ha);obtain⟨cx,cr,rfl,h4,h5⟩:=hv
     have hA:∃ts bi rd,(∀k,pj a<=k->iB h1 k cx=some (ts,bi,rd))/\(∀r,ff a (l1++r)=(ts,r))/\bi.Sublist i1/\(∀j∈i1,j∈bi\/mF h j)/\(∀j∈rd,j∈i1)/\cx.length<=pj a/\(∀j∈i1,j<n):=by
      split at h2
      .rename_i t u v;unfold M0 at h2;split at h2
       .obtain ⟨rfl,rfl⟩:=ad (aa h2);obtain⟨_,rfl⟩:=h4;exact⟨[.d (.lit (.slice none 0 0))],[],[],fun k hk=>oZ [.lit (.slice none 0 0)] k (by simpa[pj]using hk),fun r=>rfl,bI _,fun j hj=>by simp at hj,fun j hj=>hj,by simp[pj,aP],fun j hj=>by simp at hj⟩
       .simp at h2
      .rename_i t id ver lo u r;unfold Rr at h2;split at h2
       .rename_i w s0 v0 ho;obtain⟨hv,h5⟩:=aH h2;clear h2;obtain rfl:v0=ver:=by simpa using hv
        split at h5
        .rename_i s hs;obtain⟨rfl,rfl⟩:=ad (aa h5);obtain⟨e,rfl⟩:=cE hs;cases e;obtain⟨c1,rfl,hc1⟩:=h4;have hal:za h id v0=true:=by simp[za,ho]
         rw[hc1.1 hal];obtain⟨hid,hcut⟩:=hk.1;obtain⟨hz,hm⟩:=(hcut _ _ _ (.inl ho)).2 rfl;cases r with
         |nil=>cases s0 with|mk=>exact hm.elim|nil=>exact⟨[.d (.lit (.slice none 0 0))],[],[],fun k hk=>oZ [.lit (.slice none 0 0)] k (by simpa[pj]using hk),fun r=>rfl,iI _,fun j hj=>by obtain rfl:=aq.1 hj;exact .inr (.inl ⟨_,_,.inl ho⟩),fun j hj=>by simp at hj,by simp[pj],fun j hj=>by obtain rfl:=aq.1 hj;exact hid⟩
         |mk m=>
          cases s0 with
          |nil=>exact hm.elim
          |mk l0=>
           have hlk:=(hr.ob id _ ho).2.1.2.2 l0 rfl;refine⟨[.sl (bG t) (m.map (aP t))],[id],[id],fun k hk=>?_,fun r=>rfl,bI _,fun j hj=>.inl hj,fun j hj=>hj,by simp[pj],fun j hj=>by obtain rfl:=aq.1 hj;exact hid⟩;obtain⟨k,rfl⟩:∃k',k=k'+1:=⟨k-1,by simp only[pj]at hk;omega⟩
           refine qV ?_;have e2:dn h1 k (.bP (bG t) id lo (m.map (aP t)).length)=some (.sl (bG t) (((l0.map (aP w)).drop lo).take (m.map (aP t)).length),[id],[id]):=by cases k<;>simp only[dn,hlk]<;>rw[if_pos (by simpa using hm.1)]
           rw[aR,hm.2]at e2;simpa[xp]using e2
        .simp at h5
       .simp at h2
      .exact iha false x l1 i1 cx h2 h4 hk.1
     obtain⟨t1,o1,r1,a1,a2,a3,a4,a5,a6,a7⟩:=hA;obtain⟨t2,o2,r2,b1,b2,b3,b4,b5,b6,b7⟩:=ihc true r l2 i2 cr h3 h5 hk.2;refine⟨t1++t2,o1++o2,r1++r2,fun k hk=>?_,fun r=>?_,a3.append b3,fun j hj=>?_,fun j hj=>?_,by simp[pj];omega,fun j hj=>?_⟩
     .simp only[pj]at hk;exact vh (a1 k (by omega)) (b1 _ (by omega)) (by omega)
     .simp only[ff,aS,a2,b2]
     .rcases ak.1 hj with hj|hj
      .exact (a4 j hj).imp (aG _) (fun q=>q)
      .exact (b4 j hj).imp (aD _) (fun q=>q)
     .rcases ak.1 hj with hj|hj
      .exact aG _ (a5 j hj)
      .exact aD _ (b5 j hj)
     .rcases ak.1 hj with hj|hj
      .exact a7 j hj
      .exact b7 j hj
    .simp at ha
   |_=>simp[dQ]at ha
 |ni=>
  intro ln v l i cs ha hv hk;cases ln with
  |false=>cases v<;>simp[dQ]at ha
  |true=>cases v with|ni=>obtain⟨rfl,rfl⟩:=ad (aa ha);obtain rfl:=hv;exact⟨[],[],[],fun k _=>ph k,fun r=>rfl,bI _,fun j hj=>by simp at hj,fun j hj=>hj,by simp,fun j hj=>by simp at hj⟩|_=>simp[dQ]at ha
 |_=>intro ln v l i cs ha;cases ln<;>simp[dQ]at ha
theorem Dt:∀(a b:List T)(m:Nat),il m (a++b)=((il m a).1++(il (il m a).2.2 b).1,(il m a).2.1++(il (il m a).2.2 b).2.1,(il (il m a).2.2 b).2.2):=by intro a;induction a with|nil=>intro b m;simp[il]|cons t a ih=>intro b m;simp only[aO,il,ih,aS]
theorem pV(t:T)(m:Nat):il m [t]=([(kh m t).1],(kh m t).2.1,(kh m t).2.2):=by simp[il]
theorem Oj:∀(ds:List D)(m:Nat),il m (ds.map T.d)=(ds.map .d,[],m+ds.length):=by intro ds;induction ds with|nil=>intro m;rfl|cons d ds ih=>intro m;simp only[ap,il,kh,ih,List.nil_append,List.length_cons];congr 2;omega
theorem wa{a b:eg}(hd:∀p∈a,∀q∈b,p.1≠q.1)(i:Nat):ao (a++b++h1) i=ao (b++(a++h1)) i:=by rw[fz,fz,fz,<-dL,mq hd]
structure Mk(s s':S2)(h1:bh)(u:eg):Prop where
 hr:HR s'.next (u++h1) s'.heap
 eG:jq s.next s.heap s'.heap
 cR:s'.cR=s.cR
 gh:s'.gh=s.gh
 le:s.next<=s'.next
 Ef:∀p∈u,s.next<=p.1/\p.1<s'.next
 wo:∃W,s'.wo=W++s.wo/\(∀p∈u,p.1∈W)/\(∀i∈W,s.next<=i/\i<s'.next)/\∀i,i∉W->fO s'.heap i=fO s.heap i
theorem Mk.skip{s:S2}{m:Nat}(hr:HR s.next h1 s.heap)(hm:s.next<=m):Mk s {s with next:=m} h1 []:=⟨hr.mono hm,jq.refl _ _,rfl,rfl,hm,fun p hp=>by simp at hp,[],rfl,fun p hp=>by simp at hp,fun i hi=>by simp at hi,fun _ _=>rfl⟩
theorem Mk.seq{s s1 s2:S2}{u1 u2:eg}(a:Mk s s1 h1 u1)(b:Mk s1 s2 (u1++h1) u2):Mk s s2 h1 (u1++u2):=by
 obtain⟨a3,a4,a5,a6,a7,a8,W,v1,v2,v3,v4⟩:=a;obtain⟨b3,b4,b5,b6,b7,b8,X,x1,x2,x3,x4⟩:=b;refine⟨?_,a4.trans a7 b4,b5.trans a5,b6.trans a6,by omega,fun p hp=>?_,X++W,by rw[x1,v1,aS],fun p hp=>?_,fun i hi=>?_,fun i hi=>?_⟩
 .exact b3.ext fun i=>wa (fun p hp q hq e=>by have:=(a8 p hp).2;have:=(b8 q hq).1;omega) i
 .rcases ak.1 hp with hp|hp
  .have:=a8 p hp;omega
  .have:=b8 p hp;omega
 .rcases ak.1 hp with hp|hp
  .exact aD _ (v2 p hp)
  .exact aG _ (x2 p hp)
 .rcases ak.1 hi with hi|hi
  .have:=x3 i hi;omega
  .have:=v3 i hi;omega
 .rw [x4 i fun q=>hi (aG _ q),v4 i fun q=>hi (aD _ q)]
end
section
variable{h:H2}{n:Nat}
theorem jq.bx{id:Nat}{t:Ty}{c:V}:jq n h ((id,some (.bx t c))::h):=⟨fun i o hi ho=>by
 rw[cC]at ho;split at ho
 .obtain rfl:=aa ho;exact .inr rfl
 .exact .inl ⟨o,ho,sf.refl _⟩⟩
theorem Mk.one{s:S2}{h1:bh}{o:O}{b:Option Ob}{u:eg}(hr:HR s.next h1 s.heap)(hu:u=[(s.next,b)]\/(u=[]/\∀b',vp ((s.next,some o)::s.heap) o b'))(hb:u=[(s.next,b)]->vp ((s.next,some o)::s.heap) o b)
  (hko:By (s.next+1) ((s.next,some o)::s.heap) o):Mk s (gq s o) h1 u:=by
 have hd:=qK.new (x:=.gB []) (v:=.no) (au:=[]) (l:=[]) (m:=s.next+1) hr hu hb hko rfl trivial (fun i hi=>by simp at hi) (am _);refine⟨hd.hr,hd.eG,rfl,rfl,a_ _,fun p hp=>?_,[s.next],rfl,fun p hp=>?_,fun i hi=>?_,fun i hi=>?_⟩
 .rcases hu with rfl|⟨rfl,_⟩
  .obtain rfl:=aq.1 hp;exact⟨am _,aQ _⟩
  .simp at hp
 .rcases hu with rfl|⟨rfl,_⟩
  .obtain rfl:=aq.1 hp;simp
  .simp at hp
 .obtain rfl:=aq.1 hi;exact⟨am _,aQ _⟩
 .simp only[gq];rw[cC,if_neg fun e=>hi (by simp[e])]
theorem vu:∀(c:Sh)(ln:Bool)(l:List V)(s:S2)(w:V)(l':List V)(s':S2)(h1:bh),qb c ln l s=some (w,l',s')->HR s.next h1 s.heap->
  eY s'.heap w (il s.next (ff c l).1).1/\eW s'.next s'.heap w/\Mk s s' h1 (il s.next (ff c l).1).2.1/\s'.next=(il s.next (ff c l).1).2.2/\l'=(ff c l).2/\(ln=false->tw w=xk c):=by
 intro c;induction c with
 |x t=>
  intro ln l s w l' s' h1 hm hr;cases ln with
  |true=>simp[qb]at hm
  |false=>match l with|.x u v::l=>simp only[qb]at hm;obtain⟨hc,hm2⟩:=aH hm;simp only[ah,decide_eq_true_eq]at hc;obtain⟨rfl,hd⟩:=hc;obtain⟨rfl,e⟩:=ad (aa hm2);obtain⟨rfl,rfl⟩:=ad e;simp only[ff,Oj,bH];exact⟨⟨hd,rfl⟩,trivial,Mk.skip hr (Nat.le_add_right _ _),trivial,trivial,fun _=>rfl⟩|[]|.kb _::_|.nl _::_|.so _::_|.sr _::_|.sb _ _ _ _ _::_|.op _ _ _::_|.ep _ _ _ _::_|.pt _ _::_|.fn _ _ _::_|.om _::_|.rc _::_|.tp _::_|.ni::_|.co _ _::_|.fl _::_|.no::_|.gn::_=>simp[qb]at hm
 |os t=>
  intro ln l s w l' s' h1 hm hr;cases ln with
  |true=>simp[qb]at hm
  |false=>
   match l with
   |.x (.sl u) v::l=>
    simp only[qb]at hm;obtain⟨hc,hm2⟩:=aH hm;simp only[ah,decide_eq_true_eq]at hc;obtain⟨rfl,hd⟩:=hc;obtain⟨d1,d2⟩:=nQ hd;obtain⟨rfl,e⟩:=ad (aa hm2);obtain⟨rfl,rfl⟩:=ad e;simp only[ff,pV];have hv:eY (gq s (.ar u v 0)).heap (.so s.next) [kr (bG u) (aP u) s.next v]:=⟨_,rfl,fun c' hc'=>by simp only[gq,tX]at hc';exact aa hc',xU⟩
    cases v with|nil=>exact⟨hv,aQ _,Mk.one (b:=none) hr (.inr ⟨rfl,fun b'=>⟨d1,d2,fun l e=>by cases e⟩⟩) (fun e=>by cases e) trivial,by first|rfl|trivial,by first|rfl|trivial,fun _=>rfl⟩|mk q=>exact⟨hv,aQ _,Mk.one (b:=some (.aF (bG u) (q.map (aP u)))) hr (.inl rfl) (fun _=>⟨d1,d2,fun l e=>by cases e;rfl⟩) trivial,by first|rfl|trivial,by first|rfl|trivial,fun _=>rfl⟩
   |[]|.kb _::_|.nl _::_|.so _::_|.sr _::_|.sb _ _ _ _ _::_|.op _ _ _::_|.ep _ _ _ _::_|.pt _ _::_|.fn _ _ _::_|.om _::_|.rc _::_|.tp _::_|.ni::_|.co _ _::_|.fl _::_|.no::_|.gn::_=>simp[qb]at hm
   |.x (.i _) _::_|.x .b _::_|.x .s _::_|.x (.f _) _::_|.x (.mp _ _) _::_|.x .un _::_|.x (.pr _ _) _::_|.x (.st _) _::_|.x (.ar _ _) _::_|.x (.o _) _::_=>simp[qb]at hm
 |rw t=>
  intro ln l s w l' s' h1 hm hr;cases ln with
  |true=>simp[qb]at hm
  |false=>
   match l with
   |.x (.sl (.sl u)) v::l=>
    simp only[qb]at hm;obtain⟨hc,hm2⟩:=aH hm;simp only[ah,decide_eq_true_eq]at hc;obtain⟨rfl,hd⟩:=hc;obtain⟨d1,d2⟩:=nQ hd;obtain⟨rfl,e⟩:=ad (aa hm2);obtain⟨rfl,rfl⟩:=ad e;simp only[ff,pV];have hv:eY (gq s (.rw u v none)).heap (.sr s.next) [kr 1 (aP (.sl u)) s.next (v:Sl (Sl (El u)))]:=⟨_,rfl,fun c' hc'=>by simp only[gq,tX]at hc';exact aa hc',xU⟩
    cases v with
    |nil=>exact⟨hv,aQ _,Mk.one (b:=none) hr (.inr ⟨rfl,fun b'=>⟨d1,d2,fun l e=>by cases e⟩⟩) (fun e=>by cases e) trivial,by first|rfl|trivial,by first|rfl|trivial,fun _=>rfl⟩
    |mk q=>
     have e1:(kh s.next (xR u (.mk q))).1=kr 1 (aP (.sl u)) s.next (Sl.mk q:Sl (Sl (El u))):=by simp[xR,kh,kr]
     have e2:(kh s.next (xR u (.mk q))).2.1=[(s.next,some (.nst (bG u) (dO u q none)))]:=by simp only[xR,kh,xT,dO]
     rw[e1,e2];exact⟨hv,aQ _,Mk.one (b:=some (.nst (bG u) (dO u q none))) hr (.inl rfl) (fun _=>⟨d1,d2,fun l e=>by cases e;rfl⟩) trivial,by first|rfl|trivial,by first|rfl|trivial,fun _=>rfl⟩
   |[]|.kb _::_|.nl _::_|.so _::_|.sr _::_|.sb _ _ _ _ _::_|.op _ _ _::_|.ep _ _ _ _::_|.pt _ _::_|.fn _ _ _::_|.om _::_|.rc _::_|.tp _::_|.ni::_|.co _ _::_|.fl _::_|.no::_|.gn::_=>simp[qb]at hm
   |.x (.sl (.i _)) _::_|.x (.sl .b) _::_|.x (.sl .s) _::_|.x (.sl (.f _)) _::_|.x (.sl (.mp _ _)) _::_|.x (.sl .un) _::_|.x (.sl (.pr _ _)) _::_|.x (.sl (.st _)) _::_|.x (.sl (.ar _ _)) _::_|.x (.sl (.o _)) _::_|.x (.i _) _::_|.x .b _::_|.x .s _::_|.x (.f _) _::_|.x (.mp _ _) _::_|.x .un _::_|.x (.pr _ _) _::_|.x (.st _) _::_|.x (.ar _ _) _::_|.x (.o _) _::_=>simp[qb]at hm
 |mp kt vt=>
  intro ln l s w l' s' h1 hm hr;cases ln with
  |true=>simp[qb]at hm
  |false=>match l with|.x (.mp k' v') m::l=>simp only[qb]at hm;obtain⟨hc,hm2⟩:=aH hm;simp only[ah,decide_eq_true_eq]at hc;obtain⟨⟨⟨rfl,rfl⟩,hd⟩,hk⟩:=hc;obtain⟨ks,hks⟩:=Option.isSome_iff_exists.1 hk;obtain⟨rfl,e⟩:=ad (aa hm2);obtain⟨rfl,rfl⟩:=ad e;simp only[ff,pV];exact⟨rfl,aQ _,Mk.one (b:=xu (li k') (li v') (uv k') (aP v') m) hr (.inl rfl) (fun _=>⟨hd,⟨ks,hks⟩,rfl⟩) trivial,by first|rfl|trivial,by first|rfl|trivial,fun _=>rfl⟩|[]|.kb _::_|.nl _::_|.so _::_|.sr _::_|.sb _ _ _ _ _::_|.op _ _ _::_|.ep _ _ _ _::_|.pt _ _::_|.fn _ _ _::_|.om _::_|.rc _::_|.tp _::_|.ni::_|.co _ _::_|.fl _::_|.no::_|.gn::_=>simp[qb]at hm|.x (.i _) _::_|.x .b _::_|.x .s _::_|.x (.f _) _::_|.x (.sl _) _::_|.x .un _::_|.x (.pr _ _) _::_|.x (.st _) _::_|.x (.ar _ _) _::_|.x (.o _) _::_=>simp[qb]at hm
 |pb t c ih=>
  intro ln l s w l' s' h1 hm hr;cases ln with
  |true=>simp[qb]at hm
  |false=>
   simp only[qb]at hm;split at hm
   .rename_i w0 l0 s2 hm0;obtain⟨hf,hm2⟩:=aH hm;obtain⟨rfl,e⟩:=ad (aa hm2);obtain⟨rfl,rfl⟩:=ad e;obtain⟨q1,q2,q3,q4,q5,_⟩:=ih false l {s with next:=s.next+1} w0 l0 s2 h1 hm0 (hr.mono (a_ _));simp only[ff,pV,kh];obtain⟨a3,a4,a5,a6,a7,a8,W,v1,v2,v3,v4⟩:=q3;simp only at a4 a5 a6 a7 a8 v1 v3 v4;have hlt:s.next<s2.next:=by omega
    have hin:∀i,i∉W->fO s2.heap i=fO s.heap i:=v4;refine⟨?_,⟨hlt,by cases t<;>trivial⟩,⟨?_,?_,a5,a6,by show s.next<=s2.next;omega,fun p hp=>?_,s.next::W,by simp only[c8,v1];rfl,fun p hp=>?_,fun i hi=>?_,fun i hi=>?_⟩,q4,q5,fun _=>rfl⟩
    .show [_]=[_]
     have e0:mJ t []=0:=by cases t<;>rfl
     rw[e0]
    .refine HR.AD (u:=[(s.next,some (.box _))]) a3 (am _) hlt jq.bx (fun i hi=>?_) fun o' ho'=>?_
     .rw [aT,ck,if_neg fun e=>hi e.symm]
     .obtain rfl:=aa ho';refine⟨?_,gy (am _) jq.bx q2⟩;rw[aT,ck,if_pos rfl];exact⟨_,rfl,lq jq.bx q2 q1,hf⟩
    .exact jq.trans (n':=s2.next) (by omega) (⟨fun i o hi ho=>a4.ob i o (by omega) ho⟩:jq s.next s.heap s2.heap) jq.bx
    .simp only[c8];rcases aJ.1 hp with rfl|hp
     .exact ⟨am _,hlt⟩
     .have:=a8 p hp;omega
    .rcases aJ.1 hp with rfl|hp
     .simp
     .exact aC _ (v2 p hp)
    .simp only[c8];rcases aJ.1 hi with rfl|hi
     .exact ⟨am _,hlt⟩
     .have:=v3 i hi;omega
    .simp only[c8];rw[cC,if_neg fun e=>hi (by simp[e]),hin i fun q=>hi (by simp[q])]
   .simp at hm
 |nl k=>intro ln l s w l' s' h1 hm hr;cases ln with|true=>simp[qb]at hm|false=>simp only[qb]at hm;obtain⟨rfl,e⟩:=ad (aa hm);obtain⟨rfl,rfl⟩:=ad e;simp only[ff,pV,kh];exact⟨rfl,trivial,Mk.skip hr (a_ _),by first|rfl|trivial,by first|rfl|trivial,fun _=>rfl⟩
 |st c ih=>
  intro ln l s w l' s' h1 hm hr;cases ln with
  |true=>simp[qb]at hm
  |false=>
   simp only[qb]at hm;split at hm
   .rename_i w0 l0 s2 hm0;obtain⟨rfl,e⟩:=ad (aa hm);obtain⟨rfl,rfl⟩:=ad e;obtain⟨q1,q2,q3,q4,q5,_⟩:=ih true l s w0 l0 s2 h1 hm0 hr;exact⟨q1,q2,q3,q4,q5,fun _=>rfl⟩
   .simp at hm
 |pr a c iha ihc=>
  intro ln l s w l' s' h1 hm hr;cases ln with
  |false=>simp[qb]at hm
  |true=>
   simp only[qb]at hm;split at hm
   .rename_i x l1 s1 hm1;split at hm
    .rename_i r l2 s2 hm2;obtain⟨rfl,e⟩:=ad (aa hm);obtain⟨rfl,rfl⟩:=ad e;obtain⟨q1,q2,q3,q4,q5,_⟩:=iha false l s x l1 s1 h1 hm1 hr;subst q5;obtain⟨p1,p2,p3,p4,p5,_⟩:=ihc true _ s1 r l2 s2 _ hm2 q3.hr;subst p5;simp only[ff,Dt];rw[q4]at p1 p3 p4;exact⟨⟨_,_,rfl,lq p3.eG q2 q1,p1⟩,⟨gy p3.le p3.eG q2,p2⟩,Mk.seq q3 p3,p4,by first|rfl|trivial,fun e=>by cases e⟩
    .simp at hm
   .simp at hm
 |ni=>intro ln l s w l' s' h1 hm hr;cases ln with|false=>simp[qb]at hm|true=>simp only[qb]at hm;obtain⟨rfl,e⟩:=ad (aa hm);obtain⟨rfl,rfl⟩:=ad e;exact⟨rfl,trivial,Mk.skip hr (am _),rfl,rfl,fun e=>by cases e⟩
 |_=>intro ln l s w l' s' h1 hm;cases ln<;>simp[qb]at hm
end
def KW:List (Bool×Sh)->List Bool->Bool
 |[],_=>true
 |(b,_)::r,ms=>decide (ms.headD false=b)&&KW r ms.tail
def vy:Sh->Bool
 |.os _|.rw _|.pb _ _|.nl _=>true
 |_=>false
def yl:Sh->Bool
 |.x t=>bG t==1
 |.os _|.rw _|.pb _ _|.nl _|.pt _|.fn _ _=>true
 |_=>false
def AM:List (Bool×Sh)->Bool
 |[]=>true
 |(b,c)::r=>(bif b then vy c&&Nat.ble (pj c) 300 else(xk c||yl c)&&Nat.ble (wn c) 300)&&AM r
section
variable{h:H2}{n:Nat}{h1:bh}
def Mm(h:H2)(n:Nat)(h1:bh)(p:V×List Nat)(q:C×List Nat×List Nat):Prop:=
 eY h p.1 [q.1]/\eW n h p.1/\(∃t,dn h1 300 q.1=some (t,q.2.1,q.2.2))/\q.2.1.Sublist p.2/\(∀j∈p.2,j∈q.2.1\/mF h j)/\(∀j∈q.2.2,j∈p.2)/\(∀j∈p.2,j<n)/\
  match p.1 with|.so id=>p.2=[id]/\∃u s ver,fO h id=some (.ar u s ver)|.sr id=>p.2=[id]/\∃u s,fO h id=some (.rw u s none)|.op id _ _=>id∈p.2/\¬mF h id|.nl _=>True|_=>False
def wY(h:H2)(n:Nat)(h1:bh):List (V×List Nat)->List (C×List Nat×List Nat)->Prop
 |[],l=>l=[]
 |p::r,l=>∃q m,l=q::m/\Mm h n h1 p q/\wY h n h1 r m
theorem I7{v w:V}{l:List Nat}(hf:jb h v=some (w,l)):tw v=tw w:=by
 cases v with
 |so id=>
  simp only[jb]at hf;split at hf
  .obtain ⟨rfl,_⟩:=ad (aa hf);rfl
  .simp at hf
 |sr id=>
  simp only[jb]at hf;split at hf
  .obtain ⟨rfl,_⟩:=ad (aa hf);rfl
  .simp at hf
 |sb id ver lo t r=>simp only[jb,t9]at hf;obtain⟨rfl,_⟩:=ad (aa hf);rfl
 |rc l=>
  simp only[jb]at hf;split at hf
  .obtain ⟨rfl,_⟩:=ad (aa hf);rfl
  .simp at hf
 |co a r=>
  simp only[jb]at hf;split at hf
  .obtain ⟨rfl,_⟩:=ad (aa hf);rfl
  .simp at hf
 |fn z f l=>cases z<;>simp[jb]at hf;rw[<-hf.1]
 |_=>first|(simp[jb]at hf;done)|(simp[jb]at hf;rw[<-hf.1])
theorem IH{c:Sh}{v:V}{l:List V}{i:List Nat}{x:TV}(hr:HR n h1 h)(hl:vy c=true)(hf:pj c<=300)(ha:dQ h c false v=some (l,i))(hx:ft h v x)(hk:eW n h v):
  ∃cc t bi rd,x=.c cc/\dn h1 300 cc=some (t,bi,rd)/\(∀r,ff c (l++r)=([t],r))/\Mm h n h1 (v,i) (cc,bi,rd):=by
 have hp:KE v/\tw v=false:=by
  cases c<;>simp[vy]at hl
  all_goals(cases v<;>first|exact⟨trivial,rfl⟩|(simp[dQ]at ha;done))
 obtain⟨cc,rfl,hc⟩:=iS (oK hp.1 hx) hp.2;obtain⟨ts,bi,rd,g1,g2,g3,g4,g5,g6,g7⟩:=wC hr c false v l i [cc] ha hc hk;have e:=g1 301 (by omega);simp only[iB,ph]at e;split at e
 .rename_i t a b x' b' j hp1 hp2;obtain⟨rfl,e2⟩:=ad (aa hp2);obtain⟨rfl,rfl⟩:=ad e2;clear e2;clear hp2;obtain⟨rfl,e3⟩:=ad (aa e);obtain⟨rfl,rfl⟩:=ad e3;refine⟨cc,t,_,_,rfl,by simpa using hp1,g2,hc,hk,⟨t,by simpa using hp1⟩,g3,g4,g5,g7,?_⟩;cases v with
  |so id=>
   cases c with
   |os t=>
    simp only[dQ]at ha;split at ha
    .rename_i u s ver ho;split at ha
     .obtain ⟨_,rfl⟩:=ad (aa ha);exact⟨rfl,u,s,ver,ho⟩
     .simp at ha
    .simp at ha
   |_=>simp[dQ,gX,vy]at ha hl
  |sr id=>
   cases c with
   |rw t=>
    simp only[dQ]at ha;split at ha
    .rename_i u s ho;split at ha
     .obtain ⟨_,rfl⟩:=ad (aa ha);exact⟨rfl,u,s,ho⟩
     .simp at ha
    .simp at ha
   |_=>simp[dQ,gX,vy]at ha hl
  |op id u p=>
   cases c with
   |pb t c=>
    cases p with
    |cons=>simp[dQ]at ha
    |nil=>
     simp only[dQ]at ha;split at ha
     .rename_i w q ho;obtain⟨_,ha2⟩:=aH ha;split at ha2
      .obtain ⟨_,rfl⟩:=ad (aa ha2);refine⟨by simp,?_⟩;rintro(⟨u',v',e⟩|⟨u',ln',e⟩)
       .rcases e with e|e<;>rw[ho]at e<;>simp at e
       .rw [ho]at e;cases e
      .simp at ha2
     .simp at ha
   |_=>simp[dQ,gX,vy]at ha hl
  |nl k=>trivial
  |_=>(cases c<;>simp[vy]at hl<;>simp[dQ]at ha)
 .simp at e
theorem De(hr:HR n h1 h):∀(ps:List (Bool×Sh))(vs:List V)(ms:List Bool)(m:List V)(j:List Nat)(q:List (V×List Nat))(xs:List TV),uT h ps vs=some (m,j,q)->l9 h vs xs->(∀w∈vs,eW n h w)->(∀w∈vs,ig h w=true)->KW ps ms=true->AM ps=true->
  ∃au lent,ge h1 xs ms=some (eT ps m,au,lent)/\(∀i∈au,i∈j/\¬mF h i)/\(∀i∈j,i∈au\/mF h i)/\wY h n h1 q lent:=by
 intro ps;induction ps with
 |nil=>intro vs ms m j q xs ha hx hk hal hm hp;cases vs with|cons=>simp[uT]at ha|nil=>obtain⟨rfl,e⟩:=ad (aa ha);obtain⟨rfl,rfl⟩:=ad e;obtain rfl:=kR hx;exact⟨[],[],rfl,fun i hi=>by simp at hi,fun i hi=>by simp at hi,rfl⟩
 |cons p ps ih=>
  obtain⟨b,c⟩:=p;intro vs ms m j q xs ha hx hk hal hm hp;cases vs with
  |nil=>simp[uT]at ha
  |cons v vs=>
   obtain⟨x,ys,rfl,hx1,hx2⟩:=fT hx;simp only[KW,ah,decide_eq_true_eq]at hm;simp only[AM,ah]at hp;simp only[uT]at ha;split at ha
   .rename_i m' j' q' hrest;obtain⟨au,lent,e1,e2,e3,e4⟩:=ih vs ms.tail m' j' q' ys hrest hx2 (fun w hw=>hk w (by simp[hw])) (fun w hw=>hal w (by simp[hw])) hm.2 hp.2;cases b with
    |true=>
     simp only[cond_true]at ha;split at ha
     .rename_i l i ha2;obtain⟨rfl,e⟩:=ad (aa ha);obtain⟨rfl,rfl⟩:=ad e;have hp1:=hp.1;simp only[cond_true,ah,Nat.ble_eq]at hp1;obtain⟨cc,t,bi,rd,rfl,f1,f2,f3⟩:=IH hr hp1.1 hp1.2 ha2 hx1 (hk v (by simp));refine⟨au,(cc,bi,rd)::lent,?_,e2,e3,⟨_,_,rfl,f3,e4⟩⟩;rw[Pz f1 hm.1 e1];simp only[eT,f2,bJ]
     .simp at ha
    |false=>
     simp only[cond_false]at ha;split at ha
     .rename_i l i ha2;obtain⟨rfl,e⟩:=ad (aa ha);obtain⟨rfl,rfl⟩:=ad e;have hp1:=hp.1;simp only[cond_false,ah,Nat.ble_eq,fM]at hp1;have hpl:KE v:=by cases v<;>first|trivial|(cases c<;>simp[oI,jb]at ha2)
      cases hs:xk c with
      |true=>
       cases c with
       |x t=>
        simp only[oI]at ha2;split at ha2
        .rename_i w l' hw;split at ha2
         .rename_i y hy;obtain⟨rfl,rfl⟩:=ad (aa ha2);obtain⟨cs,hc,h3,h4⟩:=oK hpl hx1;obtain⟨ds,is,f1,f2,f3,f4,_⟩:=sT hr v w l' cs hw hc (hk v (by simp)) (hal v (by simp));have e5:=pA (iN w false t y _ hy f2);subst e5;refine⟨is++au,lent,?_,fun k hk=>?_,fun k hk=>?_,e4⟩
          .rw [h3 (((I7 hw).trans (wv hy)).trans hs),Nx f1 hm.1 e1];simp only[eT,hs,cond_true];rfl
          .rcases ak.1 hk with hk|hk
           .exact ⟨aG _ (f3 k hk).1,(f3 k hk).2⟩
           .exact ⟨aD _ (e2 k hk).1,(e2 k hk).2⟩
          .rcases ak.1 hk with hk|hk
           .exact (f4 k hk).imp (aG _) (fun q=>q)
           .exact (e3 k hk).imp (aD _) (fun q=>q)
         .simp at ha2
        .simp at ha2
       |st c=>simp[oI]at ha2
       |_=>simp[xk]at hs
      |false=>
       have hag:tw v=false:=by
        cases c with
        |x t=>
         simp only[oI]at ha2;split at ha2
         .rename_i w l' hw;split at ha2
          .rename_i y hy;exact((I7 hw).trans (wv hy)).trans hs
          .simp at ha2
         .simp at ha2
        |_=>cases v<;>first|rfl|(simp[oI]at ha2;done)|(simp[xk]at hs;done)|(simp[yl,xk]at hp1;done)
       obtain⟨cs,hc,h3,h4⟩:=oK hpl hx1;obtain⟨ds,is,g1,g2,g3,g4,g5⟩:=Ho hr c v l i cs ha2 hc (hk v (by simp)) (hal v (by simp));refine⟨is++au,lent,?_,fun k hk=>?_,fun k hk=>?_,e4⟩
       .obtain ⟨cc,rfl,rfl⟩:=h4 hag;have e:=g1 301 (by omega);have en:fN h1 300 []=some ([],[]):=rfl;simp only[fN,en]at e;split at e
        .rename_i d a xs' b' hv1 hv2;obtain⟨rfl,rfl⟩:=ad (aa hv2);clear hv2;obtain⟨rfl,rfl⟩:=ad (aa e);rw[SU hv1 hm.1 e1];simp only[eT,hs,g2,cond_false,bJ,bo]
        .simp at e
       .rcases ak.1 hk with hk|hk
        .exact ⟨aG _ (g3 k hk).1,(g3 k hk).2⟩
        .exact ⟨aD _ (e2 k hk).1,(e2 k hk).2⟩
       .rcases ak.1 hk with hk|hk
        .exact (g4 k hk).imp (aG _) (fun q=>q)
        .exact (e3 k hk).imp (aD _) (fun q=>q)
     .simp at ha
   .simp at ha
end
section
variable{h:H2}{n:Nat}{h1:bh}
structure Bk(s s':S2)(h1:bh)(I:List Nat)(u:eg):Prop where
 hr:HR s'.next (u++h1) s'.heap
 eG:jq s.next s.heap s'.heap
 cR:s'.cR=s.cR
 gh:s'.gh=s.gh
 le:s.next<=s'.next
 Ef:∀p∈u,p.1∈I\/(s.next<=p.1/\p.1<s'.next)
 nb:∀i,i<s.next->fO s.heap i=none->fO s'.heap i=none
 wo:∃W,s'.wo=W++s.wo/\(∀p∈u,p.1∈W)/\∀i,i∉W->fO s'.heap i=fO s.heap i
theorem Bk.refl{s:S2}(hr:HR s.next h1 s.heap):Bk s s h1 [] []:=⟨hr,jq.refl _ _,rfl,rfl,am _,fun p hp=>by simp at hp,fun _ _ h=>h,[],rfl,fun p hp=>by simp at hp,fun _ _=>rfl⟩
theorem Bk.seq{s s1 s2:S2}{I J:List Nat}{u1 u2:eg}(a:Bk s s1 h1 I u1)(b:Bk s1 s2 (u1++h1) J u2)(hd:∀i∈I,i∉J)(hI:∀i∈I,i<s.next)(hJ:∀j∈J,j<s.next):Bk s s2 h1 (I++J) (u1++u2):=by
 obtain⟨a3,a4,a5,a6,a7,a8,a9,W,v1,v2,v4⟩:=a;obtain⟨b3,b4,b5,b6,b7,b8,b9,X,x1,x2,x4⟩:=b;refine⟨b3.ext fun i=>wa (fun p hp q hq e=>?_) i,a4.trans a7 b4,b5.trans a5,b6.trans a6,by omega,fun p hp=>?_,fun i hi h=>b9 i (by omega) (a9 i hi h),X++W,by rw[x1,v1,aS],fun p hp=>?_,fun i hi=>?_⟩
 .rcases a8 p hp with h2|h2<;>rcases b8 q hq with h3|h3
  .exact hd _ h2 (e▸h3)
  .have:=hI _ h2;omega
  .have:=hJ _ h3;omega
  .omega
 .rcases ak.1 hp with hp|hp
  .rcases a8 p hp with h2|h2
   .exact .inl (aG _ h2)
   .exact .inr (by omega)
  .rcases b8 p hp with h2|h2
   .exact .inl (aD _ h2)
   .exact .inr (by omega)
 .rcases ak.1 hp with hp|hp
  .exact aD _ (v2 p hp)
  .exact aG _ (x2 p hp)
 .rw [x4 i fun q=>hi (aG _ q),v4 i fun q=>hi (aD _ q)]
theorem o6:∀(i:List Nat)(s:S2),(iT i s).cR=s.cR/\(iT i s).next=s.next/\(iT i s).gh=s.gh/\(iT i s).wo=i++s.wo/\∀j,fO (iT i s).heap j=if j∈i then none else fO s.heap j:=by
 intro i;induction i with
 |nil=>intro s;exact⟨rfl,rfl,rfl,rfl,fun j=>by simp[iT]⟩
 |cons a i ih=>
  intro s;obtain⟨h1,h2,h3,h4,h5⟩:=ih s;refine⟨h1,h2,h3,by simp[iT,c8,h4],fun j=>?_⟩;simp only[iT,c8,cC,h5];by_cases e:a=j
  .subst e;simp
  .simp [e,Ne.symm e]
theorem jq.sub{g:H2}(hs:∀i o,fO g i=some o->fO h i=some o):jq n h g:=⟨fun i o _ ho=>.inl ⟨o,hs i o ho,sf.refl _⟩⟩
theorem HR.sub{g:H2}(hr:HR n h1 h)(hs:∀i o,fO g i=some o->fO h i=some o):HR n h1 g:=⟨fun i o ho=>let⟨a,b,c⟩:=hr.ob i o (hs i o ho);⟨a,pw (jq.sub hs) c b,nW (am _) (jq.sub hs) c⟩⟩
theorem yA{i:List Nat}{s:S2}:∀j o,fO (iT i s).heap j=some o->fO s.heap j=some o:=by
 intro j o ho;rw[(o6 i s).2.2.2.2]at ho;split at ho
 .simp at ho
 .exact ho
theorem Ac{bi:List Nat}{j:Nat}(hj:j∉bi):ao (bi.map (fun i=>(i,(none:Option Ob)))++h1) j=ao h1 j:=wd fun p hp e=>by obtain⟨i,hi,rfl⟩:=eh.1 hp;exact hj (e▸hi)
theorem Bk.ll{s:S2}{i bi:List Nat}(hr:HR s.next h1 s.heap)(ho:∀j∈bi,j∈i):Bk s (iT i s) h1 i (bi.map fun j=>(j,none)):=by
 obtain⟨k1,k2,k3,k4,k5⟩:=o6 i s;refine⟨⟨fun j o hj=>?_⟩,jq.sub yA,k1,k3,by omega,fun p hp=>?_,fun j _ h=>by rw[k5];split<;>first|rfl|exact h,i,k4,fun p hp=>?_,fun j hj=>by rw[k5,if_neg hj]⟩
 .obtain ⟨a,b,c⟩:=(hr.sub yA).ob j o hj;refine⟨by omega,?_,by rw[k2];exact c⟩;have:j∉i:=fun hm=>by rw[k5,if_pos hm]at hj;simp at hj
  rw[Ac fun hm=>this (ho j hm)];exact b
 .obtain ⟨j,hj,rfl⟩:=eh.1 hp;exact .inl (ho j hj)
 .obtain ⟨j,hj,rfl⟩:=eh.1 hp;exact ho j hj
theorem tR{α:Type}{a b:Sl α}{u:Unit}(hl:GG a b=some u):a.eS=b.eS/\a.l.length=b.l.length:=by
 cases a<;>cases b<;>simp[GG]at hl
 .exact ⟨rfl,rfl⟩
 .exact ⟨rfl,GH.1 hl⟩
theorem sV{c:C}{rd:List Nat}{x:D}{r:List (C×List Nat×List Nat)}{ts:List T}{m:Nat}:dX m ((c,[],rd)::r) (.d x::ts)=dX m r ts:=by simp only[dX]
theorem yf{x:D}{t:T}{bi rd:List Nat}(hp:dn h1 300 (.d x)=some (t,bi,rd)):bi=[]:=by rw[vi]at hp;obtain⟨_,e⟩:=ad (aa hp);exact(ad e).1.symm
theorem Ix{q:List (V×List Nat)}{v:V}{i:List Nat}(hn:(kf (fun(p:V×List Nat)=>p.2) ((v,i)::q)).Nodup):(∀j∈i,j∉kf (fun(p:V×List Nat)=>p.2) q)/\(kf (fun(p:V×List Nat)=>p.2) q).Nodup:=by simp only[br]at hn;exact⟨fun j hj hm=>(dj.1 hn).2.2 j hj j hm rfl,(dj.1 hn).2.1⟩
theorem wY.lt:∀{q:List (V×List Nat)}{lent:List (C×List Nat×List Nat)},wY h n h1 q lent->∀j∈kf (fun(p:V×List Nat)=>p.2) q,j<n:=by
 intro q;induction q with
 |nil=>intro lent _ j hj;simp at hj
 |cons p q ih=>
  rintro lent ⟨x,m,rfl,hx,hm⟩ j hj;simp only[br,ak]at hj;rcases hj with hj|hj
  .exact hx.2.2.2.2.2.2.1 j hj
  .exact ih hm j hj
theorem JI{szi m id len k:Nat}{rows:List (Option (List (List D)))}{rd:List Nat}{r:List (C×List Nat×List Nat)}{ts:List T}{w:eg}(hl:rows.length=len)(hr:dX m r ts=some (w,k)):
  dX m ((.bP 1 id 0 len,[id],rd)::r) (.zh szi rows::ts)=some ((id,some (.nst szi (rows.map mL)))::w,k):=by
 simp only[dX,hl,hr,and_self,if_true]
theorem yV{β:Type}{z:β}(hr0:HR n h1 h):∀(os:List Sh)(q:List (V×List Nat))(lent:List (C×List Nat×List Nat))(l:List V)(s:S2)(H:bh)(k:S2->Option β),eB os q l s k=some z->wY h n h1 q lent->n<=s.next->HR s.next H s.heap->jq n h s.heap->
  (kf (fun(p:V×List Nat)=>p.2) q).Nodup->∃s1 bu,k s1=some z/\dX s.next lent (kG os l)=some (bu,s1.next)/\Bk s s1 H (kf (fun(p:V×List Nat)=>p.2) q) bu:=by
 intro os;induction os with
 |nil=>
  intro q lent l s H k hb hl hn hr eG hnd;cases q with
  |cons p q=>simp[eB]at hb
  |nil=>cases l with|cons=>simp[eB]at hb|nil=>obtain rfl:lent=[]:=hl;exact⟨s,[],hb,rfl,Bk.refl hr⟩
 |cons o os ih=>
  intro q lent l s H k hb hl hn hr eG hnd;cases q with
  |nil=>cases o<;>simp[eB]at hb
  |cons p q=>
   obtain⟨v,i⟩:=p;obtain⟨⟨c,bi,rd⟩,m,rfl,⟨hc,hkv,⟨tp,hpk⟩,hsub,hcov,hrd,hlt,hsh⟩,hl2⟩:=hl;obtain⟨hd,hnd2⟩:=Ix hnd;have hI:∀j∈i,j<s.next:=fun j hj=>by have:j<n:=hlt j hj;omega
   have hJ:∀j∈kf (fun(p:V×List Nat)=>p.2) q,j<s.next:=fun j hj=>by have:=hl2.lt j hj;omega
   cases o with
   |nl kk=>cases i with|cons=>simp[eB]at hb|nil=>simp only[eB]at hb;obtain⟨s1,bu,e1,e2,e3⟩:=ih q m l s H k hb hl2 hn hr eG hnd2;have:bi=[]:=List.sublist_nil.1 hsub;subst this;exact⟨s1,bu,e1,by simp only[kG,ff,bJ,sV];exact e2,by simpa using e3⟩
   |gn=>simp only[eB]at hb;obtain⟨k1,k2,k3,k4,k5⟩:=o6 i s;have b1:Bk s (iT i s) H i (bi.map fun j=>(j,none)):=Bk.ll hr fun j hj=>hsub.subset hj;obtain⟨s1,bu,e1,e2,e3⟩:=ih q m l (iT i s) _ k hb hl2 (by omega) b1.hr (eG.trans hn b1.eG) hnd2;rw[k2]at e2;exact⟨s1,_,e1,by simp only[kG,ff,bJ];exact Hm e2,by simpa using b1.seq e3 hd hI hJ⟩
   |os t=>
    cases v with
    |nl kk=>
     cases kk with
     |succ=>cases l with|nil=>simp[eB]at hb|cons w l=>cases w<;>simp[eB]at hb
     |zero=>
      cases i with
      |cons=>cases l with|nil=>simp[eB]at hb|cons w l=>cases w<;>simp[eB]at hb
      |nil=>
       match l with
       |.x (.sl u) v::l=>
        simp only[eB]at hb;split at hb
        .rename_i v' hv;obtain⟨e,rfl⟩:=cE hv;cases e;obtain⟨_,hls,hb2⟩:=qN hb;obtain⟨hni,_⟩:=tR hls;obtain⟨s1,bu,e1,e2,e3⟩:=ih q m l s H k hb2 hl2 hn hr eG hnd2;have:bi=[]:=List.sublist_nil.1 hsub;subst this;refine⟨s1,bu,e1,?_,by simpa using e3⟩;cases v with|mk=>simp[Sl.eS]at hni|nil=>simp only[kG,ff,bJ,MA,sV];exact e2
        .simp at hb
       |[]|.kb _::_|.nl _::_|.so _::_|.sr _::_|.sb _ _ _ _ _::_|.op _ _ _::_|.ep _ _ _ _::_|.pt _ _::_|.fn _ _ _::_|.om _::_|.rc _::_|.tp _::_|.ni::_|.co _ _::_|.fl _::_|.no::_|.gn::_=>simp[eB]at hb
       |.x (.i _) _::_|.x .b _::_|.x .s _::_|.x (.f _) _::_|.x (.mp _ _) _::_|.x .un _::_|.x (.pr _ _) _::_|.x (.st _) _::_|.x (.ar _ _) _::_|.x (.o _) _::_=>simp[eB]at hb
    |so id=>
     match l with
     |.x (.sl u) v::l=>
      simp only[eB]at hb;split at hb
      .rename_i w old ver v' ho hv;obtain⟨e,rfl⟩:=cE hv;cases e;split at hb
       .rename_i v2 hv2;obtain⟨e,rfl⟩:=cE hv2;cases e;obtain⟨_,hls,hb2⟩:=qN hb;obtain⟨hni,hln⟩:=tR hls;obtain⟨rfl,u0,s0,ver0,ho0⟩:=hsh;have hid:id<n:=hkv;obtain⟨o1,ho1,hos⟩:=(eG.ob id _ hid ho).resolve_right (by simp[K3]);rw[ho0]at ho1;obtain rfl:=aa ho1;obtain⟨_,rfl,hn1,hn2,_⟩:=hos;obtain⟨cc,ece,hcc⟩:=hc;obtain rfl:=fg.1 ece;have ec:=hcc.1 _ (lF (.inl ho0));obtain⟨q1,q2,q3⟩:=(hr.ob id _ ho).2.1;have hosn:sf (.ar u0 old ver) (.ar u0 v (ver+1)):=⟨a_ _,rfl,hni.symm,hln.symm,fun e=>by omega⟩
        have key:∀(uu:eg),(∀p∈uu,p.1=id)->(∀l,v=.mk l->ao (uu++H) id=some (.aF (bG u0) (l.map (aP u0))))->Bk s (c8 s id (some (.ar u0 v (ver+1)))) H [id] uu:=by intro uu hu hlk;have d:=rY (x:=.gB []) (v:=.no) (au:=[]) (l:=[]) hr ho hni.symm hln.symm hu hlk (fun _=>rfl) (fun _ _=>trivial) (fun i hi=>by simp at hi);exact⟨d.hr,d.eG,rfl,rfl,am _,fun p hp=>.inl (by simp[hu p hp]),d.nb,[id],rfl,fun p hp=>by simp[hu p hp],fun j hj=>by simp only[c8];rw[cC,if_neg fun e=>hj (by simp[e])]⟩
        cases v with
        |nil=>
         have b1:=key [] (fun p hp=>by simp at hp) (fun l e=>by cases e);obtain⟨s1,bu,f1,f2,e3⟩:=ih q m l _ _ k hb2 hl2 hn b1.hr (eG.trans hn b1.eG) hnd2;have hnil:s0.eS=true:=by rw[hn1,<-hni];rfl
         cases s0 with|mk=>simp[Sl.eS]at hnil|nil=>subst ec;have:=yf hpk;subst this;refine⟨s1,bu,f1,?_,by simpa using b1.seq e3 hd hI hJ⟩;simp only[kG,ff,bJ,MA,sV];exact f2
        |mk vl=>
         have b1:=key [(id,some (.aF (bG u0) (vl.map (aP u0))))] (fun p hp=>by simp at hp;simp[hp]) (fun l e=>by cases e;rw[aT,ck,if_pos rfl]);obtain⟨s1,bu,f1,f2,e3⟩:=ih q m l _ _ k hb2 hl2 hn b1.hr (eG.trans hn b1.eG) hnd2;have hnil:s0.eS=false:=by rw[hn1,<-hni];rfl
         cases s0 with|nil=>simp[Sl.eS]at hnil|mk tL=>subst ec;have hlk:=(hr0.ob id _ ho0).2.1.2.2 tL rfl;have hp2:=Tb (k:=300) hlk;simp only[kr]at hpk;rw[hp2]at hpk;obtain⟨_,e⟩:=ad (aa hpk);obtain⟨rfl,rfl⟩:=ad e;refine⟨s1,_,f1,?_,by simpa using b1.seq e3 hd hI hJ⟩;simp only[kG,ff,bJ,MA,kr];refine LK ?_ f2;simp only[Sl.l]at hn2 hln;simp only[aR];omega
       .simp at hb
      .simp at hb
     |[]|.kb _::_|.nl _::_|.so _::_|.sr _::_|.sb _ _ _ _ _::_|.op _ _ _::_|.ep _ _ _ _::_|.pt _ _::_|.fn _ _ _::_|.om _::_|.rc _::_|.tp _::_|.ni::_|.co _ _::_|.fl _::_|.no::_|.gn::_=>simp[eB]at hb
     |.x (.i _) _::_|.x .b _::_|.x .s _::_|.x (.f _) _::_|.x (.mp _ _) _::_|.x .un _::_|.x (.pr _ _) _::_|.x (.st _) _::_|.x (.ar _ _) _::_|.x (.o _) _::_=>simp[eB]at hb
    |_=>simp[eB]at hb
   |rw t=>
    cases v with
    |nl kk=>
     cases kk with
     |succ=>cases l with|nil=>simp[eB]at hb|cons w l=>cases w<;>simp[eB]at hb
     |zero=>
      cases i with
      |cons=>cases l with|nil=>simp[eB]at hb|cons w l=>cases w<;>simp[eB]at hb
      |nil=>
       match l with
       |.x (.sl (.sl u)) v::l=>
        simp only[eB]at hb;split at hb
        .rename_i v' hv;obtain⟨e,rfl⟩:=cE hv;cases e;obtain⟨_,hls,hb2⟩:=qN hb;obtain⟨hni,_⟩:=tR hls;obtain⟨s1,bu,e1,e2,e3⟩:=ih q m l s H k hb2 hl2 hn hr eG hnd2;have:bi=[]:=List.sublist_nil.1 hsub;subst this;refine⟨s1,bu,e1,?_,by simpa using e3⟩;cases v with|mk=>simp[Sl.eS]at hni|nil=>simp only[kG,ff,bJ,xR,sV];exact e2
        .simp at hb
       |[]|.kb _::_|.nl _::_|.so _::_|.sr _::_|.sb _ _ _ _ _::_|.op _ _ _::_|.ep _ _ _ _::_|.pt _ _::_|.fn _ _ _::_|.om _::_|.rc _::_|.tp _::_|.ni::_|.co _ _::_|.fl _::_|.no::_|.gn::_=>simp[eB]at hb
       |.x (.sl (.i _)) _::_|.x (.sl .b) _::_|.x (.sl .s) _::_|.x (.sl (.f _)) _::_|.x (.sl (.mp _ _)) _::_|.x (.sl .un) _::_|.x (.sl (.pr _ _)) _::_|.x (.sl (.st _)) _::_|.x (.sl (.ar _ _)) _::_|.x (.sl (.o _)) _::_|.x (.i _) _::_|.x .b _::_|.x .s _::_|.x (.f _) _::_|.x (.mp _ _) _::_|.x .un _::_|.x (.pr _ _) _::_|.x (.st _) _::_|.x (.ar _ _) _::_|.x (.o _) _::_=>simp[eB]at hb
    |sr id=>
     match l with
     |.x (.sl (.sl u)) v::l=>
      simp only[eB]at hb;split at hb
      .rename_i w old ln v' ho hv;obtain⟨e,rfl⟩:=cE hv;cases e;split at hb
       .rename_i v2 hv2;obtain⟨e,rfl⟩:=cE hv2;cases e;obtain⟨_,hls,hb2⟩:=qN hb;obtain⟨hni,hln⟩:=tR hls;obtain⟨rfl,u0,s0,ho0⟩:=hsh;have hid:id<n:=hkv;obtain⟨o1,ho1,hos⟩:=(eG.ob id _ hid ho).resolve_right (by simp[K3]);rw[ho0]at ho1;obtain rfl:=aa ho1;obtain⟨rfl,hn1,hn2⟩:=hos;obtain⟨cc,ece,hcc⟩:=hc;obtain rfl:=fg.1 ece;have ec:=hcc.1 _ (sI ho0);obtain⟨q1,q2,q3⟩:=(hr.ob id _ ho).2.1;have hosn:sf (.rw u0 old ln) (.rw u0 v none):=⟨rfl,hni.symm,hln.symm⟩
        have key:∀(uu:eg),(∀p∈uu,p.1=id)->(∀l,v=.mk l->ao (uu++H) id=some (.nst (bG u0) (dO u0 l none)))->Bk s (c8 s id (some (.rw u0 v none))) H [id] uu:=by intro uu hu hlk;have d:=EY (x:=.gB []) (v:=.no) (au:=[]) (l:=[]) hr ho hosn hu ⟨q1,q2,hlk⟩ trivial rfl trivial (fun i hi=>by simp at hi);exact⟨d.hr,d.eG,rfl,rfl,am _,fun p hp=>.inl (by simp[hu p hp]),d.nb,[id],rfl,fun p hp=>by simp[hu p hp],fun j hj=>by simp only[c8];rw[cC,if_neg fun e=>hj (by simp[e])]⟩
        cases v with
        |nil=>
         have b1:=key [] (fun p hp=>by simp at hp) (fun l e=>by cases e);obtain⟨s1,bu,f1,f2,e3⟩:=ih q m l _ _ k hb2 hl2 hn b1.hr (eG.trans hn b1.eG) hnd2;have hnil:s0.eS=true:=by rw[hn1,<-hni];rfl
         cases s0 with|mk=>simp[Sl.eS]at hnil|nil=>subst ec;have:=yf hpk;subst this;refine⟨s1,bu,f1,?_,by simpa using b1.seq e3 hd hI hJ⟩;simp only[kG,ff,bJ,xR,sV];exact f2
        |mk vl=>
         have b1:=key [(id,some (.nst (bG u0) (dO u0 vl none)))] (fun p hp=>by simp at hp;simp[hp]) (fun l e=>by cases e;rw[aT,ck,if_pos rfl]);obtain⟨s1,bu,f1,f2,e3⟩:=ih q m l _ _ k hb2 hl2 hn b1.hr (eG.trans hn b1.eG) hnd2;have hnil:s0.eS=false:=by rw[hn1,<-hni];rfl
         cases s0 with|nil=>simp[Sl.eS]at hnil|mk tL=>subst ec;have hlk:=(hr0.ob id _ ho0).2.1.2.2 tL rfl;have hp2:=Rt (k:=300) hlk;simp only[kr]at hpk hp2;rw[hp2]at hpk;obtain⟨_,e⟩:=ad (aa hpk);obtain⟨rfl,rfl⟩:=ad e;refine⟨s1,_,f1,?_,by simpa using b1.seq e3 hd hI hJ⟩;simp only[kG,ff,bJ,xR,kr,aR];rw[show dO u0 vl none=(vl.map (Gb u0)).map mL from(xT vl).symm];refine JI ?_ f2;rw[aR];exact hln.trans hn2.symm
       .simp at hb
      .simp at hb
     |[]|.kb _::_|.nl _::_|.so _::_|.sr _::_|.sb _ _ _ _ _::_|.op _ _ _::_|.ep _ _ _ _::_|.pt _ _::_|.fn _ _ _::_|.om _::_|.rc _::_|.tp _::_|.ni::_|.co _ _::_|.fl _::_|.no::_|.gn::_=>simp[eB]at hb
     |.x (.sl (.i _)) _::_|.x (.sl .b) _::_|.x (.sl .s) _::_|.x (.sl (.f _)) _::_|.x (.sl (.mp _ _)) _::_|.x (.sl .un) _::_|.x (.sl (.pr _ _)) _::_|.x (.sl (.st _)) _::_|.x (.sl (.ar _ _)) _::_|.x (.sl (.o _)) _::_|.x (.i _) _::_|.x .b _::_|.x .s _::_|.x (.f _) _::_|.x (.mp _ _) _::_|.x .un _::_|.x (.pr _ _) _::_|.x (.st _) _::_|.x (.ar _ _) _::_|.x (.o _) _::_=>simp[eB]at hb
    |_=>simp[eB]at hb
   |pb t c2=>
    cases v with
    |op id u p=>
     cases p with
     |cons=>simp[eB]at hb
     |nil=>
      simp only[eB]at hb;split at hb
      case h_2=>simp at hb
      rename_i oid hoid;split at hb
      .rename_i w l' s2 hm;obtain⟨hf,hb2⟩:=aH hb;simp only[ah,decide_eq_true_eq]at hf;obtain⟨hf,rfl⟩:=hf;obtain⟨g1,g2,g3,g4,g5,_⟩:=vu c2 false l s w l' s2 H hm hr;subst g5;obtain⟨hid,hnn⟩:=hsh;have hio:id∈bi:=(hcov id hid).resolve_right hnn
       obtain rfl:c=.op id 0:=by
        have e0:mJ u []=0:=by cases u<;>rfl
        have:[c]=[C.op id (mJ u [])]:=hc;rw[e0]at this;exact fg.1 this
       obtain⟨k1,k2,k3,k4,k5⟩:=o6 i s2;have hids:id<s2.next:=by have:=hI id hid;have:=g3.le;omega
       have b1:Bk s (c8 (iT i s2) id (some (.bx u w))) H i ((id,some (.box (il s.next (ff c2 l).1).1))::(il s.next (ff c2 l).1).2.1++bi.map (fun j=>(j,none))):=by
        obtain⟨a3,a4,a5,a6,a7,a8,W,v1,v2,v3,v4⟩:=g3;have hs2:jq s2.next s2.heap (c8 (iT i s2) id (some (.bx u w))).heap:=jq.trans (am _) (jq.sub yA) jq.bx;refine⟨⟨fun j o hj=>?_⟩,jq.trans a7 a4 hs2,k1.trans a5,k3.trans a6,by simp only[c8];omega,fun p hp=>?_,fun j hj hn=>(by simp only[c8];rw[cC,if_neg (fun e=>by rw[e,hn]at hoid;cases hoid),k5];split<;>first|rfl|(rw[v4 j fun q=>by have:=(v3 j q).1;omega];exact hn)),id::(i++W),by simp only[c8,k4,v1,aO,aS],fun p hp=>?_,fun j hj=>?_⟩
        .simp only[c8]at hj|-;rw[cC]at hj;split at hj
         .rename_i e;subst e;obtain rfl:=aa hj;refine⟨by omega,?_,?_⟩
          .rw [aO,aO,ck,if_pos rfl];exact⟨_,rfl,lq hs2 g2 g1,hf⟩
          .rw [k2];exact gy (am _) hs2 g2
         .rename_i e;have hji:j∉i:=fun hm=>by rw[k5,if_pos hm]at hj;simp at hj
          rw[k5,if_neg hji]at hj;obtain⟨c1,c2',c3⟩:=a3.ob j o hj;refine⟨by omega,?_,?_⟩
          .rw [aO,aO,ck,if_neg e,aS];have:ao ((il s.next (ff c2 l).1).2.1++(bi.map (fun j=>(j,none))++H)) j=ao ((il s.next (ff c2 l).1).2.1++H) j:=by simp only[ao,gG];have:=Ac (h1:=H) (bi:=bi) (j:=j) fun hm=>hji (hsub.subset hm);simp only[ao,gG]at this;cases bQ (il s.next (ff c2 l).1).2.1 j with|some x=>rfl|none=>exact this
           rw[this];exact pw hs2 c3 c2'
          .rw [k2];exact nW (am _) hs2 c3
        .rcases ak.1 hp with hp|hp
         .rcases aJ.1 hp with rfl|hp
          .exact .inl hid
          .have:=a8 p hp;exact .inr ⟨this.1,by simp only[c8];omega⟩
         .obtain ⟨j,hj,rfl⟩:=eh.1 hp;exact .inl (hsub.subset hj)
        .rcases ak.1 hp with hp|hp
         .rcases aJ.1 hp with rfl|hp
          .simp
          .simp [v2 p hp]
         .obtain ⟨j,hj,rfl⟩:=eh.1 hp;simp[hsub.subset hj]
        .simp only[c8];rw[cC,if_neg fun e=>hj (by simp[e]),k5,if_neg fun q=>hj (by simp[q]),v4 j fun q=>hj (by simp[q])]
       obtain⟨s1,bu,e1,e2,e3⟩:=ih q m _ _ _ k hb2 hl2 (by have:=b1.le;omega) b1.hr (eG.trans hn b1.eG) hnd2;have en:(c8 (iT i s2) id (some (.bx u w))).next=(il s.next (ff c2 l).1).2.2:=by simp only[c8,k2,g4]
       rw[en]at e2;refine⟨s1,_,e1,?_,by simpa using b1.seq e3 hd hI hJ⟩;simp only[kG,ff,bJ];have:=LJ (n:=s.next) (id:=id) (bi:=bi) (rd:=rd) (by simpa using hio) e2;rw[this];simp only[aO,aS]
      .simp at hb
    |_=>simp[eB]at hb
   |_=>simp[eB]at hb
end
def N_(c:Sh):Bool:=xk c||yl c
section
variable{h:H2}{n:Nat}{h1:bh}
theorem Bf{c:Sh}{l l':List V}{s s':S2}{w:V}(hm:qb c false l s=some (w,l',s'))(ho:yl c=true):(ff c l).1.length=1:=by
 cases c with
 |x t=>match l with|.x u v::l=>simp only[qb]at hm;obtain⟨hc,_⟩:=aH hm;simp only[ah,decide_eq_true_eq]at hc;obtain⟨rfl,_⟩:=hc;simpa[ff,bH,yl]using ho|[]|.kb _::_|.nl _::_|.so _::_|.sr _::_|.sb _ _ _ _ _::_|.op _ _ _::_|.ep _ _ _ _::_|.pt _ _::_|.fn _ _ _::_|.om _::_|.rc _::_|.tp _::_|.ni::_|.co _ _::_|.fl _::_|.no::_|.gn::_=>simp[qb]at hm
 |os t=>match l with|.x (.sl u) v::l=>rfl|[]|.kb _::_|.nl _::_|.so _::_|.sr _::_|.sb _ _ _ _ _::_|.op _ _ _::_|.ep _ _ _ _::_|.pt _ _::_|.fn _ _ _::_|.om _::_|.rc _::_|.tp _::_|.ni::_|.co _ _::_|.fl _::_|.no::_|.gn::_=>simp[qb]at hm|.x (.i _) _::_|.x .b _::_|.x .s _::_|.x (.f _) _::_|.x (.mp _ _) _::_|.x .un _::_|.x (.pr _ _) _::_|.x (.st _) _::_|.x (.ar _ _) _::_|.x (.o _) _::_=>simp[qb]at hm
 |rw t=>match l with|.x (.sl (.sl u)) v::l=>rfl|[]|.kb _::_|.nl _::_|.so _::_|.sr _::_|.sb _ _ _ _ _::_|.op _ _ _::_|.ep _ _ _ _::_|.pt _ _::_|.fn _ _ _::_|.om _::_|.rc _::_|.tp _::_|.ni::_|.co _ _::_|.fl _::_|.no::_|.gn::_=>simp[qb]at hm|.x (.sl (.i _)) _::_|.x (.sl .b) _::_|.x (.sl .s) _::_|.x (.sl (.f _)) _::_|.x (.sl (.mp _ _)) _::_|.x (.sl .un) _::_|.x (.sl (.pr _ _)) _::_|.x (.sl (.st _)) _::_|.x (.sl (.ar _ _)) _::_|.x (.sl (.o _)) _::_|.x (.i _) _::_|.x .b _::_|.x .s _::_|.x (.f _) _::_|.x (.mp _ _) _::_|.x .un _::_|.x (.pr _ _) _::_|.x (.st _) _::_|.x (.ar _ _) _::_|.x (.o _) _::_=>simp[qb]at hm
 |pb t c=>rfl
 |nl k=>rfl
 |_=>first|(simp[qb]at hm;done)|(simp[yl]at ho;done)
theorem z_:∀(rs:List Sh)(l:List V)(s:S2)(xs:List V)(l':List V)(s':S2)(h1:bh),Gz rs l s=some (xs,l',s')->HR s.next h1 s.heap->rs.all N_=true->
  AF s'.heap (eU xs) (gN s.next (ja rs l)).1/\(∀x∈xs,eW s'.next s'.heap x)/\Mk s s' h1 (gN s.next (ja rs l)).2.1/\s'.next=(gN s.next (ja rs l)).2.2/\xs.length=rs.length:=by
 intro rs;induction rs with
 |nil=>intro l s xs l' s' h1 hm hr _;obtain⟨rfl,e⟩:=ad (aa hm);obtain⟨rfl,rfl⟩:=ad e;exact⟨rfl,fun x hx=>by simp at hx,Mk.skip hr (am _),rfl,rfl⟩
 |cons c rs ih=>
  intro l s xs l' s' h1 hm hr hok;simp only[fJ,ah]at hok;simp only[Gz]at hm;split at hm
  .rename_i x l1 s1 hm1;split at hm
   .rename_i ys l2 s2 hm2;obtain⟨rfl,e⟩:=ad (aa hm);obtain⟨rfl,rfl⟩:=ad e;obtain⟨q1,q2,q3,q4,q5,q6⟩:=vu c false l s x l1 s1 h1 hm1 hr;have q6:=q6 rfl;subst q5
    have hu:wH s.next (bif xk c then .agg (ff c l).1 else .c ((ff c l).1.headD default))=(bif xk c then .agg (il s.next (ff c l).1).1 else .c ((il s.next (ff c l).1).1.headD default),(il s.next (ff c l).1).2.1,(il s.next (ff c l).1).2.2)/\sF s1.heap x (bif xk c then .agg (il s.next (ff c l).1).1 else .c ((il s.next (ff c l).1).1.headD default)):=by
     cases hs:xk c with
     |true=>exact⟨rfl,xI (q6.trans hs) q1⟩
     |false=>
      have hl:(ff c l).1.length=1:=by
       have h2:yl c=true:=by simpa[N_,hs]using hok.1
       exact Bf hm1 h2
      match ht:(ff c l).1,hl with|[t],_=>rw[ht]at q1;simp only[pV]at q1;refine⟨by simp only[cond_false,bJ,wH,pV],?_⟩;simp only[cond_false,pV,bJ];exact dM (q6.trans hs) q1
    obtain⟨hu1,hu2⟩:=hu;obtain⟨p1,p2,p3,p4,p5⟩:=ih (ff c l).2 s1 ys l2 s2 _ hm2 q3.hr hok.2;rw[q4]at p1 p3 p4;simp only[ja,gN,hu1];refine⟨⟨_,_,rfl,vQ p3.eG q2 hu2,p1⟩,fun y hy=>?_,q3.seq p3,p4,by simp[p5]⟩;rcases aJ.1 hy with rfl|hy
    .exact gy p3.le p3.eG q2
    .exact p2 y hy
   .simp at hm
  .simp at hm
end
def AZ:Ty->Bool
 |.i _|.b|.s|.f _|.un=>true
 |.pr a c=>AZ a&&AZ c
 |.st t|.ar _ t=>AZ t
 |_=>false
def M3:Sh->Bool
 |.x t=>AZ t
 |_=>false
def M4:Sh->Bool
 |.os t=>AZ t
 |.gn=>true
 |_=>false
def OG(sp:fZ):Bool:=sp.al.all (fun w=>w.1.all M3&&w.2.all M4)
def J6(sp:fZ):Bool:=KW sp.ps sp.jT&&AM sp.ps&&sp.al.all (fun w=>w.1.all N_)&&(!sp.ro||OG sp)
def J7(Q:List Sh->List Sh->List V->Prop):(r o:List Sh)->(w:Wy)->vH.ET r o w->Prop
 |r,o,[],z=>Q r o (gU (eO r++eO o) z)
 |r,o,(r',o')::w,z=>match z with|.inl z=>Q r o (gU (eO r++eO o) z)|.inr z=>J7 Q r' o' w z
def J8(Q:List Sh->List Sh->List V->Prop):(w:Wy)->vH w->Prop
 |[],z=>nomatch z
 |(r,o)::w,z=>J7 Q r o w z
def bf(P:Program)(f:FuncId)(sp:fZ):Prop:=J6 sp=true/\∀p z,sp.fn p=some z->J8 (fun rs os l=>xm P f (eT sp.ps (gU (eO (sp.ps.map (·.2))) p)) (ja rs (l.take (eO rs).length)) (kG os (l.drop (eO rs).length))) sp.al z
def pM(P:Program)(tb:Dj):Prop:=∀e∈tb,bf P e.1 e.2
theorem pM.nil{P:Program}:pM P []:=fun e he=>by simp at he
theorem pM.cons{P:Program}{f:FuncId}{sp:fZ}{tb:Dj}(h:bf P f sp)(ht:pM P tb):pM P ((f,sp)::tb):=fun e he=>by
 rcases aJ.1 he with rfl|he
 .exact h
 .exact ht e he
theorem FT{β:Type}{k:List Sh->List Sh->List V->Option β}{Q:List Sh->List Sh->List V->Prop}{b:β}:∀(w:Wy)(z:vH w),Oh k w z=some b->J8 Q w z->∃r o l,(r,o)∈w/\k r o l=some b/\Q r o l:=by
 have key:∀(w:Wy)(r o:List Sh)(z:vH.ET r o w),Mq k r o w z=some b->J7 Q r o w z->∃r' o' l,(r',o')∈(r,o)::w/\k r' o' l=some b/\Q r' o' l:=by
  intro w;induction w with
  |nil=>intro r o z hz hq;exact⟨r,o,_,by simp,hz,hq⟩
  |cons p w ih=>intro r o z hz hq;cases z with|inl z=>exact⟨r,o,_,by simp,hz,hq⟩|inr z=>obtain⟨r',o',l,h1,h2,h3⟩:=ih p.1 p.2 z hz hq;exact⟨r',o',l,aC _ h1,h2,h3⟩
 intro w z hz hq;cases w with|nil=>exact nomatch z|cons p w=>exact key w p.1 p.2 z hz hq
theorem yP{u:Ty}{v:V}{y:El u}(h:up u v=some y):v=.x u y:=by cases v with|x t v=>obtain⟨rfl,rfl⟩:=cE (show fF t u v=some y from h);rfl|_=>simp[up]at h
theorem pW:∀(cs:List Ty)(l:List V)(p:qG cs),vR cs l=some p->gU cs p=l:=by
 have key:∀(r:List Ty)(a:Ty)(l:List V)(p:qG.Dn a r),Dv a r l=some p->Kf a r p=l:=by
  intro r;induction r with
  |nil=>
   intro a l p h
   match l with|[]=>exact nomatch (show(none:Option (qG.Dn a []))=some p from h)|[v]=>rw[yP (show up a v=some p from h)];rfl|_::_::_=>exact nomatch (show(none:Option (qG.Dn a []))=some p from h)
  |cons c r ih=>
   intro a l p h
   match l with
   |[]=>exact nomatch (show(none:Option (qG.Dn a (c::r)))=some p from h)
   |v::l=>
    have h:FY (up a v) (Dv c r l)=some p:=h;cases hx:up a v with
    |none=>rw[hx]at h;exact nomatch h
    |some x=>cases hy:Dv c r l with|none=>rw[hx,hy]at h;exact nomatch h|some y=>rw[hx,hy]at h;obtain rfl:=aa h;show V.x a x::Kf c r y=v::l;rw[ih c l y hy,yP hx]
 intro cs l p h
 match cs,l with|[],[]=>rfl|[],_::_=>exact nomatch (show(none:Option (qG []))=some p from h)|a::r,l=>exact key r a l p h
section
variable{h:H2}{n:Nat}{h1:bh}
theorem BH{a b:List V}{x y:List TV}(ha:l9 h a x)(hb:l9 h b y):l9 h (a++b) (x++y):=by induction a generalizing x with|nil=>rw[kR ha];exact hb|cons v a ih=>obtain⟨c,r,rfl,h2,h3⟩:=fT ha;exact⟨h2,ih h3⟩
theorem xE:∀(v:V)(l:List V)(cs:List C),vL v=some l->eY h v cs->eW n h v->ig h v=true->l9 h l (cs.map TV.c)/\(∀w∈l,eW n h w)/\∀w∈l,ig h w=true:=by
 intro v;induction v with
 |ni=>intro l cs hl hc _ _;obtain rfl:=aa hl;obtain rfl:=hc;exact⟨trivial,fun w hw=>by simp at hw,fun w hw=>by simp at hw⟩
 |co a r iha ihr=>
  intro l cs hl hc hk hal;simp only[vL]at hl;obtain⟨h1,hl⟩:=aH hl;simp only[ah,beq_iff_eq,fB]at h1;split at hl
  .rename_i l' hl';obtain rfl:=aa hl;obtain⟨x,y,rfl,h2,h3⟩:=hc;simp only[ig,ah]at hal;obtain⟨q1,q2,q3⟩:=ihr l' y hl' h3 hk.2 hal.2;have hlen:=ic h2;rw[h1.1]at hlen
   match x,hlen with
   |[c],_=>
    refine⟨⟨bU (dM h1.2 h2),q1⟩,fun w hw=>?_,fun w hw=>?_⟩
    .rcases aJ.1 hw with rfl|hw
     .exact hk.1
     .exact q2 w hw
    .rcases aJ.1 hw with rfl|hw
     .exact hal.1
     .exact q3 w hw
  .simp at hl
 |_=>intro l cs hl;simp[vL]at hl
theorem Ep:∀(tb:Dj)(f:Nat)(vs:List V)(sp:fZ)(l:List V)(i:List Nat)(q:List (V×List Nat)),Ag h f vs tb=some (sp,l,i,q)->(f,sp)∈tb/\uT h sp.ps vs=some (l,i,q):=by
 intro tb;induction tb with
 |nil=>intro f vs sp l i q hf;simp[Ag]at hf
 |cons e tb ih=>
  obtain⟨g,Ta⟩:=e;intro f vs sp l i q hf;simp only[Ag]at hf;cases hg:(g==f)with
  |false=>rw[hg,cond_false]at hf;obtain⟨h2,h3⟩:=ih f vs sp l i q hf;exact⟨aC _ h2,h3⟩
  |true=>
   rw[hg,cond_true]at hf;obtain rfl:g=f:=by simpa using hg
   split at hf
   .rename_i l' i' q' ha;simp only[bS,Prod.mk.injEq]at hf;obtain⟨rfl,rfl,rfl,rfl⟩:=hf;exact⟨by simp,ha⟩
   .obtain ⟨h2,h3⟩:=ih g vs sp l i q hf;exact⟨aC _ h2,h3⟩
theorem Ck:∀{l:List Nat},yn l=true->l.Nodup:=by intro l;induction l with|nil=>intro _;exact List.nodup_nil|cons a l ih=>intro hl;simp only[yn,ah,fB,List.contains_eq_mem,decide_eq_false_iff_not]at hl;exact List.nodup_cons.2 ⟨hl.1,ih hl.2⟩
theorem wY.bi:∀{q:List (V×List Nat)}{lent:List (C×List Nat×List Nat)},wY h n h1 q lent->
  (lent.flatMap (fun(p:C×List Nat×List Nat)=>p.2.1)).Sublist (q.flatMap (·.2))/\(∀j∈lent.flatMap (fun(p:C×List Nat×List Nat)=>p.2.2),j∈q.flatMap (·.2)):=by
 intro q;induction q with
 |nil=>rintro lent rfl;exact⟨bI _,fun j hj=>hj⟩
 |cons p q ih=>
  rintro lent ⟨x,m,rfl,hx,hm⟩;obtain⟨a,b⟩:=ih hm;simp only[br];refine⟨hx.2.2.2.1.append a,fun j hj=>?_⟩;rcases ak.1 hj with hj|hj
  .exact aG _ (hx.2.2.2.2.2.1 j hj)
  .exact aD _ (b j hj)
theorem Dp(hr:HR n h1 h):∀{q:List (V×List Nat)}{lent:List (C×List Nat×List Nat)},wY h n h1 q lent->eF h1 lent=true:=by
 intro q;induction q with
 |nil=>rintro lent rfl;rfl
 |cons p q ih=>
  obtain⟨v,i⟩:=p;rintro lent ⟨⟨c,bi,rd⟩,m,rfl,hx,hm⟩;have hw:=ih hm;obtain⟨hc,_,_,_,_,_,_,hsh⟩:=hx;cases c with
  |bP sz id off len=>
   cases v with
   |so id'=>obtain⟨_,u,s,ver,ho⟩:=hsh;obtain⟨cc,e,hcc⟩:=hc;obtain rfl:=fg.1 e;have e2:=hcc.1 _ (lF (.inl ho));cases s with|nil=>simp[kr]at e2|mk l=>simp only[kr,C.bP.injEq]at e2;obtain⟨rfl,rfl,rfl,rfl⟩:=e2;exact PU ((hr.ob _ _ ho).2.1.2.2 l rfl) hw
   |sr jd=>obtain⟨_,u,s,ho⟩:=hsh;obtain⟨cc,e,hcc⟩:=hc;obtain rfl:=fg.1 e;have e2:=hcc.1 _ (sI ho);cases s with|nil=>simp[kr]at e2|mk l=>simp only[kr,C.bP.injEq]at e2;obtain⟨rfl,rfl,rfl,rfl⟩:=e2;have hl:=(hr.ob _ _ ho).2.1.2.2 l rfl;simp only[eF,hl,dO,aR,beq_self_eq_true,lW,Bool.true_and];exact hw
   |nl k=>have:[C.bP sz id off len]=[z7 k]:=hc
          simp[z7]at this
   |op a b2 e=>have:[C.bP sz id off len]=[C.op a (mJ b2 e)]:=hc
               simp at this
   |_=>exact hsh.elim
  |_=>exact hw
end
section
variable{P:Program}{h1:bh}{β:Type}{s:S2}{k:V->S2->List Nat->Option β}{z:β}
def S_(P:Program)(h1:bh)(kk:K)(xs:List TV)(s:S2)(k:V->S2->List Nat->Option β)(z:β):Prop:=∃v s' l,k v s' l=some z/\∃call:Call,kD P call/\∃x u au m,bX call kk (xs.map some) h1 s.next=some (x,u,au,m)/\qK s s' h1 x u au m v l
theorem Lb{b:Bool}{f:Nat}{caps:V}{xf:TV}{cs:List V}(hf:ft s.heap (.fn b f caps) xf)(hk:eW s.next s.heap (.fn b f caps))(ha:ig s.heap (.fn b f caps)=true)(hc:vL caps=some cs):
  ∃cc,I9 (some xf)=some (f,cc)/\l9 s.heap cs (cc.map TV.c)/\(∀w∈cs,eW s.next s.heap w)/\∀w∈cs,ig s.heap w=true:=by
 rcases Du hf with⟨rfl,ds,hd,rfl⟩|⟨rfl,xs,hd,rfl⟩
 .obtain ⟨a1,a2⟩:=y_ (h:=s.heap) caps ha;exact⟨ds.map .d,rfl,xE caps cs _ hc (Jy caps ds hd) (a2 _) a1⟩
 .exact ⟨xs,rfl,xE caps cs _ hc hd hk ha⟩
theorem BZ{xs:List V}{vs:List TV}{g:H2}{m:Nat}(h:AF g (eU xs) vs)(hk:∀x∈xs,eW m g x):ft g (MD xs) (sK vs)/\eW m g (MD xs):=by
 have hrow:∀(l:List V),(∀x∈l,eW m g x)->eW m g (eU l):=by intro l;induction l with|nil=>intro _;trivial|cons a l ih=>intro hl;exact⟨hl a (by simp),ih fun x hx=>hl x (by simp[hx])⟩
 match xs with|[]=>obtain rfl:=h;exact⟨⟨[],rfl,rfl⟩,trivial⟩|[v]=>obtain⟨x,ys,rfl,h2,h3⟩:=h;obtain rfl:=h3;exact⟨bU h2,hk v (by simp)⟩|a::b::l=>obtain⟨x,ys,rfl,h2,h3⟩:=h;obtain⟨y,zs,rfl,h4,h5⟩:=h3;exact⟨⟨_,rfl,_,_,rfl,h2,_,_,rfl,h4,h5⟩,hrow _ hk⟩
theorem Cs:∀(t:Ty)(v:El t),AZ t=true->∀d∈aP t v,∃y,d=.lit y:=by
 intro t;induction t with
 |pr a c iha ihc=>
  intro v h d hd;simp only[AZ,ah]at h;rcases ak.1 (show d∈aP a v.1++aP c v.2 from hd)with hd|hd
  .exact iha _ h.1 d hd
  .exact ihc _ h.2 d hd
 |st t ih=>intro v h d hd;exact ih v h d hd
 |ar n t ih=>intro v h d hd;obtain⟨a,_,ha⟩:=List.mem_flatMap.1 (show d∈v.1.flatMap (aP t)from hd);exact ih a h d ha
 |un=>intro v h d hd;exact absurd (show d∈[]from hd) (by simp)
 |i k=>intro v h d hd;exact⟨_,aq.1 (show d∈[_]from hd)⟩
 |b=>intro v h d hd;exact⟨_,aq.1 (show d∈[_]from hd)⟩
 |s=>intro v h d hd;exact⟨_,aq.1 (show d∈[_]from hd)⟩
 |f k=>intro v h d hd;exact⟨_,aq.1 (show d∈[_]from hd)⟩
 |_=>intro v h;simp[AZ]at h
theorem ID:∀(rs:List Sh)(l:List V)(s:S2)(xs:List V)(l':List V)(s':S2),Gz rs l s=some (xs,l',s')->rs.all M3=true->rs.all N_=true->(ja rs l).all wg=true:=by
 intro rs;induction rs with
 |nil=>intro l s xs l' s' _ _ _;rfl
 |cons c rs ih=>
  intro l s xs l' s' hm hl ho;simp only[fJ,ah]at hl ho;simp only[Gz]at hm;split at hm
  .rename_i x l1 s1 hm1;split at hm
   .rename_i ys l2 s2 hm2;cases c with
    |x t=>
     have ho1:=ho.1
     match l with
     |.x u v::l=>
      have hm1':=hm1;simp only[qb]at hm1;obtain⟨hc,hm3⟩:=aH hm1;simp only[ah,decide_eq_true_eq]at hc;obtain⟨rfl,_⟩:=hc;obtain⟨rfl,e⟩:=ad (aa hm3);obtain⟨rfl,rfl⟩:=ad e;have hlit:=Cs u v hl.1;simp only[ja,ff,fJ,ah];refine⟨?_,ih _ _ _ _ _ hm2 hl.2 ho.2⟩;cases hs:xk (.x u)with
      |true=>simp only[cond_true,wg,aV];intro t ht;obtain⟨d,hd,rfl⟩:=eh.1 ht;obtain⟨y,rfl⟩:=hlit d hd;rfl
      |false=>
       have h2:yl (.x u)=true:=by simpa[N_,hs]using ho1
       have hlen:=Bf hm1' h2;simp only[ff,aR]at hlen
       match he:aP u v,hlen with|[d],_=>obtain⟨y,rfl⟩:=hlit d (by rw[he];simp);rfl
     |[]|.kb _::_|.nl _::_|.so _::_|.sb _ _ _ _ _::_|.op _ _ _::_|.ep _ _ _ _::_|.pt _ _::_|.fn _ _ _::_|.om _::_|.rc _::_|.tp _::_|.ni::_|.co _ _::_|.fl _::_|.no::_|.gn::_=>simp[qb]at hm1
    |_=>simp[M3]at hl
   .simp at hm
  .simp at hm
theorem IE{t:Ty}(v:El (.sl t))(h:AZ t=true):DT (MA (bG t) (aP t) v)=true:=by cases v with|nil=>rfl|mk l=>show(l.map (aP t)).all _=true;rw[List.all_map,aV];intro x _;show(aP t x).all _=true;rw[aV];intro d hd;obtain⟨y,rfl⟩:=Cs t x h d hd;rfl
theorem IF{β:Type}{z:β}:∀(os:List Sh)(q:List (V×List Nat))(l:List V)(s:S2)(k:S2->Option β),eB os q l s k=some z->os.all M4=true->(kG os l).all DT=true:=by
 intro os;induction os with
 |nil=>intro q l s k _ _;rfl
 |cons c os ih=>
  intro q l s k hb ho;simp only[fJ,ah]at ho;obtain⟨h1,h2⟩:=ho;cases c with
  |gn=>cases q with|nil=>simp[eB]at hb|cons p q=>simp only[eB]at hb;have:=ih _ _ _ _ hb h2;simp only[kG,ff,fJ,bJ,this,Bool.and_true];rfl
  |os t=>
   have hh:∀(u:Ty)(v:El (.sl u))(l:List V)(q':List (V×List Nat))(s':S2),(∃y,fF (.sl u) (.sl t) v=some y)->(hb:eB os q' l s' k=some z)->(kG (.os t::os) (.x (.sl u) v::l)).all DT=true:=by
    intro u v l q' s' ⟨y,hy⟩ hb2;obtain⟨e,_⟩:=cE hy;have e:u=t:=by injection e
    subst e;have:=ih _ _ _ _ hb2 h2;simp only[kG,ff,fJ,bJ,this,Bool.and_true];exact IE v h1
   cases q with
   |nil=>simp[eB]at hb
   |cons p q=>
    obtain⟨pv,pi⟩:=p;cases l with
    |nil=>cases pv<;>simp[eB]at hb
    |cons x l=>
     cases x with
     |x u v=>
      cases u with
      |sl u=>
       cases pv with
       |nl n=>
        cases n with
        |zero=>
         cases pi with
         |nil=>
          simp only[eB]at hb;split at hb
          .rename_i y hy;obtain⟨_,_,hb⟩:=qN hb;exact hh u v l q s ⟨y,hy⟩ hb
          .cases hb
         |cons _ _=>simp[eB]at hb
        |succ n=>simp[eB]at hb
       |so id=>
        simp only[eB]at hb;split at hb
        .rename_i w old ver y ho hy;split at hb
         .obtain ⟨_,_,hb⟩:=qN hb;exact hh u v l q _ ⟨y,hy⟩ hb
         .cases hb
        .cases hb
       |_=>simp[eB]at hb
      |_=>cases pv<;>simp[eB]at hb
     |_=>cases pv<;>simp[eB]at hb
  |_=>simp[M4]at h1
theorem EJ{tb:Dj}{ro:Bool}{jT:List Bool}{f:V}{vs:List V}{xf:TV}{xs:List TV}(htb:pM P tb)(hz:xz tb ro jT f vs s k=some z)(hr:HR s.next h1 s.heap)(hf:ft s.heap f xf)(hfk:eW s.next s.heap f)(hfa:ig s.heap f=true)
  (hx:l9 s.heap vs xs) (hk:∀w∈vs,eW s.next s.heap w) (ha:∀w∈vs,ig s.heap w=true):S_ P h1 (.call ro jT) (xf::xs) s k z:=by
 cases f with
 |fn b fid caps=>
  simp only[xz]at hz;split at hz
  case h_2=>simp at hz
  rename_i sp pay j q hfs;split at hfs
  case h_2=>simp at hfs
  rename_i cs hcs;obtain⟨hmem,hargs⟩:=Ep tb fid _ sp pay j q hfs;obtain⟨hwy,hgood⟩:=htb _ hmem;simp only[J6,ah]at hwy;obtain⟨⟨⟨w1,w2⟩,w3⟩,w4⟩:=hwy;obtain⟨hc,hz2⟩:=aH hz;simp only[ah,decide_eq_true_eq]at hc;obtain⟨⟨⟨c1,c2⟩,c3⟩,c4⟩:=hc;clear hz;split at hz2
  case h_2=>simp at hz2
  rename_i p hp;obtain⟨zz,hzz,hz3⟩:=qN hz2;obtain⟨rs,os,l,hm,hk3,hg⟩:=FT sp.al zz hz3 (hgood p zz hzz);rw[pW _ _ _ hp]at hg;obtain⟨cc,hfn,d1,d2,d3⟩:=Lb hf hfk hfa hcs;rw[c2]at w1;obtain⟨au,lent,e1,e2,e3,e4⟩:=De hr sp.ps (vs++cs) jT pay j q (xs++cc.map TV.c) hargs (BH hx d1) (fun w hw=>(ak.1 hw).elim (hk w) (d2 w)) (fun w hw=>(ak.1 hw).elim (ha w) (d3 w)) w1 w2;obtain⟨o1,o2⟩:=e4.bi;have hnd:=Ck c3;have hap:∀i∈kf (fun(p:V×List Nat)=>p.2) q,i∉j:=fun i hi=>by simpa using aV.1 c4 i hi
  have hdec:decide ((lent.flatMap (fun(p:C×List Nat×List Nat)=>p.2.1)).Nodup/\(lent.flatMap (fun(p:C×List Nat×List Nat)=>p.2.1)).all (fun i=>!au.contains i)=true)=true:=by refine decide_eq_true ⟨o1.nodup hnd,aV.2 fun i hi=>?_⟩;have:=hap i (o1.subset hi);simpa using fun hm=>this (e2 i hm).1
  have hwl:=Dp hr e4;have hokR:rs.all N_=true:=aV.1 w3 _ hm;cases ro with
  |true=>
   have hro:sp.ro=true:=by simpa using c1
   rw[hro]at w4;have w5:OG sp=true:=by simpa using w4
   have v3:=aV.1 w5 _ hm;simp only[ah]at v3;simp only[cond_true]at hk3;obtain⟨s1,bu,b1,b2,b3⟩:=yV hr os q lent _ s h1 _ hk3 e4 (am _) hr (jq.refl _ _) hnd;split at b1
   case h_2=>simp at b1
   rename_i ys l2 s2 hmk;obtain⟨m1,m2,m3,m4,m5⟩:=z_ rs _ s1 ys l2 s2 _ hmk b3.hr hokR;obtain⟨t1,t2⟩:=BZ m1 m2;have hlit:=ID rs _ s1 ys l2 s2 hmk v3.1 hokR;have hout:=IF os q _ s _ hk3 v3.2;refine⟨_,_,_,b1,only fid (eT sp.ps pay) (ja rs (l.take (eO rs).length)) (kG os (l.drop (eO rs).length)),Fj hg,?_⟩;have hld:=K2 (h:=h1) (au:=au) hlit hout b2;obtain⟨g1,g2⟩:=FL (ro:=true) hfn (m7 xs) e1 hwl hdec hld;refine⟨_,_,_,_,Au g1 g2,?_⟩;obtain⟨W1,x1,x2,x3⟩:=b3.wo;obtain⟨W2,y1,y2,y3,y4⟩:=m3.wo;refine⟨t1,t2,?_,b3.eG.trans b3.le m3.eG,by rw[m3.cR,b3.cR],by rw[m3.gh,b3.gh],by omega,by have:=b3.le;have:=m3.le;omega,fun i hi=>?_,fun i hi h=>(by rw[y4 i fun q=>by have:=(y3 i q).1;have:=b3.le;omega];exact b3.nb i hi h),W2++W1,by rw[y1,x1];simp only[aS],fun p hp=>?_,fun i hi=>?_⟩
   .have:=m3.hr;simpa only[aS]using this
   .rcases ak.1 hi with hi|hi
    .exact aG _ (e2 i hi).1
    .exact aD _ (o2 i hi)
   .simp only[ak]at hp|-;rcases hp with hp|hp
    .exact .inl (y2 p hp)
    .exact .inr (x2 p hp)
   .simp only[ak,not_or]at hi;rw[y4 i hi.1,x3 i hi.2]
  |false=>
   simp only[cond_false]at hk3;split at hk3
   case h_2=>simp at hk3
   rename_i s0 hs0;obtain⟨fu,f1,f2,f3,f4,f5,f6,f7,f8,f9⟩:=A7 (s0:=s) rfl hr j s0 au au hs0 e2 e3;obtain⟨s1,bu,b1,b2,b3⟩:=yV hr os q lent _ s0 (fu++h1) _ hk3 e4 (by omega) (by rw[f6];exact f2) f3 hnd;split at b1
   case h_2=>simp at b1
   rename_i ys l2 s2 hmk;obtain⟨m1,m2,m3,m4,m5⟩:=z_ rs _ s1 ys l2 s2 _ hmk b3.hr hokR;obtain⟨t1,t2⟩:=BZ m1 m2;rw[f6]at b2;refine⟨_,_,_,b1,only fid (eT sp.ps pay) (ja rs (l.take (eO rs).length)) (kG os (l.drop (eO rs).length)),Fj hg,?_⟩;have hld:=SJ (rs:=ja rs (l.take (eO rs).length)) f1 b2;obtain⟨g1,g2⟩:=FL (ro:=false) hfn (m7 xs) e1 hwl hdec hld;refine⟨_,_,_,_,Au g1 g2,?_⟩;obtain⟨W1,x1,x2,x3⟩:=b3.wo;obtain⟨W2,y1,y2,y3,y4⟩:=m3.wo;refine⟨t1,t2,?_,(f3.trans (Nat.le_of_eq f6.symm) b3.eG).trans (by have:=b3.le;omega) m3.eG,by rw[m3.cR,b3.cR,f4],by rw[m3.gh,b3.gh,f5],by omega,by have:=b3.le;have:=m3.le;omega,fun i hi=>?_,fun i hi h=>(by rw[y4 i fun q=>by have:=(y3 i q).1;have:=b3.le;omega];exact b3.nb i (by omega) ((f9 i fun q=>Ek rfl hs0 i q h).trans h)),W2++W1++j,by rw[y1,x1,f7];simp only[aS],fun p hp=>?_,fun i hi=>?_⟩
   .have:=m3.hr;simpa only[aS]using this
   .rcases ak.1 hi with hi|hi
    .exact aG _ (e2 i hi).1
    .exact aD _ (o2 i hi)
   .simp only[aS,ak]at hp|-;rcases hp with hp|hp|hp
    .exact .inl (y2 p hp)
    .exact .inr (.inl (x2 p hp))
    .exact .inr (.inr (f8 p hp))
   .simp only[aS,ak,not_or]at hi;rw[y4 i hi.1,x3 i hi.2.1,f9 i hi.2.2]
 |_=>simp[xz]at hz
end
def lU:Prop:=∀g v,Ni g=some v->∃d,Ps g=some d/\∀h n,ft h v (.c (.d d))/\eW n h v/\ig h v=true
theorem vF{n:Nat}{h h':H2}(hs:jq n h h')(hnb:∀i,i<n->fO h i=none->fO h' i=none):∀{v:V},eW n h v->ig h' v=true->ig h v=true:=by
 have key:∀id,id<n->(match fO h' id with|some _=>true|none=>false)=true->(match fO h id with|some _=>true|none=>false)=true:=by intro id hid ha;cases ho:fO h id with|some _=>rfl|none=>rw[hnb id hid ho]at ha;simp at ha
 intro v;induction v with
 |so id=>
  intro hk ha;have hk:id<n:=hk;simp only[ig]at ha|-;split at ha
  .rename_i t s v ho;obtain⟨s0,v0,h1,_⟩:=tK hs hk (.inl ho);rcases h1 with h1|h1<;>rw[h1]
  .rename_i t s v ho;obtain⟨s0,v0,h1,_⟩:=tK hs hk (.inr ho);rcases h1 with h1|h1<;>rw[h1]
  .simp at ha
 |sr id=>
  intro hk ha;have hk:id<n:=hk;simp only[ig]at ha|-;split at ha
  .rename_i t s ln ho;obtain⟨s0,ln0,h1,_⟩:=E7 hs hk ho;rw[h1]
  .simp at ha
 |sb id ver lo t r=>
  rintro⟨hid,hk⟩ ha;obtain⟨hd,ha⟩:=cN.1 ha;have ha:za h' id ver=true:=ha;obtain⟨u,s,ho⟩:=lu ha;obtain⟨s0,v0,h3,h4,_,_⟩:=tK hs hid ho;obtain⟨h7,_⟩:=hk u s0 v0 h3;have:v0=ver:=by omega
  subst this;refine cN.2 ⟨hd,?_⟩;rcases h3 with h3|h3<;>rw[h3]<;>simp
 |op id t p=>rintro⟨hid,_⟩ ha;exact key id hid ha
 |ep id m t p=>rintro⟨hid,_⟩ ha;exact key id hid ha
 |om id=>intro hid ha;exact key id hid ha
 |fn z f l ih=>intro hk ha;cases z with|true=>exact ha|false=>exact ih hk ha
 |rc l ih=>intro hk ha;exact ih hk ha
 |tp l ih=>intro hk ha;exact ih hk ha
 |co a r iha ihr=>rintro⟨h1,h2⟩ ha;simp only[ig,ah]at ha|-;exact⟨iha h1 ha.1,ihr h2 ha.2⟩
 |_=>intro _ ha;exact ha
def Hw(h:H2):V->List C->Prop
 |.ni,cs=>cs=[]
 |.co a r,cs=>∃c m,cs=c::m/\(ig h a=true->eY h a [c])/\Hw h r m
 |_,_=>False
theorem CF{n:Nat}{h h':H2}(hs:jq n h h')(hnb:∀i,i<n->fO h i=none->fO h' i=none):∀{v:V}{cs:List C},eW n h v->Hw h v cs->Hw h' v cs:=by intro v;induction v with|co a r _ ihr=>rintro cs ⟨h1,h2⟩ ⟨c,m,rfl,h3,h4⟩;exact⟨c,m,rfl,fun ha=>lq hs h1 (h3 (vF hs hnb h1 ha)),ihr h2 h4⟩|ni=>intro cs _ h;exact h|_=>intro cs _ h;exact h.elim
structure R2(s1:St)(s:S2):Prop where
 cR:∀t v,bQ s.cR t=some v->eW s.next s.heap v/\(ig s.heap v=true\/v=.no->∃x,bQ s1.cR t=some x/\ft s.heap v x)
 hr:HR s.next s1.heap s.heap
 next:s1.next<=s.next
 gh:Hw s.heap s.gh s1.gh/\eW s.next s.heap s.gh
theorem H5{v:Value}(hp:eR v=true)(ha:∀cs,v≠.agg cs):cv v=some (.c (.d (.lit v))):=by
 unfold cv;split
 .rename_i cs;exact absurd rfl (ha cs)
 .rw [if_pos hp]
theorem FI{c:Value}{v:V}(hc:PT c=some v)(h:H2)(n:Nat):∃x,cv c=some x/\ft h v x/\eW n h v/\ig h v=true:=by
 unfold PT at hc;split at hc
 case h_10=>
  rename_i cs;split at hc
  .rename_i hp;obtain rfl:=aa hc;refine⟨.agg (cs.toList.map fun v=>.d (.lit v)),by simp only[cv];rw[if_pos hp],bU (xI rfl ⟨hp,rfl⟩),trivial,hp⟩
  .simp at hc
 case h_11=>simp at hc
 all_goals
  obtain rfl:=aa hc;exact⟨_,H5 rfl (fun cs e=>by cases e),bU (dM rfl (by first|rfl|exact⟨rfl,rfl⟩)),trivial,rfl⟩
theorem nV(hg:lU){s1:St}{s:S2}(hr:R2 s1 s){o:Operand}{v:V}(ho:Hu s.cR s.heap o=some v):∃x,jB s1.cR o=some x/\ft s.heap v x/\eW s.next s.heap v/\ig s.heap v=true:=by
 cases o with
 |tmp t=>
  simp only[Hu]at ho;split at ho
  .rename_i w hw;obtain⟨ha,ho⟩:=aH ho;obtain rfl:=aa ho;obtain⟨h3,h4⟩:=hr.cR t w hw;obtain⟨x,h1,h2⟩:=h4 (.inl ha);exact⟨x,h1,h2,h3,ha⟩
  .simp at ho
 |const c=>exact FI ho _ _
 |global g=>obtain⟨d,h1,h2⟩:=hg g v ho;exact⟨_,by simp only[jB,h1,Option.map_some],h2 _ _⟩
 |func f=>obtain rfl:=aa ho;exact⟨_,rfl,bU (dM rfl ⟨[],rfl,rfl⟩),trivial,rfl⟩
structure sq(s1:St)(s:S2)(q:Rg):Prop where
 r:R2 s1 s
 kn:∀g b,M9 q.kn g=some b->bQ s1.cR g=some (tB b)
 cd:∀t g b v,bQ q.cd t=some (g,b,v)->∃c,bQ s1.cR g=some (tB c)/\(c=b->∃x,bQ s1.cR t=some x/\ft s.heap v x/\eW s.next s.heap v)
theorem Mx{a b:Bool}(h:tB a=tB b):a=b:=by simpa[tB]using h
theorem vn(hg:lU){s1:St}{s:S2}{q:Rg}(hr:sq s1 s q){gc:Option (Nat×Bool)}(hgc:∀g b,gc=some (g,b)->bQ s1.cR g=some (tB b)){o:Operand}{v:V}(ho:Hv s q gc o=some v):
  ∃x,jB s1.cR o=some x/\ft s.heap v x/\eW s.next s.heap v/\ig s.heap v=true:=by
 cases o with
 |tmp t=>
  simp only[Hv]at ho;split at ho
  .rename_i g b w hw;obtain⟨hc,ho⟩:=aH ho;obtain⟨ha,ho⟩:=aH ho;obtain rfl:=aa ho;obtain⟨c,h1,h2⟩:=hr.cd t g b w hw
   have hb:bQ s1.cR g=some (tB b):=by
    simp only[fM,decide_eq_true_eq]at hc;rcases hc with hc|hc
    .exact hgc g b hc
    .exact hr.kn g b hc
   rw[h1]at hb;obtain⟨x,h3,h4,h5⟩:=h2 (Mx (aa hb));exact⟨x,h3,h4,h5,ha⟩
  .exact nV hg hr.r ho
 |const c=>exact nV hg hr.r ho
 |global g=>exact nV hg hr.r ho
 |func f=>exact nV hg hr.r ho
theorem z0(hg:lU){s1:St}{s:S2}{q:Rg}(hr:sq s1 s q){gc:Option (Nat×Bool)}(hgc:∀g b,gc=some (g,b)->bQ s1.cR g=some (tB b)):∀(os:List Operand)(vs:List V),DZ s q gc os=some vs->
  ∃xs,os.map (jB s1.cR)=xs.map some/\l9 s.heap vs xs/\(∀w∈vs,eW s.next s.heap w)/\∀w∈vs,ig s.heap w=true:=by
 intro os;induction os with
 |nil=>intro vs ho;obtain rfl:=aa ho;exact⟨[],rfl,trivial,fun w hw=>by simp at hw,fun w hw=>by simp at hw⟩
 |cons o os ih=>
  intro vs ho;simp only[DZ]at ho;split at ho
  .rename_i v l hv hl;obtain rfl:=aa ho;obtain⟨x,h1,h2,h3,h4⟩:=vn hg hr hgc hv;obtain⟨xs,g1,g2,g3,g4⟩:=ih l hl;refine⟨x::xs,by simp[h1,g1],⟨h2,g2⟩,fun w hw=>?_,fun w hw=>?_⟩
   .rcases aJ.1 hw with rfl|hw
    .exact h3
    .exact g3 w hw
   .rcases aJ.1 hw with rfl|hw
    .exact h4
    .exact g4 w hw
  .simp at ho
theorem Jq{h:H2}{t:Ty}{w:V}{b:El t}{x:TV}(hd:jW t=true)(hx:ft h w x)(hc:rx t w=some b):ft h (.x t b) x:=by obtain⟨cs,h1,h2,h3⟩:=oK (Mf hc) hx;have e:=iN w false t b cs hc h1;have ha:=wv hc;exact bU ⟨cs,⟨hd,e⟩,fun q=>h2 (ha.trans q),fun q=>h3 (ha.trans q)⟩
theorem Cn{h:H2}{c:Bool}{a b v:V}{x:TV}(hm:SI c a b=some v)(ha:ig h a=true)(hb:ig h b=true)(h1:c=true->ft h a x)(h2:c=false->ft h b x):ft h v x/\∀n,eW n h v:=by
 unfold SI at hm;split at hm
 .rename_i p q;obtain rfl:=aa hm;refine⟨?_,fun _=>trivial⟩;cases c with|true=>rw[vP (h1 rfl)];exact xb _|false=>rw[vP (h2 rfl)];exact xb _
 .rename_i t p w;split at hm
  .rename_i y hy;obtain rfl:=aa hm;refine⟨?_,fun _=>trivial⟩;cases c with|true=>exact h1 rfl|false=>exact Jq ha (h2 rfl) hy
  .simp at hm
 .rename_i t p w;split at hm
  .rename_i y hy;obtain rfl:=aa hm;refine⟨?_,fun _=>trivial⟩;cases c with|true=>exact Jq hb (h1 rfl) hy|false=>exact h2 rfl
  .simp at hm
 .simp at hm
theorem xq(hg:lU){e:List (Nat×V)}{h:H2}{o:Operand}{v:V}(ho:Hu e h o=some v):ig h v=true:=by
 cases o with
 |tmp t=>
  simp only[Hu]at ho;split at ho
  .obtain ⟨ha,ho⟩:=aH ho;obtain rfl:=aa ho;exact ha
  .simp at ho
 |const c=>obtain⟨_,_,_,_,ha⟩:=FI ho h 0;exact ha
 |global g=>obtain⟨d,_,h2⟩:=hg g v ho;exact(h2 h 0).2.2
 |func f=>obtain rfl:=aa ho;rfl
theorem Fi(hg:lU){s:S2}{q:Rg}{gc:Option (Nat×Bool)}{o:Operand}{v:V}(ho:Hv s q gc o=some v):ig s.heap v=true:=by
 cases o with
 |tmp t=>
  simp only[Hv]at ho;split at ho
  .obtain ⟨hc,ho⟩:=aH ho;obtain⟨ha,ho⟩:=aH ho;obtain rfl:=aa ho;exact ha
  .exact xq hg ho
 |const c=>exact xq (e:=s.cR) (o:=.const c) hg ho
 |global g=>exact xq (e:=s.cR) (o:=.global g) hg ho
 |func f=>exact xq (e:=s.cR) (o:=.func f) hg ho
theorem Ge(hg:lU){s1:St}{s:S2}{q:Rg}(hr:sq s1 s q){gc:Option (Nat×Bool)}(hgc:∀g b,gc=some (g,b)->bQ s1.cR g=some (tB b)){os:List Operand}{v:V}(hp:H6 s q gc os=some v)(c:Call)(H:bh)(nx:Nat):
  ∃x,bX c .pick (os.map (jB s1.cR)) H nx=some (x,[],[],nx)/\ft s.heap v x/\eW s.next s.heap v:=by
 have one:∀(g a b:Operand)(t:Bool)(w:V),jB s1.cR g=some (tB t)->Hv s q gc (bif t then a else b)=some w->∃x,bX c .pick ([g,a,b].map (jB s1.cR)) H nx=some (x,[],[],nx)/\ft s.heap w x/\eW s.next s.heap w:=by intro g a b t w h1 h2;obtain⟨x,h3,h4,h5,_⟩:=vn hg hr hgc h2;refine⟨x,?_,h4,h5⟩;simp only[ap,aN,h1];cases t with|true=>simp only[cond_true]at h3;rw[h3];rfl|false=>simp only[cond_false]at h3;rw[h3];rfl
 unfold H6 at hp;split at hp
 .rename_i g a b;split at hp
  .rename_i _ _ t hk;exact one _ a b t v (hr.kn g t hk) hp
  .rename_i t hk he;obtain⟨x,h1,h2⟩:=(hr.r.cR g _ he).2 (.inl rfl);rw[vP h2]at h1;exact one _ a b t v h1 hp
  .rename_i t hk he;obtain⟨x,h1,h2⟩:=(hr.r.cR g _ he).2 (.inl rfl)
   .rw [E2 h2]at h1;split at hp
    .rename_i x y hx hy;have ax:=Fi hg hx;have ay:=Fi hg hy;cases t with|true=>obtain⟨z,g1,g2,_⟩:=vn hg hr (gc:=some (g,true)) (fun g' b' e=>by cases e;exact h1) hx;obtain⟨m1,m2⟩:=Cn hp ax ay (fun _=>g2) (fun e=>by cases e);refine⟨z,?_,m1,m2 _⟩;have h1':jB s1.cR (.tmp g)=some (tB true):=h1;simp only[ap,aN,h1',g1];rfl|false=>obtain⟨z,g1,g2,_⟩:=vn hg hr (gc:=some (g,false)) (fun g' b' e=>by cases e;exact h1) hy;obtain⟨m1,m2⟩:=Cn hp ax ay (fun e=>by cases e) (fun _=>g2);refine⟨z,?_,m1,m2 _⟩;have h1':jB s1.cR (.tmp g)=some (tB false):=h1;simp only[ap,aN,h1',g1];rfl
    .simp at hp
  .simp at hp
 .rename_i t a b;exact one _ a b t v rfl hp
 .simp at hp
theorem Gd{s:S2}{q:Rg}{gc:Option (Nat×Bool)}{os:List Operand}{vs:List V}(ho:DZ s q gc os=some vs)(hp:KC os=true):∀a k b,vs=[a,.x (.i k) b]->0<b:=by
 intro a k b e;subst e
 match os with
 |[o,.const (.int k' m)]=>
  simp only[KC,decide_eq_true_eq]at hp;simp only[DZ,Hv,Hu,PT]at ho;split at ho
  .rename_i v l hv hl;simp only[bS]at hl;subst hl;simp only[bS,List.cons.injEq,and_true]at ho;obtain⟨_,e⟩:=ho;cases e;exact hp
  .simp at ho
theorem zN(hg:lU){s1:St}{s:S2}{q:Rg}(hr:sq s1 s q){gc:Option (Nat×Bool)}(hgc:∀g b,gc=some (g,b)->bQ s1.cR g=some (tB b)){o:OP}{v:V}{l:List Nat}(ht:Kg o s q gc=some (v,l))(c:Call)(nx:Nat):
  ∃x au,bX c o.o.k (o.o.args.map (jB s1.cR)) s1.heap nx=some (x,[],au,nx)/\ft s.heap v x/\eW s.next s.heap v/\∀i∈au,i∈l:=by
 unfold Kg at ht;cases hpk:Eh o.o.k with
 |true=>
  rw[hpk,cond_true]at ht;split at ht
  .rename_i w hw;obtain⟨rfl,rfl⟩:=ad (aa ht);obtain⟨x,h1,h2,h3⟩:=Ge hg hr hgc hw c s1.heap nx;have hk:o.o.k=.pick:=by revert hpk;cases o.o.k<;>simp[Eh]
   rw[hk];exact⟨x,[],h1,h2,h3,fun i hi=>by simp at hi⟩
  .simp at ht
 |false=>
  rw[hpk,cond_false]at ht;split at ht
  .rename_i vs hvs;obtain⟨xs,h1,h2,h3,h4⟩:=z0 hg hr hgc _ _ hvs;rw[h1];exact FZ hr.r.hr ht h2 h3 h4 (fun hp=>Gd hvs hp) c nx
  .simp at ht
theorem Jd{P:Program}{β:Type}{tb:Dj}(htb:pM P tb)(hg:lU){s1:St}{s:S2}{q:Rg}(hr:sq s1 s q){gc:Option (Nat×Bool)}(hgc:∀g b,gc=some (g,b)->bQ s1.cR g=some (tB b)){o:OP}{k:V->S2->List Nat->Option β}{z:β}
  (hz:PS tb o s q gc k=some z):∃v s' l,k v s' l=some z/\∃call:Call,kD P call/\∃x u au m,bX call o.o.k (o.o.args.map (jB s1.cR)) s1.heap s.next=some (x,u,au,m)/\qK s s' s1.heap x u au m v l:=by
 unfold PS at hz;split at hz
 .rename_i v l ht;obtain⟨x,au,h1,h2,h3,h4⟩:=zN hg hr hgc ht cX s.next;exact⟨v,s,l,hz,cX,mz,x,[],au,s.next,h1,qK.pure hr.r.hr h2 h3 h4⟩
 .split at hz
  .rename_i vs hvs;obtain⟨xs,h1,h2,h3,h4⟩:=z0 hg hr hgc _ _ hvs;rw[h1];split at hz
   .rename_i ro jT f vs' hk;obtain⟨y,ys,rfl,h5,h6⟩:=fT h2;obtain⟨v,s',l,e1,call,e2,x,u,au,m,e3,e4⟩:=EJ (P:=P) htb hz hr.r.hr h5 (h3 _ (by simp)) (h4 _ (by simp)) h6 (fun w hw=>h3 w (by simp[hw])) (fun w hw=>h4 w (by simp[hw]));rw[hk];exact⟨v,s',l,e1,call,e2,x,u,au,m,e3,e4⟩
   .obtain ⟨v,s',l,e1,e2⟩:=DW hz hr.r.hr h2 h3 h4;obtain⟨x,u,au,m,e3,e4⟩:=e2 cX;exact⟨v,s',l,e1,cX,mz,x,u,au,m,e3,e4⟩
  .simp at hz
end Go.Ev
