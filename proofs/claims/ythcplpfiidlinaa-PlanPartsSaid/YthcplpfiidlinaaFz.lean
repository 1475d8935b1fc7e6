/- Calls: the arguments, as they are laid. Conditions: as stated. -/
import Derived.Test.YthcplpfiidlinaaFq
namespace Go.Ev
def nlD(k:Nat):D:=match nlC k with | .d x=>x | _=>default
theorem qw9(k:Nat):nlC k= .d (nlD k):=rfl
def encD:Sh->List V->List D×List V
 | .x _, .x u v :: l=>(encE u v,l)
 | .pt _, .x u v :: l=>([.pt (encE u v)],l)
 | .nl k,l=>([nlD k],l)
 | .fn f c,l=>([.fn f (encD c l).1],(encD c l).2)
 | .pr a c,l=>((encD a l).1++(encD c (encD a l).2).1,(encD c (encD a l).2).2)
 | _,l=>([],l)
def rowO(t:Ty):Sl (El t)->Option (List (List D))
 | .nil=>none
 | .mk l=>some (l.map (encE t))
def slsT(t:Ty):Sl (Sl (El t))->T
 | .nil=> .d (.lit (.slice none 0 0))
 | .mk l=> .sls (szT t) (l.map (rowO t))
theorem qo2{t:Ty}(l:List (Sl (El t))):qbm (l.map (slotV t))=some (l.map (rowO t)):=by
 induction l with
 | nil=>rfl
 | cons s l ih=>
  simp only [List.map_cons,qbm,ih]
  cases s <;> rfl
theorem qcr{t:Ty}(l:List (Sl (El t))):(l.map (rowO t)).map q51=l.map (slotV t):=by
 rw [List.map_map]
 exact List.map_congr_left λs _=>by cases s <;> rfl
def encT:Sh->List V->List T×List V
 | .x _, .x u v :: l=>((encE u v).map .d,l)
 | .os _, .x (.sl u) v :: l=>([slT (szT u) (encE u) v],l)
 | .rw _, .x (.sl (.sl u)) v :: l=>([slsT u v],l)
 | .pb _ c,l=>([.pt (encT c l).1],(encT c l).2)
 | .nl k,l=>([.d (nlD k)],l)
 | .st c,l=>encT c l
 | .pr a c,l=>((encT a l).1++(encT c (encT a l).2).1,(encT c (encT a l).2).2)
 | .gn,l=>([.gone],l)
 | _,l=>([],l)
def agS:Sh->Bool
 | .x t=>agT t
 | .st _=>true
 | _=>false
def encAs:List (Bool×Sh)->List V->List A
 | [],_=> []
 | (true,c) :: r,l=> .mt ((encT c l).1.headD default) :: encAs r (encT c l).2
 | (false,c) :: r,l=>(bif agS c then .agg (encD c l).1 else .d ((encD c l).1.headD default)) :: encAs r (encD c l).2
def encRs:List Sh->List V->List R
 | [],_=> []
 | c :: r,l=>(bif agS c then .agg (encT c l).1 else .c ((encT c l).1.headD default)) :: encRs r (encT c l).2
def encTs:List Sh->List V->List T
 | [],_=> []
 | c :: r,l=>(encT c l).1.headD default :: encTs r (encT c l).2
def fuS:Sh->Nat
 | .x t=>szT t+1
 | .pt t=>szT t+3
 | .fn _ c=>fuS c+2
 | .pr a c=>fuS a+fuS c
 | .ni=>0
 | _=>1
section
variable {h:H2}{n:Nat}{h1:Heap}
def flatC:C->Prop
 | .d _ | .osl _ _ _ _=>True
 | _=>False
theorem qk7{c:C}(hc:flatC c)(k j:Nat):viewC h1 k c=viewC h1 j c:=by
 cases c with
 | d x=>rw [q6r,q6r]
 | osl a b e f=>cases k <;> cases j <;> simp only [viewC]
 | _=>exact hc.elim
theorem qc4:∀ {cs:List C} {ds:List D} {ids:List Nat} {k:Nat},(∀ c∈cs,flatC c)->q0r h1 cs=some (ds,ids)->cs.length < k->viewL h1 k cs=some (ds,ids):=by
 intro cs
 induction cs with
 | nil=>intro ds ids k _ h _; simp only [q0r]at h; rw [<- h]; cases k <;> rfl
 | cons c cs ih=>
  intro ds ids k hf h hk
  cases k with
  | zero=>simp at hk
  | succ k=>
   simp only [q0r]at h
   split at h
   ·rename_i x a xs b hx hxs
    simp only [viewL]
    rw [qk7 (hf c (by simp)) k 300,hx,ih (λc hc=>hf c (by simp [hc])) hxs (by simpa using hk)]
    exact h
   ·simp at h
theorem qg5:∀ {x y:List C} {dx dy:List D} {ix iy:List Nat} {k:Nat},viewL h1 k x=some (dx,ix)->viewL h1 (k - x.length) y=some (dy,iy)->x.length<=k->viewL h1 k (x++y)=some (dx++dy,ix++iy):=by
 intro x
 induction x with
 | nil=>
  intro y dx dy ix iy k hx hy _
  have:viewL h1 k []=some ([], []):=by cases k <;> rfl
  rw [this]at hx
  obtain ⟨rfl,rfl⟩:=Prod.mk.inj (Option.some.inj hx)
  simpa using hy
 | cons c x ih=>
  intro y dx dy ix iy k hx hy hk
  cases k with
  | zero=>simp at hk
  | succ k=>
   simp only [viewL]at hx
   split at hx
   ·rename_i p a q b hp hq
    obtain ⟨rfl,rfl⟩:=Prod.mk.inj (Option.some.inj hx)
    simp only [List.cons_append,viewL,hp]
    rw [ih hq (by simpa using hy) (by simpa using hk)]
    simp
   ·simp at hx
theorem qj6{α:Type}{sz id:Nat}{enc:α->List D}{s:Sl α}:flatC (slC sz enc id s):=by cases s <;> trivial
theorem qqp{id lo:Nat}{t:Ty}{r:Sl (El t)}:flatC (sbC id lo t r):=by cases r <;> trivial
theorem qj1:∀(v w:V) (l:List Nat) (cs:List C),frzV h v=some (w,l)->celR h v cs->alv h v=true->∀c∈cs,flatC c:=by
 have fl:∀(ds:List D),∀c∈ds.map C.d,flatC c:=λds c hc=>by
  obtain ⟨d,_,rfl⟩:=List.mem_map.1 hc; trivial
 intro v
 induction v with
 | so id=>
  intro w l cs hf hv _ c hc
  simp only [frzV]at hf
  split at hf
  ·rename_i t s l' hs
   obtain ⟨ver,ho,_⟩:=qax hs
   obtain ⟨c',rfl,hc'⟩:=hv
   obtain rfl:=List.mem_singleton.1 hc
   rw [hc'.1 _ (q4l ho)]
   exact qj6
  ·simp at hf
 | sr id=>
  intro w l cs hf hv _ c hc
  simp only [frzV]at hf
  split at hf
  ·rename_i t s ho
   obtain ⟨c',rfl,hc'⟩:=hv
   obtain rfl:=List.mem_singleton.1 hc
   rw [hc'.1 _ (q9y ho)]
   exact qj6
  ·simp at hf
 | sb id ver lo t r=>
  intro w l cs hf hv ha c hc
  obtain ⟨c',rfl,hc'⟩:=hv
  obtain rfl:=List.mem_singleton.1 hc
  rw [hc'.1 (Bool.and_eq_true_iff.1 ha).2]
  exact qqp
 | rc r ih=>
  intro w l cs hf hv ha
  simp only [frzV]at hf
  split at hf
  ·rename_i w' l' hw
   exact ih w' l' cs hw hv ha
  ·simp at hf
 | co a r iha ihr=>
  intro w l cs hf hv ha c hc
  simp only [frzV]at hf
  split at hf
  ·rename_i x l1 y l2 hx hy
   obtain ⟨ca,cr,rfl,h2,h3⟩:=hv
   simp only [alv,Bool.and_eq_true]at ha
   rcases List.mem_append.1 hc with hc | hc
   ·exact iha x l1 ca hx h2 ha.1 c hc
   ·exact ihr y l2 cr hy h3 ha.2 c hc
  ·simp at hf
 | x t v=>intro w l cs hf hv _; obtain ⟨_,rfl⟩:=hv; exact fl _
 | kb c=>intro w l cs hf hv _; obtain rfl:=hv; exact fl [_]
 | nl k=>intro w l cs hf hv _; obtain rfl:=hv; exact fl [_]
 | fl q=>
  intro w l cs hf hv _
  obtain ⟨_,rfl⟩:=hv
  rw [qiu]; exact fl _
 | ni=>intro w l cs hf hv _; obtain rfl:=hv; exact fl []
 | pt t v=>intro w l cs hf hv _; obtain ⟨_,rfl⟩:=hv; exact fl [_]
 | fn z f q ih=>
  intro w l cs hf hv _
  cases z with
  | true=>obtain ⟨ds,_,rfl⟩:=hv; exact fl [_]
  | false=>simp [frzV]at hf
 | _=>intro w l cs hf hv; simp [frzV]at hf
theorem qse:∀(v:V) (ds:List D),celD v=some ds->celR h v (ds.map .d):=by
 intro v
 induction v with
 | co a r iha ihr=>
  intro ds hd
  simp only [celD]at hd
  split at hd
  ·rename_i x y hx hy
   obtain rfl:=Option.some.inj hd
   exact ⟨_,_,by simp,iha x hx,ihr y hy⟩
  ·simp at hd
 | pt t v=>
  intro ds hd
  simp only [celD]at hd
  split at hd
  ·rename_i ht
   obtain rfl:=Option.some.inj hd
   exact ⟨ht,rfl⟩
  ·simp at hd
 | ni=>intro ds hd; obtain rfl: []=ds:=by simpa [celD]using hd
       rfl
 | _=>intro ds hd; simp [celD]at hd
theorem qdp:∀(v:V),alvD v=true->alv h v=true/\∀n,okV n h v:=by
 intro v
 induction v with
 | co a r iha ihr=>
  intro hv
  simp only [alvD,Bool.and_eq_true]at hv
  exact ⟨by simp only [alv,(iha hv.1).1,(ihr hv.2).1,Bool.and_self],λn=>⟨(iha hv.1).2 n,(ihr hv.2).2 n⟩⟩
 | pt t v=>intro hv; exact ⟨hv,λ_=>trivial⟩
 | ni=>intro _; exact ⟨rfl,λ_=>trivial⟩
 | _=>intro hv; simp [alvD]at hv
theorem qlv(hr:HR n h1 h):∀(c:Sh) (v:V) (l:List V) (i:List Nat) (cs:List C),argD h c v=some (l,i)->celR h v cs->okV n h v->alv h v=true->
  ∃ds ids,(∀ k,fuS c<=k->viewL h1 k cs=some (ds,ids))/\(∀ r,encD c (l++r)=(ds,r))/\(∀ j∈ids,j∈i/\¬nilO h j)/\(∀ j∈i,j∈ids\/nilO h j)/\cs.length<=fuS c:=by
 intro c
 induction c with
 | x t=>
  intro v l i cs ha hv hk hal
  simp only [argD]at ha
  split at ha
  ·rename_i w l' hw
   split at ha
   ·rename_i y hy
    obtain ⟨rfl,rfl⟩:=Prod.mk.inj (Option.some.inj ha)
    obtain ⟨ds,ids,f1,f2,f3,f4,_⟩:=q8g hr v w l' cs hw hv hk hal
    have e3:=q5y (q1v w false t y _ hy f2)
    subst e3
    have hl:cs.length=szT t:=by rw [<- q9f f1,q05]
    exact ⟨_,ids,λk hk=>qc4 (qj1 v w l' cs hw hv hal) f1 (by simp only [fuS]at hk; omega),λr=>rfl,f3,f4,by simp only [fuS]; omega⟩
   ·simp at ha
  ·simp at ha
 | pt t=>
  intro v l i cs ha hv hk hal
  cases v with
  | pt u v=>
   simp only [argD]at ha
   split at ha
   ·rename_i y hy
    obtain ⟨rfl,rfl⟩:=Prod.mk.inj (Option.some.inj ha)
    obtain ⟨e,_⟩:=qbq hy
    obtain ⟨_,rfl⟩:=hv
    refine ⟨[.pt (encE t y)], [],λk hk=> ?_,λr=>rfl,λj hj=>by simp at hj,λj hj=>by simp at hj,by simp [fuS]⟩
    rw [<- e]
    exact qe4 (h1:=h1) [.pt (encE t y)] k (by simp only [fuS]at hk; simp; omega)
   ·simp at ha
  | op id u p=>
   cases p with
   | cons=>simp [argD]at ha
   | nil=>
    obtain rfl:=hv
    have e0:ofP u []=0:=by cases u <;> rfl
    rw [e0]
    simp only [argD]at ha
    split at ha
    ·rename_i w c ho
     obtain ⟨hc,ha⟩:=q00 ha
     simp only [Bool.and_eq_true,decide_eq_true_eq]at hc
     split at ha
     ·rename_i c' l' hw
      split at ha
      ·rename_i y hy
       obtain ⟨rfl,rfl⟩:=Prod.mk.inj (Option.some.inj ha)
       obtain ⟨_,⟨cb,e1,e2,e3⟩,e4⟩:=hr.ob id _ ho
       obtain ⟨ds,ids,f1,f2,f3,f4,_⟩:=q8g hr c c' l' cb hw e2 e4 hc.2
       have e5:=q5y (q1v c' false t y _ hy f2)
       subst e5
       have hl:cb.length=szT t:=by rw [<- q9f f1,q05]
       have hnil:¬nilO h id:=by
        rintro (⟨u',v',e⟩ | ⟨u',ln',e⟩)
        ·rcases e with e | e <;> rw [ho]at e <;> simp at e
        ·rw [ho]at e; cases e
       refine ⟨[.pt (encE t y)],id :: ids,λk hk=> ?_,λr=>rfl,λj hj=> ?_,λj hj=> ?_,by simp [fuS]⟩
       ·simp only [fuS]at hk
        obtain ⟨k,rfl⟩:∃k',k=k'+2:=⟨k - 2,by omega⟩
        have hv:viewL h1 k cb=some (encE t y,ids):=qc4 (qj1 c c' l' cb hw e2 hc.2) f1 (by omega)
        simp only [viewL,viewC,e1,hv,Nat.zero_le,if_true,List.drop_zero,List.append_nil]
       ·rcases List.mem_cons.1 hj with rfl | hj
        ·exact ⟨by simp,hnil⟩
        ·exact ⟨by simp [(f3 j hj).1],(f3 j hj).2⟩
       ·rcases List.mem_cons.1 hj with rfl | hj
        ·exact .inl (by simp)
        ·exact (f4 j hj).imp (λq=>by simp [q]) (λq=>q)
      ·simp at ha
     ·simp at ha
    ·rename_i w v ho
     obtain ⟨hc,ha⟩:=q00 ha
     split at ha
     ·rename_i y hy
      obtain ⟨rfl,rfl⟩:=Prod.mk.inj (Option.some.inj ha)
      obtain ⟨e,_⟩:=qbq hy
      obtain ⟨_,⟨_,e1⟩,_⟩:=hr.ob id _ ho
      have hnil:¬nilO h id:=by
       rintro (⟨u',v',e⟩ | ⟨u',ln',e⟩)
       ·rcases e with e | e <;> rw [ho]at e <;> simp at e
       ·rw [ho]at e; cases e
      refine ⟨[.pt (encE t y)], [id],λk hk=> ?_,λr=>rfl,λj hj=> ?_,λj hj=> .inl hj,by simp [fuS]⟩
      ·simp only [fuS]at hk
       obtain ⟨k,rfl⟩:∃k',k=k'+2:=⟨k - 2,by omega⟩
       simp only [viewL,viewC,e1,Nat.zero_le,if_true,List.drop_zero,List.append_nil,e]
      ·obtain rfl:=List.mem_singleton.1 hj; exact ⟨by simp,hnil⟩
     ·simp at ha
    ·simp at ha
  | ep id m u p=>
   cases p with
   | cons=>simp [argD]at ha
   | nil=>
    obtain rfl:=hv
    have e0:ofP u []=0:=by cases u <;> rfl
    rw [e0]
    have key:∀(w:Ty) (s:Sl (El w)) (ver:Nat),(fO h id=some (.ar w s ver)\/fO h id=some (.im w s ver))->(bif decide (w=u)then (match castE w t (gt s.l m)with | some y=>some ([V.x t y], [id]) | none=>none)else none)=some (l,i)->
      ∃ds ids,(∀ k,fuS (.pt t)<=k->viewL h1 k [.ep id m 0]=some (ds,ids))/\(∀ r,encD (.pt t) (l++r)=(ds,r))/\(∀ j∈ids,j∈i/\¬nilO h j)/\(∀ j∈i,j∈ids\/nilO h j)/\ [C.ep id m 0].length<=fuS (.pt t):=by
     intro w s ver ho ha
     obtain ⟨_,ha⟩:=q00 ha
     split at ha
     ·rename_i y hy
      obtain ⟨rfl,rfl⟩:=Prod.mk.inj (Option.some.inj ha)
      obtain ⟨e,_⟩:=qbq hy
      have hm:=hk.2.2.1 w s ver ho
      cases s with
      | nil=>simp [Sl.l]at hm
      | mk q=>
       refine ⟨[.pt (encE t y)], [id],λk hk=> ?_,λr=>rfl,λj hj=> ?_,λj hj=> .inl hj,by simp [fuS]⟩
       ·simp only [fuS]at hk
        obtain ⟨k,rfl⟩:∃k',k=k'+1:=⟨k - 1,by omega⟩
        have hg:(q.map (encE w))[m]? =some (encE w (gt q m)):=q8s hm
        have e2:encE w (gt q m)=encE t y:=e.symm
        rcases ho with ho | ho
        ·have e1:=(hr.ob id _ ho).2.1.2.2 q rfl
         have:viewC h1 k (.ep id m 0)=some (.pt (encE t y), [id]):=by
          cases k <;> simp only [viewC,e1,hg,Nat.zero_le,if_true,List.drop_zero,e2]
         simp only [viewL,this,List.append_nil]
        ·have e1:=(hr.ob id _ ho).2.1.2.2 q rfl
         have:viewC h1 k (.ep id m 0)=some (.pt (encE t y), [id]):=by
          cases k <;> simp only [viewC,e1,hg,Nat.zero_le,if_true,List.drop_zero,e2]
         simp only [viewL,this,List.append_nil]
       ·obtain rfl:=List.mem_singleton.1 hj; exact ⟨by simp,qev ho⟩
     ·simp at ha
    simp only [argD]at ha
    split at ha
    ·rename_i ho; exact key _ _ _ (.inl ho) ha
    ·rename_i ho; exact key _ _ _ (.inr ho) ha
    ·simp at ha
  | _=>simp [argD]at ha
 | nl k=>
  intro v l i cs ha hv hk hal
  cases v with
  | nl k'=>
   simp only [argD]at ha
   obtain ⟨hc,ha2⟩:=q00 ha
   obtain rfl:k=k':=by simpa using hc
   obtain ⟨rfl,rfl⟩:=Prod.mk.inj (Option.some.inj ha2)
   obtain rfl:=hv
   refine ⟨[nlD k], [],λj hj=> ?_,λr=>rfl,λj hj=>by simp at hj,λj hj=>by simp at hj,by simp [fuS]⟩
   simp only [fuS]at hj
   obtain ⟨j,rfl⟩:∃k',j=k'+1:=⟨j - 1,by omega⟩
   have e:viewL h1 j []=some ([], []):=by cases j <;> rfl
   rw [qw9]
   simp only [viewL,q6r,e,List.append_nil]
  | _=>simp [argD]at ha
 | fn f c ih=>
  intro v l i cs ha hv hk hal
  cases v with
  | fn z f' q=>
   simp only [argD]at ha
   obtain ⟨hc,ha2⟩:=q00 ha
   obtain rfl:f=f':=by simpa using hc
   cases z with
   | true=>
    obtain ⟨ds0,hd,rfl⟩:=hv
    have hal':alvD q=true:=hal
    obtain ⟨a1,a2⟩:=qdp (h:=h) q hal'
    obtain ⟨ds,ids,g1,g2,g3,g4,g5⟩:=ih q l i (ds0.map .d) ha2 (qse q ds0 hd) (a2 n) a1
    have e:=g1 (fuS c+ds0.length+1) (by omega)
    rw [qe4 ds0 _ (by omega)]at e
    obtain ⟨rfl,rfl⟩:=Prod.mk.inj (Option.some.inj e)
    refine ⟨[.fn f ds0], [],λk hk=> ?_,λr=> ?_,g3,g4,by simp [fuS]⟩
    ·simp only [fuS]at hk
     exact qe4 (h1:=h1) [.fn f ds0] k (by simp; omega)
    ·simp only [encD,g2 r]
   | false=>
    obtain ⟨xs,h2,rfl⟩:=hv
    obtain ⟨ds,ids,g1,g2,g3,g4,g5⟩:=ih q l i xs ha2 h2 hk hal
    refine ⟨[.fn f ds],ids,λk hk=> ?_,λr=> ?_,g3,g4,by simp [fuS]⟩
    ·simp only [fuS]at hk
     obtain ⟨k,rfl⟩:∃k',k=k'+2:=⟨k - 2,by omega⟩
     simp only [viewL,viewC,g1 k (by omega),List.append_nil]
    ·simp only [encD,g2 r]
  | _=>simp [argD]at ha
 | pr a c iha ihc=>
  intro v l i cs ha hv hk hal
  cases v with
  | co x r=>
   simp only [argD]at ha
   split at ha
   ·rename_i l1 i1 l2 i2 h2 h3
    obtain ⟨rfl,rfl⟩:=Prod.mk.inj (Option.some.inj ha)
    obtain ⟨cx,cr,rfl,h4,h5⟩:=hv
    simp only [alv,Bool.and_eq_true]at hal
    obtain ⟨d1,j1,a1,a2,a3,a4,a5⟩:=iha x l1 i1 cx h2 h4 hk.1 hal.1
    obtain ⟨d2,j2,b1,b2,b3,b4,b5⟩:=ihc r l2 i2 cr h3 h5 hk.2 hal.2
    refine ⟨d1++d2,j1++j2,λk hk=> ?_,λr=> ?_,λj hj=> ?_,λj hj=> ?_,by simp [fuS]; omega⟩
    ·simp only [fuS]at hk
     exact qg5 (a1 k (by omega)) (b1 _ (by omega)) (by omega)
    ·simp only [encD,List.append_assoc,a2,b2]
    ·rcases List.mem_append.1 hj with hj | hj
     ·exact ⟨List.mem_append_left _ (a3 j hj).1,(a3 j hj).2⟩
     ·exact ⟨List.mem_append_right _ (b3 j hj).1,(b3 j hj).2⟩
    ·rcases List.mem_append.1 hj with hj | hj
     ·exact (a4 j hj).imp (List.mem_append_left _) id
     ·exact (b4 j hj).imp (List.mem_append_right _) id
   ·simp at ha
  | _=>simp [argD]at ha
 | ni=>
  intro v l i cs ha hv hk hal
  cases v with
  | ni=>
   obtain ⟨rfl,rfl⟩:=Prod.mk.inj (Option.some.inj ha)
   obtain rfl:=hv
   exact ⟨[], [],λk _=>(by cases k <;> rfl),λr=>rfl,λj hj=>by simp at hj,λj hj=>by simp at hj,by simp⟩
  | _=>simp [argD]at ha
 | _=>intro v l i cs ha; simp [argD]at ha
end
end Go.Ev

namespace Go.Ev
def fuT:Sh->Nat
 | .x t=>szT t+1
 | .pb _ c=>fuT c+2
 | .st c=>fuT c
 | .pr a c=>fuT a+fuT c
 | .ni=>0
 | _=>1
section
variable {h:H2}{n:Nat}{h1:Heap}
theorem qau(k:Nat)(x:D):packC h1 k (.d x)=some (.d x, [], []):=by cases k <;> rfl
theorem q5q(k:Nat):packL h1 k []=some ([], [], []):=by cases k <;> rfl
theorem q6s:∀(ds:List D) (k:Nat),ds.length<=k->packL h1 k (ds.map .d)=some (ds.map .d, [], []):=by
 intro ds
 induction ds with
 | nil=>intro k _; exact q5q k
 | cons d ds ih=>
  intro k hk
  cases k with
  | zero=>simp at hk
  | succ k=>simp only [List.map_cons,packL,qau,ih k (by simpa using hk),List.append_nil]
theorem q9u:∀ {x y:List C} {tx ty:List T} {ox oy ix iy:List Nat} {k:Nat},packL h1 k x=some (tx,ox,ix)->packL h1 (k - x.length) y=some (ty,oy,iy)->x.length<=k->packL h1 k (x++y)=some (tx++ty,ox++oy,ix++iy):=by
 intro x
 induction x with
 | nil=>
  intro y tx ty ox oy ix iy k hx hy _
  rw [q5q]at hx
  obtain ⟨rfl,e⟩:=Prod.mk.inj (Option.some.inj hx)
  obtain ⟨rfl,rfl⟩:=Prod.mk.inj e
  simpa using hy
 | cons c x ih=>
  intro y tx ty ox oy ix iy k hx hy hk
  cases k with
  | zero=>simp at hk
  | succ k=>
   simp only [packL]at hx
   split at hx
   ·rename_i p a i q b j hp hq
    obtain ⟨rfl,e⟩:=Prod.mk.inj (Option.some.inj hx)
    obtain ⟨rfl,rfl⟩:=Prod.mk.inj e
    simp only [List.cons_append,packL,hp]
    rw [ih hq (by simpa using hy) (by simpa using hk)]
    simp
   ·simp at hx
theorem qab{c:C}{t:T}{own rd:List Nat}{k:Nat}(hc:packC h1 k c=some (t,own,rd)):packL h1 (k+1) [c]=some ([t],own,rd):=by
 simp only [packL,hc,q5q,List.append_nil]
theorem p_n{t:Ty}{id k:Nat}{q:List (Sl (El t))}(h:look h1 id=some (.nst (szT t) (q0z t q none))):packC h1 k (slC 1 (encE (.sl t)) id (Sl.mk q:Sl (Sl (El t))))=some (.sls (szT t) (q.map (rowO t)), [id], [id]):=by
 simp only [slC,q0z]at h ⊢
 cases k <;> simp only [packC,h,List.length_map,and_self,if_true,qo2]
theorem qbd(hr:HR n h1 h):∀(c:Sh) (ln:Bool) (v:V) (l:List V) (i:List Nat) (cs:List C),argT h c ln v=some (l,i)->celR h v cs->okV n h v->
  ∃ts own rd,(∀ k,fuT c<=k->packL h1 k cs=some (ts,own,rd))/\(∀ r,encT c (l++r)=(ts,r))/\own.Sublist i/\(∀ j∈i,j∈own\/nilO h j)/\(∀ j∈rd,j∈i)/\cs.length<=fuT c/\(∀ j∈i,j < n):=by
 intro c
 induction c with
 | x t=>
  intro ln v l i cs ha hv hk
  cases ln with
  | true=>simp [argT]at ha
  | false=>
   simp only [argT]at ha
   split at ha
   ·rename_i y hy
    obtain ⟨rfl,rfl⟩:=Prod.mk.inj (Option.some.inj ha)
    have e:=q1v v false t y cs hy hv
    subst e
    exact ⟨_, [], [],λk hk=>q6s _ k (by rw [q05]; simp only [fuT]at hk; omega),λr=>rfl,List.Sublist.refl _,λj hj=>by simp at hj,λj hj=>hj,by simp [fuT,q05],λj hj=>by simp at hj⟩
   ·simp at ha
 | os t=>
  intro ln v l i cs ha hv hk
  cases ln with
  | true=>simp [argT]at ha
  | false=>
   cases v with
   | so id=>
    simp only [argT]at ha
    split at ha
    ·rename_i u s ver ho
     split at ha
     ·rename_i s' hs
      obtain ⟨rfl,rfl⟩:=Prod.mk.inj (Option.some.inj ha)
      obtain ⟨e,rfl⟩:=q0h hs
      cases e
      obtain ⟨c,rfl,hc⟩:=hv
      rw [hc.1 _ (q4l (.inl ho))]
      cases s with
      | nil=>
       exact ⟨[.d (.lit (.slice none 0 0))], [], [],λk hk=>q6s [.lit (.slice none 0 0)] k (by simpa [fuT]using hk),λr=>rfl,List.nil_sublist _,λj hj=>by
        obtain rfl:=List.mem_singleton.1 hj; exact .inr (.inl ⟨_,_, .inl ho⟩),λj hj=>by simp at hj,by simp [fuT],λj hj=>by obtain rfl:=List.mem_singleton.1 hj; exact hk⟩
      | mk q=>
       have e1:=(hr.ob id _ ho).2.1.2.2 q rfl
       refine ⟨[.sl (szT t) (q.map (encE t))], [id], [id],λk hk=> ?_,λr=>rfl,List.Sublist.refl _,λj hj=> .inl hj,λj hj=>hj,by simp [fuT],λj hj=>by obtain rfl:=List.mem_singleton.1 hj; exact hk⟩
       obtain ⟨k,rfl⟩:∃k',k=k'+1:=⟨k - 1,by simp only [fuT]at hk; omega⟩
       exact qab (p_o e1)
     ·simp at ha
    ·simp at ha
   | nl k=>
    cases k with
    | zero=>
     obtain ⟨rfl,rfl⟩:=Prod.mk.inj (Option.some.inj ha)
     obtain rfl:=hv
     exact ⟨[.d (.lit (.slice none 0 0))], [], [],λk hk=>q6s [.lit (.slice none 0 0)] k (by simpa [fuT]using hk),λr=>rfl,List.Sublist.refl _,λj hj=>by simp at hj,λj hj=>hj,by simp [fuT],λj hj=>by simp at hj⟩
    | succ k=>simp [argT]at ha
   | _=>simp [argT]at ha
 | rw t=>
  intro ln v l i cs ha hv hk
  cases ln with
  | true=>simp [argT]at ha
  | false=>
   cases v with
   | sr id=>
    simp only [argT]at ha
    split at ha
    ·rename_i u s ho
     split at ha
     ·rename_i s' hs
      obtain ⟨rfl,rfl⟩:=Prod.mk.inj (Option.some.inj ha)
      obtain ⟨e,rfl⟩:=q0h hs
      cases e
      obtain ⟨c,rfl,hc⟩:=hv
      rw [hc.1 _ (q9y ho)]
      cases s with
      | nil=>
       exact ⟨[.d (.lit (.slice none 0 0))], [], [],λk hk=>q6s [.lit (.slice none 0 0)] k (by simpa [fuT]using hk),λr=>rfl,List.nil_sublist _,λj hj=>by
        obtain rfl:=List.mem_singleton.1 hj; exact .inr (.inr ⟨_,_,ho⟩),λj hj=>by simp at hj,by simp [fuT],λj hj=>by obtain rfl:=List.mem_singleton.1 hj; exact hk⟩
      | mk q=>
       have e1:=(hr.ob id _ ho).2.1.2.2 q rfl
       refine ⟨[.sls (szT t) (q.map (rowO t))], [id], [id],λk hk=> ?_,λr=>rfl,List.Sublist.refl _,λj hj=> .inl hj,λj hj=>hj,by simp [fuT],λj hj=>by obtain rfl:=List.mem_singleton.1 hj; exact hk⟩
       obtain ⟨k,rfl⟩:∃k',k=k'+1:=⟨k - 1,by simp only [fuT]at hk; omega⟩
       exact qab (p_n e1)
     ·simp at ha
    ·simp at ha
   | nl k=>
    cases k with
    | zero=>
     obtain ⟨rfl,rfl⟩:=Prod.mk.inj (Option.some.inj ha)
     obtain rfl:=hv
     exact ⟨[.d (.lit (.slice none 0 0))], [], [],λk hk=>q6s [.lit (.slice none 0 0)] k (by simpa [fuT]using hk),λr=>rfl,List.Sublist.refl _,λj hj=>by simp at hj,λj hj=>hj,by simp [fuT],λj hj=>by simp at hj⟩
    | succ k=>simp [argT]at ha
   | _=>simp [argT]at ha
 | pb t c ih=>
  intro ln v l i cs ha hv hk
  cases ln with
  | true=>simp [argT]at ha
  | false=>
   cases v with
   | op id u p=>
    cases p with
    | cons=>simp [argT]at ha
    | nil=>
     simp only [argT]at ha
     split at ha
     ·rename_i w q ho
      obtain ⟨hc,ha2⟩:=q00 ha
      split at ha2
      ·rename_i l' i' ha3
       obtain ⟨rfl,rfl⟩:=Prod.mk.inj (Option.some.inj ha2)
       obtain rfl:=hv
       have e0:ofP u []=0:=by cases u <;> rfl
       rw [e0]
       obtain ⟨_,⟨cb,e1,e2,e3⟩,e4⟩:=hr.ob id _ ho
       obtain ⟨ts,own,rd,g1,g2,g3,g4,g5,g6,g7⟩:=ih false q l' i' cb ha3 e2 e4
       refine ⟨[.pt ts],id :: own,id :: rd,λk hk=> ?_,λr=>by simp only [encT,g2 r],g3.cons_cons _,λj hj=> ?_,λj hj=> ?_,by simp [fuT],λj hj=> ?_⟩
       ·obtain ⟨k,rfl⟩:∃k',k=k'+2:=⟨k - 2,by simp only [fuT]at hk; omega⟩
        refine qab ?_
        simp only [packC,e1,g1 k (by simp only [fuT]at hk; omega)]
       ·rcases List.mem_cons.1 hj with rfl | hj
        ·exact .inl (by simp)
        ·exact (g4 j hj).imp (λq=>by simp [q]) (λq=>q)
       ·rcases List.mem_cons.1 hj with rfl | hj
        ·simp
        ·simp [g5 j hj]
       ·rcases List.mem_cons.1 hj with rfl | hj
        ·exact hk.1
        ·exact g7 j hj
      ·simp at ha2
     ·simp at ha
   | _=>simp [argT]at ha
 | nl k=>
  intro ln v l i cs ha hv hk
  cases ln with
  | true=>simp [argT]at ha
  | false=>
   cases v with
   | nl k'=>
    simp only [argT]at ha
    obtain ⟨hc,ha2⟩:=q00 ha
    obtain rfl:k=k':=by simpa using hc
    obtain ⟨rfl,rfl⟩:=Prod.mk.inj (Option.some.inj ha2)
    obtain rfl:=hv
    exact ⟨[.d (nlD k)], [], [],λj hj=>q6s [nlD k] j (by simpa [fuT]using hj),λr=>rfl,List.Sublist.refl _,λj hj=>by simp at hj,λj hj=>hj,by simp [fuT],λj hj=>by simp at hj⟩
   | _=>simp [argT]at ha
 | st c ih=>
  intro ln v l i cs ha hv hk
  cases ln with
  | true=>simp [argT]at ha
  | false=>
   cases v with
   | rc q=>exact ih true q l i cs ha hv hk
   | x t v=>
    cases t with
    | st u=>
     obtain ⟨hd,rfl⟩:=hv
     exact ih true (toL u v) l i _ ha (qgh u v hd) (qnm u v)
    | _=>simp [argT]at ha
   | _=>simp [argT]at ha
 | pr a c iha ihc=>
  intro ln v l i cs ha hv hk
  cases ln with
  | false=>simp [argT]at ha
  | true=>
   cases v with
   | co x r=>
    simp only [argT]at ha
    split at ha
    ·rename_i l1 i1 l2 i2 h2 h3
     obtain ⟨rfl,rfl⟩:=Prod.mk.inj (Option.some.inj ha)
     obtain ⟨cx,cr,rfl,h4,h5⟩:=hv
     have hA:∃ts own rd,(∀ k,fuT a<=k->packL h1 k cx=some (ts,own,rd))/\(∀ r,encT a (l1++r)=(ts,r))/\own.Sublist i1/\(∀ j∈i1,j∈own\/nilO h j)/\(∀ j∈rd,j∈i1)/\cx.length<=fuT a/\(∀ j∈i1,j < n):=by
      split at h2
      ·rename_i t u v
       unfold nilX at h2
       split at h2
       ·obtain ⟨rfl,rfl⟩:=Prod.mk.inj (Option.some.inj h2)
        obtain ⟨_,rfl⟩:=h4
        exact ⟨[.d (.lit (.slice none 0 0))], [], [],λk hk=>q6s [.lit (.slice none 0 0)] k (by simpa [fuT]using hk),λr=>rfl,List.Sublist.refl _,λj hj=>by simp at hj,λj hj=>hj,by simp [fuT,encE],λj hj=>by simp at hj⟩
       ·simp at h2
      ·exact iha false x l1 i1 cx h2 h4 hk.1
     obtain ⟨t1,o1,r1,a1,a2,a3,a4,a5,a6,a7⟩:=hA
     obtain ⟨t2,o2,r2,b1,b2,b3,b4,b5,b6,b7⟩:=ihc true r l2 i2 cr h3 h5 hk.2
     refine ⟨t1++t2,o1++o2,r1++r2,λk hk=> ?_,λr=> ?_,a3.append b3,λj hj=> ?_,λj hj=> ?_,by simp [fuT]; omega,λj hj=> ?_⟩
     ·simp only [fuT]at hk
      exact q9u (a1 k (by omega)) (b1 _ (by omega)) (by omega)
     ·simp only [encT,List.append_assoc,a2,b2]
     ·rcases List.mem_append.1 hj with hj | hj
      ·exact (a4 j hj).imp (List.mem_append_left _) (λq=>q)
      ·exact (b4 j hj).imp (List.mem_append_right _) (λq=>q)
     ·rcases List.mem_append.1 hj with hj | hj
      ·exact List.mem_append_left _ (a5 j hj)
      ·exact List.mem_append_right _ (b5 j hj)
     ·rcases List.mem_append.1 hj with hj | hj
      ·exact a7 j hj
      ·exact b7 j hj
    ·simp at ha
   | _=>simp [argT]at ha
 | ni=>
  intro ln v l i cs ha hv hk
  cases ln with
  | false=>cases v <;> simp [argT]at ha
  | true=>
   cases v with
   | ni=>
    obtain ⟨rfl,rfl⟩:=Prod.mk.inj (Option.some.inj ha)
    obtain rfl:=hv
    exact ⟨[], [], [],λk _=>q5q k,λr=>rfl,List.Sublist.refl _,λj hj=>by simp at hj,λj hj=>hj,by simp,λj hj=>by simp at hj⟩
   | _=>simp [argT]at ha
 | _=>intro ln v l i cs ha; cases ln <;> simp [argT]at ha
theorem qk5:∀(a b:List T) (m:Nat),unL m (a++b)=((unL m a).1++(unL (unL m a).2.2 b).1,(unL m a).2.1++(unL (unL m a).2.2 b).2.1,(unL (unL m a).2.2 b).2.2):=by
 intro a
 induction a with
 | nil=>intro b m; simp [unL]
 | cons t a ih=>
  intro b m
  simp only [List.cons_append,unL,ih,List.append_assoc]
theorem q7z(t:T)(m:Nat):unL m [t]=([(unC m t).1],(unC m t).2.1,(unC m t).2.2):=by simp [unL]
theorem unL_d:∀(ds:List D) (m:Nat),unL m (ds.map T.d)=(ds.map .d, [],m+ds.length):=by
 intro ds
 induction ds with
 | nil=>intro m; rfl
 | cons d ds ih=>intro m; simp only [List.map_cons,unL,unC,ih,List.nil_append,List.length_cons]; congr 2; omega
theorem qbn{a b:Upd}(hd:∀p∈a,∀q∈b,p.1≠q.1)(i:Nat):look (a++b++h1) i=look (b++(a++h1)) i:=by
 rw [q18,q18,q18,<- q0n,q3z hd]
structure Mk (s s':S2) (h1:Heap) (u:Upd):Prop where
 hr:HR s'.next (u++h1) s'.heap
 hst:HSt s.next s.heap s'.heap
 env:s'.env=s.env
 gh:s'.gh=s.gh
 le:s.next<=s'.next
 keys:∀p∈u,s.next<=p.1/\p.1 < s'.next
 wo:∃W,s'.wo=W++s.wo/\(∀ p∈u,p.1∈W)/\(∀ i∈W,s.next<=i/\i < s'.next)/\∀i,i∉W->fO s'.heap i=fO s.heap i
theorem Mk.skip{s:S2}{m:Nat}(hr:HR s.next h1 s.heap)(hm:s.next<=m):Mk s { s with next:=m } h1 []:=
 ⟨hr.mono hm,HSt.refl _ _,rfl,rfl,hm,λp hp=>by simp at hp, [],rfl,λp hp=>by simp at hp,λi hi=>by simp at hi,λ_ _=>rfl⟩
theorem Mk.seq{s s1 s2:S2}{u1 u2:Upd}(a:Mk s s1 h1 u1)(b:Mk s1 s2 (u1++h1) u2):Mk s s2 h1 (u1++u2):=by
 obtain ⟨a3,a4,a5,a6,a7,a8,W,v1,v2,v3,v4⟩:=a
 obtain ⟨b3,b4,b5,b6,b7,b8,X,x1,x2,x3,x4⟩:=b
 refine ⟨?_,a4.trans a7 b4,b5.trans a5,b6.trans a6,by omega,λp hp=> ?_,X++W,by rw [x1,v1,List.append_assoc],λp hp=> ?_,λi hi=> ?_,λi hi=> ?_⟩
 ·exact b3.ext λi=>qbn (λp hp q hq e=>by have:=(a8 p hp).2; have:=(b8 q hq).1; omega) i
 ·rcases List.mem_append.1 hp with hp | hp
  ·have:=a8 p hp; omega
  ·have:=b8 p hp; omega
 ·rcases List.mem_append.1 hp with hp | hp
  ·exact List.mem_append_right _ (v2 p hp)
  ·exact List.mem_append_left _ (x2 p hp)
 ·rcases List.mem_append.1 hi with hi | hi
  ·have:=x3 i hi; omega
  ·have:=v3 i hi; omega
 ·rw [x4 i λq=>hi (List.mem_append_left _ q),v4 i λq=>hi (List.mem_append_right _ q)]
end
end Go.Ev

namespace Go.Ev
section
variable {h:H2}{n:Nat}
theorem HSt.bx{id:Nat}{t:Ty}{c:V}:HSt n h ((id,some (.bx t c)) :: h):=⟨λi o hi ho=>by
 rw [q0g]at ho
 split at ho
 ·obtain rfl:=Option.some.inj ho; exact .inr rfl
 ·exact .inl ⟨o,ho,OSt.refl _⟩⟩
theorem Mk.one{s:S2}{h1:Heap}{o:O}{b:Option Ob}{u:Upd}(hr:HR s.next h1 s.heap)(hu:u= [(s.next,b)]\/(u= []/\∀b',obR ((s.next,some o) :: s.heap) o b'))(hb:u= [(s.next,b)]->obR ((s.next,some o) :: s.heap) o b)
  (hko:okO (s.next+1) ((s.next,some o) :: s.heap) o):Mk s (newO s o) h1 u:=by
 have hd:=Did.new (x:= .tup []) (v:= .no) (ids:= []) (l:= []) (m:=s.next+1) hr hu hb hko rfl trivial (λi hi=>by simp at hi) (Nat.le_refl _)
 refine ⟨hd.hr,hd.hst,rfl,rfl,Nat.le_succ _,λp hp=> ?_, [s.next],rfl,λp hp=> ?_,λi hi=> ?_,λi hi=> ?_⟩
 ·rcases hu with rfl | ⟨rfl,_⟩
  ·obtain rfl:=List.mem_singleton.1 hp
   exact ⟨Nat.le_refl _,Nat.lt_succ_self _⟩
  ·simp at hp
 ·rcases hu with rfl | ⟨rfl,_⟩
  ·obtain rfl:=List.mem_singleton.1 hp; simp
  ·simp at hp
 ·obtain rfl:=List.mem_singleton.1 hi; exact ⟨Nat.le_refl _,Nat.lt_succ_self _⟩
 ·simp only [newO]; rw [q0g,if_neg λe=>hi (by simp [e])]
theorem qac:∀(c:Sh) (ln:Bool) (l:List V) (s:S2) (w:V) (l':List V) (s':S2) (h1:Heap),mkT c ln l s=some (w,l',s')->HR s.next h1 s.heap->
  celR s'.heap w (unL s.next (encT c l).1).1/\okV s'.next s'.heap w/\Mk s s' h1 (unL s.next (encT c l).1).2.1/\s'.next=(unL s.next (encT c l).1).2.2/\l'=(encT c l).2/\(ln=false->agV w=agS c):=by
 intro c
 induction c with
 | x t=>
  intro ln l s w l' s' h1 hm hr
  cases ln with
  | true=>simp [mkT]at hm
  | false=>
   match l with
   | .x u v :: l=>
    simp only [mkT]at hm
    obtain ⟨hc,hm2⟩:=q00 hm
    simp only [Bool.and_eq_true,decide_eq_true_eq]at hc
    obtain ⟨rfl,hd⟩:=hc
    obtain ⟨rfl,e⟩:=Prod.mk.inj (Option.some.inj hm2)
    obtain ⟨rfl,rfl⟩:=Prod.mk.inj e
    simp only [encT,unL_d,q05]
    exact ⟨⟨hd,rfl⟩,trivial,Mk.skip hr (Nat.le_add_right _ _),trivial,trivial,λ_=>rfl⟩
   | [] | .kb _ :: _ | .nl _ :: _ | .so _ :: _ | .sr _ :: _ | .sb _ _ _ _ _ :: _ | .op _ _ _ :: _ | .ep _ _ _ _ :: _ | .pt _ _ :: _ | .fn _ _ _ :: _ | .om _ :: _ | .rc _ :: _ | .tp _ :: _ | .ni :: _ | .co _ _ :: _ | .fl _ :: _ | .no :: _ | .gn :: _=>simp [mkT]at hm
 | os t=>
  intro ln l s w l' s' h1 hm hr
  cases ln with
  | true=>simp [mkT]at hm
  | false=>
   match l with
   | .x (.sl u) v :: l=>
    simp only [mkT]at hm
    obtain ⟨hc,hm2⟩:=q00 hm
    simp only [Bool.and_eq_true,decide_eq_true_eq]at hc
    obtain ⟨rfl,hd⟩:=hc
    obtain ⟨d1,d2⟩:=q6q hd
    obtain ⟨rfl,e⟩:=Prod.mk.inj (Option.some.inj hm2)
    obtain ⟨rfl,rfl⟩:=Prod.mk.inj e
    simp only [encT,q7z]
    have hv:celR (newO s (.ar u v 0)).heap (.so s.next) [slC (szT u) (encE u) s.next v]:=⟨_,rfl,λc' hc'=>by simp only [newO,q9l]at hc'; exact Option.some.inj hc',qi7⟩
    cases v with
    | nil=>
     exact ⟨hv,Nat.lt_succ_self _,Mk.one (b:=none) hr (.inr ⟨rfl,λb'=>⟨d1,d2,λl e=>by cases e⟩⟩) (λe=>by cases e) trivial,by first | rfl | trivial,by first | rfl | trivial,λ_=>rfl⟩
    | mk q=>
     exact ⟨hv,Nat.lt_succ_self _,Mk.one (b:=some (.arr (szT u) (q.map (encE u)))) hr (.inl rfl) (λ_=>⟨d1,d2,λl e=>by cases e; rfl⟩) trivial,by first | rfl | trivial,by first | rfl | trivial,λ_=>rfl⟩
   | [] | .kb _ :: _ | .nl _ :: _ | .so _ :: _ | .sr _ :: _ | .sb _ _ _ _ _ :: _ | .op _ _ _ :: _ | .ep _ _ _ _ :: _ | .pt _ _ :: _ | .fn _ _ _ :: _ | .om _ :: _ | .rc _ :: _ | .tp _ :: _ | .ni :: _ | .co _ _ :: _ | .fl _ :: _ | .no :: _ | .gn :: _=>simp [mkT]at hm
   | .x (.i _) _ :: _ | .x .b _ :: _ | .x .s _ :: _ | .x (.f _) _ :: _ | .x (.mp _ _) _ :: _ | .x .un _ :: _ | .x (.pr _ _) _ :: _ | .x (.st _) _ :: _ | .x (.ar _ _) _ :: _ | .x (.o _) _ :: _=>simp [mkT]at hm
 | rw t=>
  intro ln l s w l' s' h1 hm hr
  cases ln with
  | true=>simp [mkT]at hm
  | false=>
   match l with
   | .x (.sl (.sl u)) v :: l=>
    simp only [mkT]at hm
    obtain ⟨hc,hm2⟩:=q00 hm
    simp only [Bool.and_eq_true,decide_eq_true_eq]at hc
    obtain ⟨rfl,hd⟩:=hc
    obtain ⟨d1,d2⟩:=q6q hd
    obtain ⟨rfl,e⟩:=Prod.mk.inj (Option.some.inj hm2)
    obtain ⟨rfl,rfl⟩:=Prod.mk.inj e
    simp only [encT,q7z]
    have hv:celR (newO s (.rw u v none)).heap (.sr s.next) [slC 1 (encE (.sl u)) s.next (v:Sl (Sl (El u)))]:=⟨_,rfl,λc' hc'=>by simp only [newO,q9l]at hc'; exact Option.some.inj hc',qi7⟩
    cases v with
    | nil=>
     exact ⟨hv,Nat.lt_succ_self _,Mk.one (b:=none) hr (.inr ⟨rfl,λb'=>⟨d1,d2,λl e=>by cases e⟩⟩) (λe=>by cases e) trivial,by first | rfl | trivial,by first | rfl | trivial,λ_=>rfl⟩
    | mk q=>
     have e1:(unC s.next (slsT u (.mk q))).1=slC 1 (encE (.sl u)) s.next (Sl.mk q:Sl (Sl (El u))):=by simp [slsT,unC,slC]
     have e2:(unC s.next (slsT u (.mk q))).2.1= [(s.next,some (.nst (szT u) (q0z u q none)))]:=by simp only [slsT,unC,qcr,q0z]
     rw [e1,e2]
     exact ⟨hv,Nat.lt_succ_self _,Mk.one (b:=some (.nst (szT u) (q0z u q none))) hr (.inl rfl) (λ_=>⟨d1,d2,λl e=>by cases e; rfl⟩) trivial,by first | rfl | trivial,by first | rfl | trivial,λ_=>rfl⟩
   | [] | .kb _ :: _ | .nl _ :: _ | .so _ :: _ | .sr _ :: _ | .sb _ _ _ _ _ :: _ | .op _ _ _ :: _ | .ep _ _ _ _ :: _ | .pt _ _ :: _ | .fn _ _ _ :: _ | .om _ :: _ | .rc _ :: _ | .tp _ :: _ | .ni :: _ | .co _ _ :: _ | .fl _ :: _ | .no :: _ | .gn :: _=>simp [mkT]at hm
   | .x (.sl (.i _)) _ :: _ | .x (.sl .b) _ :: _ | .x (.sl .s) _ :: _ | .x (.sl (.f _)) _ :: _ | .x (.sl (.mp _ _)) _ :: _ | .x (.sl .un) _ :: _ | .x (.sl (.pr _ _)) _ :: _ | .x (.sl (.st _)) _ :: _ | .x (.sl (.ar _ _)) _ :: _ | .x (.sl (.o _)) _ :: _ | .x (.i _) _ :: _ | .x .b _ :: _ | .x .s _ :: _ | .x (.f _) _ :: _ | .x (.mp _ _) _ :: _ | .x .un _ :: _ | .x (.pr _ _) _ :: _ | .x (.st _) _ :: _ | .x (.ar _ _) _ :: _ | .x (.o _) _ :: _=>simp [mkT]at hm
 | pb t c ih=>
  intro ln l s w l' s' h1 hm hr
  cases ln with
  | true=>simp [mkT]at hm
  | false=>
   simp only [mkT]at hm
   split at hm
   ·rename_i w0 l0 s2 hm0
    obtain ⟨hf,hm2⟩:=q00 hm
    obtain ⟨rfl,e⟩:=Prod.mk.inj (Option.some.inj hm2)
    obtain ⟨rfl,rfl⟩:=Prod.mk.inj e
    obtain ⟨q1,q2,q3,q4,q5,_⟩:=ih false l { s with next:=s.next+1 } w0 l0 s2 h1 hm0 (hr.mono (Nat.le_succ _))
    simp only [encT,q7z,unC]
    obtain ⟨a3,a4,a5,a6,a7,a8,W,v1,v2,v3,v4⟩:=q3
    simp only at a4 a5 a6 a7 a8 v1 v3 v4
    have hlt:s.next < s2.next:=by omega
    have hin:∀i,i∉W->fO s2.heap i=fO s.heap i:=v4
    refine ⟨?_,⟨hlt,by cases t <;> trivial⟩,⟨?_, ?_,a5,a6,by show s.next<=s2.next; omega,λp hp=> ?_,s.next :: W,by simp only [updO,v1]; rfl,λp hp=> ?_,λi hi=> ?_,λi hi=> ?_⟩,q4,q5,λ_=>rfl⟩
    ·show [_]= [_]
     have e0:ofP t []=0:=by cases t <;> rfl
     rw [e0]
    ·refine HR.upd (u:= [(s.next,some (.box _))]) a3 (Nat.le_refl _) hlt HSt.bx (λi hi=> ?_) λo' ho'=> ?_
     ·rw [List.singleton_append,q0i,if_neg λe=>hi e.symm]
     ·obtain rfl:=Option.some.inj ho'
      refine ⟨?_,q1j (Nat.le_refl _) HSt.bx q2⟩
      rw [List.singleton_append,q0i,if_pos rfl]
      exact ⟨_,rfl,q3h HSt.bx q2 q1,hf⟩
    ·exact HSt.trans (n':=s2.next) (by omega) (⟨λi o hi ho=>a4.ob i o (by omega) ho⟩:HSt s.next s.heap s2.heap) HSt.bx
    ·simp only [updO]
     rcases List.mem_cons.1 hp with rfl | hp
     ·exact ⟨Nat.le_refl _,hlt⟩
     ·have:=a8 p hp; omega
    ·rcases List.mem_cons.1 hp with rfl | hp
     ·simp
     ·exact List.mem_cons_of_mem _ (v2 p hp)
    ·simp only [updO]
     rcases List.mem_cons.1 hi with rfl | hi
     ·exact ⟨Nat.le_refl _,hlt⟩
     ·have:=v3 i hi; omega
    ·simp only [updO]
     rw [q0g,if_neg λe=>hi (by simp [e]),hin i λq=>hi (by simp [q])]
   ·simp at hm
 | nl k=>
  intro ln l s w l' s' h1 hm hr
  cases ln with
  | true=>simp [mkT]at hm
  | false=>
   simp only [mkT]at hm
   obtain ⟨rfl,e⟩:=Prod.mk.inj (Option.some.inj hm)
   obtain ⟨rfl,rfl⟩:=Prod.mk.inj e
   simp only [encT,q7z,unC]
   exact ⟨rfl,trivial,Mk.skip hr (Nat.le_succ _),by first | rfl | trivial,by first | rfl | trivial,λ_=>rfl⟩
 | st c ih=>
  intro ln l s w l' s' h1 hm hr
  cases ln with
  | true=>simp [mkT]at hm
  | false=>
   simp only [mkT]at hm
   split at hm
   ·rename_i w0 l0 s2 hm0
    obtain ⟨rfl,e⟩:=Prod.mk.inj (Option.some.inj hm)
    obtain ⟨rfl,rfl⟩:=Prod.mk.inj e
    obtain ⟨q1,q2,q3,q4,q5,_⟩:=ih true l s w0 l0 s2 h1 hm0 hr
    exact ⟨q1,q2,q3,q4,q5,λ_=>rfl⟩
   ·simp at hm
 | pr a c iha ihc=>
  intro ln l s w l' s' h1 hm hr
  cases ln with
  | false=>simp [mkT]at hm
  | true=>
   simp only [mkT]at hm
   split at hm
   ·rename_i x l1 s1 hm1
    split at hm
    ·rename_i r l2 s2 hm2
     obtain ⟨rfl,e⟩:=Prod.mk.inj (Option.some.inj hm)
     obtain ⟨rfl,rfl⟩:=Prod.mk.inj e
     obtain ⟨q1,q2,q3,q4,q5,_⟩:=iha false l s x l1 s1 h1 hm1 hr
     subst q5
     obtain ⟨p1,p2,p3,p4,p5,_⟩:=ihc true _ s1 r l2 s2 _ hm2 q3.hr
     subst p5
     simp only [encT,qk5]
     rw [q4]at p1 p3 p4
     exact ⟨⟨_,_,rfl,q3h p3.hst q2 q1,p1⟩,⟨q1j p3.le p3.hst q2,p2⟩,Mk.seq q3 p3,p4,by first | rfl | trivial,λe=>by cases e⟩
    ·simp at hm
   ·simp at hm
 | ni=>
  intro ln l s w l' s' h1 hm hr
  cases ln with
  | false=>simp [mkT]at hm
  | true=>
   simp only [mkT]at hm
   obtain ⟨rfl,e⟩:=Prod.mk.inj (Option.some.inj hm)
   obtain ⟨rfl,rfl⟩:=Prod.mk.inj e
   exact ⟨rfl,trivial,Mk.skip hr (Nat.le_refl _),rfl,rfl,λe=>by cases e⟩
 | _=>intro ln l s w l' s' h1 hm; cases ln <;> simp [mkT]at hm
end
end Go.Ev

namespace Go.Ev
def msOk:List (Bool×Sh)->List Bool->Bool
 | [],_=>true
 | (b,_) :: r,ms=>decide (ms.headD false=b) && msOk r ms.tail
def lentS:Sh->Bool
 | .os _ | .rw _ | .pb _ _ | .nl _=>true
 | _=>false
def oneS:Sh->Bool
 | .x t=>szT t == 1
 | .os _ | .rw _ | .pb _ _ | .nl _ | .pt _ | .fn _ _=>true
 | _=>false
def psOk:List (Bool×Sh)->Bool
 | []=>true
 | (b,c) :: r=>(bif b then lentS c && Nat.ble (fuT c) 300 else (agS c || oneS c) && Nat.ble (fuS c) 300) && psOk r
section
variable {h:H2}{n:Nat}{h1:Heap}
def LentR(h:H2)(n:Nat)(h1:Heap)(p:V×List Nat)(q:C×List Nat×List Nat):Prop:=
 celR h p.1 [q.1]/\okV n h p.1/\(∃ t,packC h1 300 q.1=some (t,q.2.1,q.2.2))/\q.2.1.Sublist p.2/\(∀ j∈p.2,j∈q.2.1\/nilO h j)/\(∀ j∈q.2.2,j∈p.2)/\(∀ j∈p.2,j < n)/\
  match p.1 with
  | .so id=>p.2= [id]/\∃u s ver,fO h id=some (.ar u s ver)
  | .sr id=>p.2= [id]/\∃u s,fO h id=some (.rw u s none)
  | .op id _ _=>id∈p.2/\¬nilO h id
  | .nl _=>True
  | _=>False
def LentL(h:H2)(n:Nat)(h1:Heap):List (V×List Nat)->List (C×List Nat×List Nat)->Prop
 | [],l=>l= []
 | p :: r,l=>∃q m,l=q :: m/\LentR h n h1 p q/\LentL h n h1 r m
theorem qsl{v w:V}{l:List Nat}(hf:frzV h v=some (w,l)):agV v=agV w:=by
 cases v with
 | so id=>
  simp only [frzV]at hf
  split at hf
  ·obtain ⟨rfl,_⟩:=Prod.mk.inj (Option.some.inj hf); rfl
  ·simp at hf
 | sr id=>
  simp only [frzV]at hf
  split at hf
  ·obtain ⟨rfl,_⟩:=Prod.mk.inj (Option.some.inj hf); rfl
  ·simp at hf
 | sb id ver lo t r=>simp only [frzV,slV]at hf; obtain ⟨rfl,_⟩:=Prod.mk.inj (Option.some.inj hf); rfl
 | rc l=>
  simp only [frzV]at hf
  split at hf
  ·obtain ⟨rfl,_⟩:=Prod.mk.inj (Option.some.inj hf); rfl
  ·simp at hf
 | co a r=>
  simp only [frzV]at hf
  split at hf
  ·obtain ⟨rfl,_⟩:=Prod.mk.inj (Option.some.inj hf); rfl
  ·simp at hf
 | fn z f l=>cases z <;> simp [frzV]at hf; rw [<- hf.1]
 | _=>first | (simp [frzV]at hf; done) | (simp [frzV]at hf; rw [<- hf.1])
theorem qqw{c:Sh}{v:V}{l:List V}{i:List Nat}{x:TV}(hr:HR n h1 h)(hl:lentS c=true)(hf:fuT c<=300)(ha:argT h c false v=some (l,i))(hx:tvR h v x)(hk:okV n h v):
  ∃cc t own rd,x= .c cc/\packC h1 300 cc=some (t,own,rd)/\(∀ r,encT c (l++r)=([t],r))/\LentR h n h1 (v,i) (cc,own,rd):=by
 have hp:plV v/\agV v=false:=by
  cases c <;> simp [lentS]at hl
  all_goals (cases v <;> first | exact ⟨trivial,rfl⟩ | (simp [argT]at ha; done))
 obtain ⟨cc,rfl,hc⟩:=q2w (tvR_1 hp.1 hx) hp.2
 obtain ⟨ts,own,rd,g1,g2,g3,g4,g5,g6,g7⟩:=qbd hr c false v l i [cc] ha hc hk
 have e:=g1 301 (by omega)
 simp only [packL,q5q]at e
 split at e
 ·rename_i t a b x' b' j hp1 hp2
  obtain ⟨rfl,e2⟩:=Prod.mk.inj (Option.some.inj hp2)
  obtain ⟨rfl,rfl⟩:=Prod.mk.inj e2
  clear e2
  clear hp2
  obtain ⟨rfl,e3⟩:=Prod.mk.inj (Option.some.inj e)
  obtain ⟨rfl,rfl⟩:=Prod.mk.inj e3
  refine ⟨cc,t,_,_,rfl,by simpa using hp1,g2,hc,hk,⟨t,by simpa using hp1⟩,g3,g4,g5,g7, ?_⟩
  cases v with
  | so id=>
   cases c with
   | os t=>
    simp only [argT]at ha
    split at ha
    ·rename_i u s ver ho
     split at ha
     ·obtain ⟨_,rfl⟩:=Prod.mk.inj (Option.some.inj ha)
      exact ⟨rfl,u,s,ver,ho⟩
     ·simp at ha
    ·simp at ha
   | _=>simp [argT,castV,lentS]at ha hl
  | sr id=>
   cases c with
   | rw t=>
    simp only [argT]at ha
    split at ha
    ·rename_i u s ho
     split at ha
     ·obtain ⟨_,rfl⟩:=Prod.mk.inj (Option.some.inj ha)
      exact ⟨rfl,u,s,ho⟩
     ·simp at ha
    ·simp at ha
   | _=>simp [argT,castV,lentS]at ha hl
  | op id u p=>
   cases c with
   | pb t c=>
    cases p with
    | cons=>simp [argT]at ha
    | nil=>
     simp only [argT]at ha
     split at ha
     ·rename_i w q ho
      obtain ⟨_,ha2⟩:=q00 ha
      split at ha2
      ·obtain ⟨_,rfl⟩:=Prod.mk.inj (Option.some.inj ha2)
       refine ⟨by simp, ?_⟩
       rintro (⟨u',v',e⟩ | ⟨u',ln',e⟩)
       ·rcases e with e | e <;> rw [ho]at e <;> simp at e
       ·rw [ho]at e; cases e
      ·simp at ha2
     ·simp at ha
   | _=>simp [argT,castV,lentS]at ha hl
  | nl k=>trivial
  | _=>(cases c <;> simp [lentS]at hl <;> simp [argT]at ha)
 ·simp at e
theorem qgp(hr:HR n h1 h):∀(ps:List (Bool×Sh)) (vs:List V) (ms:List Bool) (m:List V) (j:List Nat) (q:List (V×List Nat)) (xs:List TV),q6m h ps vs=some (m,j,q)->tvsR h vs xs->(∀ w∈vs,okV n h w)->(∀ w∈vs,alv h w=true)->msOk ps ms=true->psOk ps=true->
  ∃ids lent,q1p h1 xs ms=some (encAs ps m,ids,lent)/\(∀ i∈ids,i∈j/\¬nilO h i)/\(∀ i∈j,i∈ids\/nilO h i)/\LentL h n h1 q lent:=by
 intro ps
 induction ps with
 | nil=>
  intro vs ms m j q xs ha hx hk hal hm hp
  cases vs with
  | cons=>simp [q6m]at ha
  | nil=>
   obtain ⟨rfl,e⟩:=Prod.mk.inj (Option.some.inj ha)
   obtain ⟨rfl,rfl⟩:=Prod.mk.inj e
   obtain rfl:=q3x hx
   exact ⟨[], [],rfl,λi hi=>by simp at hi,λi hi=>by simp at hi,rfl⟩
 | cons p ps ih=>
  obtain ⟨b,c⟩:=p
  intro vs ms m j q xs ha hx hk hal hm hp
  cases vs with
  | nil=>simp [q6m]at ha
  | cons v vs=>
   obtain ⟨x,ys,rfl,hx1,hx2⟩:=q1g hx
   simp only [msOk,Bool.and_eq_true,decide_eq_true_eq]at hm
   simp only [psOk,Bool.and_eq_true]at hp
   simp only [q6m]at ha
   split at ha
   ·rename_i m' j' q' hrest
    obtain ⟨ids,lent,e1,e2,e3,e4⟩:=ih vs ms.tail m' j' q' ys hrest hx2 (λw hw=>hk w (by simp [hw])) (λw hw=>hal w (by simp [hw])) hm.2 hp.2
    cases b with
    | true=>
     simp only [cond_true]at ha
     split at ha
     ·rename_i l i ha2
      obtain ⟨rfl,e⟩:=Prod.mk.inj (Option.some.inj ha)
      obtain ⟨rfl,rfl⟩:=Prod.mk.inj e
      have hp1:=hp.1
      simp only [cond_true,Bool.and_eq_true,Nat.ble_eq]at hp1
      obtain ⟨cc,t,own,rd,rfl,f1,f2,f3⟩:=qqw hr hp1.1 hp1.2 ha2 hx1 (hk v (by simp))
      refine ⟨ids,(cc,own,rd) :: lent, ?_,e2,e3,⟨_,_,rfl,f3,e4⟩⟩
      rw [ea_mt f1 hm.1 e1]
      simp only [encAs,f2,List.headD_cons]
     ·simp at ha
    | false=>
     simp only [cond_false]at ha
     split at ha
     ·rename_i l i ha2
      obtain ⟨rfl,e⟩:=Prod.mk.inj (Option.some.inj ha)
      obtain ⟨rfl,rfl⟩:=Prod.mk.inj e
      have hp1:=hp.1
      simp only [cond_false,Bool.and_eq_true,Nat.ble_eq,Bool.or_eq_true]at hp1
      have hpl:plV v:=by
       cases v <;> first | trivial | (cases c <;> simp [argD,frzV]at ha2)
      cases hs:agS c with
      | true=>
       cases c with
       | x t=>
        simp only [argD]at ha2
        split at ha2
        ·rename_i w l' hw
         split at ha2
         ·rename_i y hy
          obtain ⟨rfl,rfl⟩:=Prod.mk.inj (Option.some.inj ha2)
          obtain ⟨cs,hc,h3,h4⟩:=tvR_1 hpl hx1
          obtain ⟨ds,is,f1,f2,f3,f4,_⟩:=q8g hr v w l' cs hw hc (hk v (by simp)) (hal v (by simp))
          have e5:=q5y (q1v w false t y _ hy f2)
          subst e5
          refine ⟨is++ids,lent, ?_,λk hk=> ?_,λk hk=> ?_,e4⟩
          ·rw [h3 (((qsl hw).trans (qc7 hy)).trans hs),qwb f1 hm.1 e1]
           simp only [encAs,hs,cond_true]
           rfl
          ·rcases List.mem_append.1 hk with hk | hk
           ·exact ⟨List.mem_append_left _ (f3 k hk).1,(f3 k hk).2⟩
           ·exact ⟨List.mem_append_right _ (e2 k hk).1,(e2 k hk).2⟩
          ·rcases List.mem_append.1 hk with hk | hk
           ·exact (f4 k hk).imp (List.mem_append_left _) (λq=>q)
           ·exact (e3 k hk).imp (List.mem_append_right _) (λq=>q)
         ·simp at ha2
        ·simp at ha2
       | st c=>simp [argD]at ha2
       | _=>simp [agS]at hs
      | false=>
       have hag:agV v=false:=by
        cases c with
        | x t=>
         simp only [argD]at ha2
         split at ha2
         ·rename_i w l' hw
          split at ha2
          ·rename_i y hy
           exact ((qsl hw).trans (qc7 hy)).trans hs
          ·simp at ha2
         ·simp at ha2
        | _=>cases v <;> first | rfl | (simp [argD]at ha2; done) | (simp [agS]at hs; done) | (simp [oneS,agS]at hp1; done)
       obtain ⟨cs,hc,h3,h4⟩:=tvR_1 hpl hx1
       obtain ⟨ds,is,g1,g2,g3,g4,g5⟩:=qlv hr c v l i cs ha2 hc (hk v (by simp)) (hal v (by simp))
       refine ⟨is++ids,lent, ?_,λk hk=> ?_,λk hk=> ?_,e4⟩
       ·obtain ⟨cc,rfl,rfl⟩:=h4 hag
        have e:=g1 301 (by omega)
        have en:viewL h1 300 []=some ([], []):=rfl
        simp only [viewL,en]at e
        split at e
        ·rename_i d a xs' b' hv1 hv2
         obtain ⟨rfl,rfl⟩:=Prod.mk.inj (Option.some.inj hv2)
         clear hv2
         obtain ⟨rfl,rfl⟩:=Prod.mk.inj (Option.some.inj e)
         rw [ea_c hv1 hm.1 e1]
         simp only [encAs,hs,g2,cond_false,List.headD_cons,List.append_nil]
        ·simp at e
       ·rcases List.mem_append.1 hk with hk | hk
        ·exact ⟨List.mem_append_left _ (g3 k hk).1,(g3 k hk).2⟩
        ·exact ⟨List.mem_append_right _ (e2 k hk).1,(e2 k hk).2⟩
       ·rcases List.mem_append.1 hk with hk | hk
        ·exact (g4 k hk).imp (List.mem_append_left _) (λq=>q)
        ·exact (e3 k hk).imp (List.mem_append_right _) (λq=>q)
     ·simp at ha
   ·simp at ha
end
end Go.Ev

namespace Go.Ev
section
variable {h:H2}{n:Nat}{h1:Heap}
structure Bk (s s':S2) (h1:Heap) (I:List Nat) (u:Upd):Prop where
 hr:HR s'.next (u++h1) s'.heap
 hst:HSt s.next s.heap s'.heap
 env:s'.env=s.env
 gh:s'.gh=s.gh
 le:s.next<=s'.next
 keys:∀p∈u,p.1∈I\/(s.next<=p.1/\p.1 < s'.next)
 nb:∀i,i < s.next->fO s.heap i=none->fO s'.heap i=none
 wo:∃W,s'.wo=W++s.wo/\(∀ p∈u,p.1∈W)/\∀i,i∉W->fO s'.heap i=fO s.heap i
theorem Bk.refl{s:S2}(hr:HR s.next h1 s.heap):Bk s s h1 [] []:=
 ⟨hr,HSt.refl _ _,rfl,rfl,Nat.le_refl _,λp hp=>by simp at hp,λ_ _ h=>h, [],rfl,λp hp=>by simp at hp,λ_ _=>rfl⟩
theorem Bk.seq{s s1 s2:S2}{I J:List Nat}{u1 u2:Upd}(a:Bk s s1 h1 I u1)(b:Bk s1 s2 (u1++h1) J u2)(hd:∀i∈I,i∉J)(hI:∀i∈I,i < s.next)(hJ:∀j∈J,j < s.next):Bk s s2 h1 (I++J) (u1++u2):=by
 obtain ⟨a3,a4,a5,a6,a7,a8,a9,W,v1,v2,v4⟩:=a
 obtain ⟨b3,b4,b5,b6,b7,b8,b9,X,x1,x2,x4⟩:=b
 refine ⟨b3.ext λi=>qbn (λp hp q hq e=> ?_) i,a4.trans a7 b4,b5.trans a5,b6.trans a6,by omega,λp hp=> ?_,λi hi h=>b9 i (by omega) (a9 i hi h),X++W,by rw [x1,v1,List.append_assoc],λp hp=> ?_,λi hi=> ?_⟩
 ·rcases a8 p hp with h2 | h2 <;> rcases b8 q hq with h3 | h3
  ·exact hd _ h2 (e▸h3)
  ·have:=hI _ h2; omega
  ·have:=hJ _ h3; omega
  ·omega
 ·rcases List.mem_append.1 hp with hp | hp
  ·rcases a8 p hp with h2 | h2
   ·exact .inl (List.mem_append_left _ h2)
   ·exact .inr (by omega)
  ·rcases b8 p hp with h2 | h2
   ·exact .inl (List.mem_append_right _ h2)
   ·exact .inr (by omega)
 ·rcases List.mem_append.1 hp with hp | hp
  ·exact List.mem_append_right _ (v2 p hp)
  ·exact List.mem_append_left _ (x2 p hp)
 ·rw [x4 i λq=>hi (List.mem_append_left _ q),v4 i λq=>hi (List.mem_append_right _ q)]
theorem q5d:∀(i:List Nat) (s:S2),(q2f i s).env=s.env/\(q2f i s).next=s.next/\(q2f i s).gh=s.gh/\(q2f i s).wo=i++s.wo/\∀j,fO (q2f i s).heap j=if j∈i then none else fO s.heap j:=by
 intro i
 induction i with
 | nil=>intro s; exact ⟨rfl,rfl,rfl,rfl,λj=>by simp [q2f]⟩
 | cons a i ih=>
  intro s
  obtain ⟨h1,h2,h3,h4,h5⟩:=ih s
  refine ⟨h1,h2,h3,by simp [q2f,updO,h4],λj=> ?_⟩
  simp only [q2f,updO,q0g,h5]
  by_cases e:a=j
  ·subst e; simp
  ·simp [e,Ne.symm e]
theorem HSt.sub{g:H2}(hs:∀i o,fO g i=some o->fO h i=some o):HSt n h g:=⟨λi o _ ho=> .inl ⟨o,hs i o ho,OSt.refl _⟩⟩
theorem HR.sub{g:H2}(hr:HR n h1 h)(hs:∀i o,fO g i=some o->fO h i=some o):HR n h1 g:=
 ⟨λi o ho=>let ⟨a,b,c⟩:=hr.ob i o (hs i o ho); ⟨a,q5v (HSt.sub hs) c b,q5c (Nat.le_refl _) (HSt.sub hs) c⟩⟩
theorem qe7{i:List Nat}{s:S2}:∀j o,fO (q2f i s).heap j=some o->fO s.heap j=some o:=by
 intro j o ho
 rw [(q5d i s).2.2.2.2]at ho
 split at ho
 ·simp at ho
 ·exact ho
theorem qfa{own:List Nat}{j:Nat}(hj:j∉own):look (own.map (λi=>(i,(none:Option Ob)))++h1) j=look h1 j:=
 qav λp hp e=>by
  obtain ⟨i,hi,rfl⟩:=List.mem_map.1 hp
  exact hj (e▸hi)
theorem Bk.kill{s:S2}{i own:List Nat}(hr:HR s.next h1 s.heap)(ho:∀j∈own,j∈i):Bk s (q2f i s) h1 i (own.map λj=>(j,none)):=by
 obtain ⟨k1,k2,k3,k4,k5⟩:=q5d i s
 refine ⟨⟨λj o hj=> ?_⟩,HSt.sub qe7,k1,k3,by omega,λp hp=> ?_,λj _ h=>by rw [k5]; split <;> first | rfl | exact h,i,k4,λp hp=> ?_,λj hj=>by rw [k5,if_neg hj]⟩
 ·obtain ⟨a,b,c⟩:=(hr.sub qe7).ob j o hj
  refine ⟨by omega, ?_,by rw [k2]; exact c⟩
  have:j∉i:=λhm=>by rw [k5,if_pos hm]at hj; simp at hj
  rw [qfa λhm=>this (ho j hm)]
  exact b
 ·obtain ⟨j,hj,rfl⟩:=List.mem_map.1 hp
  exact .inl (ho j hj)
 ·obtain ⟨j,hj,rfl⟩:=List.mem_map.1 hp
  exact ho j hj
theorem q8v{α:Type}{a b:Sl α}{u:Unit}(hl:lenS a b=some u):a.isNil=b.isNil/\a.l.length=b.l.length:=by
 cases a <;> cases b <;> simp [lenS]at hl
 ·exact ⟨rfl,rfl⟩
 ·exact ⟨rfl,qeo.1 hl⟩
theorem q8q{c:C}{rd:List Nat}{x:D}{r:List (C×List Nat×List Nat)}{ts:List T}{m:Nat}:q12 m ((c, [],rd) :: r) (.d x :: ts)=q12 m r ts:=by
 simp only [q12]
theorem qcg{x:D}{t:T}{own rd:List Nat}(hp:packC h1 300 (.d x)=some (t,own,rd)):own= []:=by
 rw [qau]at hp
 obtain ⟨_,e⟩:=Prod.mk.inj (Option.some.inj hp)
 exact (Prod.mk.inj e).1.symm
theorem qq0{q:List (V×List Nat)}{v:V}{i:List Nat}(hn:(List.flatMap (λ(p:V×List Nat)=>p.2) ((v,i) :: q)).Nodup):(∀ j∈i,j∉List.flatMap (λ(p:V×List Nat)=>p.2) q)/\(List.flatMap (λ(p:V×List Nat)=>p.2) q).Nodup:=by
 simp only [List.flatMap_cons]at hn
 exact ⟨λj hj hm=>(List.nodup_append.1 hn).2.2 j hj j hm rfl,(List.nodup_append.1 hn).2.1⟩
theorem LentL.lt:∀ {q:List (V×List Nat)} {lent:List (C×List Nat×List Nat)},LentL h n h1 q lent->∀j∈List.flatMap (λ(p:V×List Nat)=>p.2) q,j < n:=by
 intro q
 induction q with
 | nil=>intro lent _ j hj; simp at hj
 | cons p q ih=>
  rintro lent ⟨x,m,rfl,hx,hm⟩ j hj
  simp only [List.flatMap_cons,List.mem_append]at hj
  rcases hj with hj | hj
  ·exact hx.2.2.2.2.2.2.1 j hj
  ·exact ih hm j hj
theorem qq1{szi m id len k:Nat}{rows:List (Option (List (List D)))}{rd:List Nat}{r:List (C×List Nat×List Nat)}{ts:List T}{w:Upd}(hl:rows.length=len)(hr:q12 m r ts=some (w,k)):
  q12 m ((.osl 1 id 0 len, [id],rd) :: r) (.sls szi rows :: ts)=some ((id,some (.nst szi (rows.map q51))) :: w,k):=by
 simp only [q12,hl,hr,and_self,if_true]
theorem qcb{β:Type}{z:β}(hr0:HR n h1 h):∀(os:List Sh) (q:List (V×List Nat)) (lent:List (C×List Nat×List Nat)) (l:List V) (s:S2) (H:Heap) (k:S2->Option β),backV os q l s k=some z->LentL h n h1 q lent->n<=s.next->HR s.next H s.heap->HSt n h s.heap->
  (List.flatMap (λ(p:V×List Nat)=>p.2) q).Nodup->∃s1 bu,k s1=some z/\q12 s.next lent (encTs os l)=some (bu,s1.next)/\Bk s s1 H (List.flatMap (λ(p:V×List Nat)=>p.2) q) bu:=by
 intro os
 induction os with
 | nil=>
  intro q lent l s H k hb hl hn hr hst hnd
  cases q with
  | cons p q=>simp [backV]at hb
  | nil=>
   cases l with
   | cons=>simp [backV]at hb
   | nil=>
    obtain rfl:lent= []:=hl
    exact ⟨s, [],hb,rfl,Bk.refl hr⟩
 | cons o os ih=>
  intro q lent l s H k hb hl hn hr hst hnd
  cases q with
  | nil=>cases o <;> simp [backV]at hb
  | cons p q=>
   obtain ⟨v,i⟩:=p
   obtain ⟨⟨c,own,rd⟩,m,rfl,⟨hc,hkv,⟨tp,hpk⟩,hsub,hcov,hrd,hlt,hsh⟩,hl2⟩:=hl
   obtain ⟨hd,hnd2⟩:=qq0 hnd
   have hI:∀j∈i,j < s.next:=λj hj=>by have:j < n:=hlt j hj; omega
   have hJ:∀j∈List.flatMap (λ(p:V×List Nat)=>p.2) q,j < s.next:=λj hj=>by have:=hl2.lt j hj; omega
   cases o with
   | nl kk=>
    cases i with
    | cons=>simp [backV]at hb
    | nil=>
     simp only [backV]at hb
     obtain ⟨s1,bu,e1,e2,e3⟩:=ih q m l s H k hb hl2 hn hr hst hnd2
     have:own= []:=List.sublist_nil.1 hsub
     subst this
     exact ⟨s1,bu,e1,by simp only [encTs,encT,List.headD_cons,q8q]; exact e2,by simpa using e3⟩
   | gn=>
    simp only [backV]at hb
    obtain ⟨k1,k2,k3,k4,k5⟩:=q5d i s
    have b1:Bk s (q2f i s) H i (own.map λj=>(j,none)):=Bk.kill hr λj hj=>hsub.subset hj
    obtain ⟨s1,bu,e1,e2,e3⟩:=ih q m l (q2f i s) _ k hb hl2 (by omega) b1.hr (hst.trans hn b1.hst) hnd2
    rw [k2]at e2
    exact ⟨s1,_,e1,by simp only [encTs,encT,List.headD_cons]; exact qmf e2,by simpa using b1.seq e3 hd hI hJ⟩
   | os t=>
    cases v with
    | nl kk=>
     cases kk with
     | succ=>cases l with
      | nil=>simp [backV]at hb
      | cons w l=>cases w <;> simp [backV]at hb
     | zero=>
      cases i with
      | cons=>cases l with
       | nil=>simp [backV]at hb
       | cons w l=>cases w <;> simp [backV]at hb
      | nil=>
       match l with
       | .x (.sl u) v :: l=>
        simp only [backV]at hb
        split at hb
        ·rename_i v' hv
         obtain ⟨e,rfl⟩:=q0h hv
         cases e
         obtain ⟨_,hls,hb2⟩:=bnd hb
         obtain ⟨hni,_⟩:=q8v hls
         obtain ⟨s1,bu,e1,e2,e3⟩:=ih q m l s H k hb2 hl2 hn hr hst hnd2
         have:own= []:=List.sublist_nil.1 hsub
         subst this
         refine ⟨s1,bu,e1, ?_,by simpa using e3⟩
         cases v with
         | mk=>simp [Sl.isNil]at hni
         | nil=>simp only [encTs,encT,List.headD_cons,slT,q8q]; exact e2
        ·simp at hb
       | [] | .kb _ :: _ | .nl _ :: _ | .so _ :: _ | .sr _ :: _ | .sb _ _ _ _ _ :: _ | .op _ _ _ :: _ | .ep _ _ _ _ :: _ | .pt _ _ :: _ | .fn _ _ _ :: _ | .om _ :: _ | .rc _ :: _ | .tp _ :: _ | .ni :: _ | .co _ _ :: _ | .fl _ :: _ | .no :: _ | .gn :: _=>simp [backV]at hb
       | .x (.i _) _ :: _ | .x .b _ :: _ | .x .s _ :: _ | .x (.f _) _ :: _ | .x (.mp _ _) _ :: _ | .x .un _ :: _ | .x (.pr _ _) _ :: _ | .x (.st _) _ :: _ | .x (.ar _ _) _ :: _ | .x (.o _) _ :: _=>simp [backV]at hb
    | so id=>
     match l with
     | .x (.sl u) v :: l=>
      simp only [backV]at hb
      split at hb
      ·rename_i w old ver v' ho hv
       obtain ⟨e,rfl⟩:=q0h hv
       cases e
       split at hb
       ·rename_i v2 hv2
        obtain ⟨e,rfl⟩:=q0h hv2
        cases e
        obtain ⟨_,hls,hb2⟩:=bnd hb
        obtain ⟨hni,hln⟩:=q8v hls
        obtain ⟨rfl,u0,s0,ver0,ho0⟩:=hsh
        have hid:id < n:=hkv
        obtain ⟨o1,ho1,hos⟩:=(hst.ob id _ hid ho).resolve_right (by simp [isB])
        rw [ho0]at ho1
        obtain rfl:=Option.some.inj ho1
        obtain ⟨_,rfl,hn1,hn2,_⟩:=hos
        obtain ⟨cc,ece,hcc⟩:=hc
        obtain rfl:=List.singleton_inj.1 ece
        have ec:=hcc.1 _ (q4l (.inl ho0))
        obtain ⟨q1,q2,q3⟩:=(hr.ob id _ ho).2.1
        have hosn:OSt (.ar u0 old ver) (.ar u0 v (ver+1)):=⟨Nat.le_succ _,rfl,hni.symm,hln.symm,λe=>by omega⟩
        have key:∀(uu:Upd),(∀ p∈uu,p.1=id)->(∀ l,v= .mk l->look (uu++H) id=some (.arr (szT u0) (l.map (encE u0))))->Bk s (updO s id (some (.ar u0 v (ver+1)))) H [id] uu:=by
         intro uu hu hlk
         have d:=q8c (x:= .tup []) (v:= .no) (ids:= []) (l:= []) hr ho hni.symm hln.symm hu hlk (λ_=>rfl) (λ_ _=>trivial) (λi hi=>by simp at hi)
         exact ⟨d.hr,d.hst,rfl,rfl,Nat.le_refl _,λp hp=> .inl (by simp [hu p hp]),d.nb, [id],rfl,λp hp=>by simp [hu p hp],λj hj=>by simp only [updO]; rw [q0g,if_neg λe=>hj (by simp [e])]⟩
        cases v with
        | nil=>
         have b1:=key [] (λp hp=>by simp at hp) (λl e=>by cases e)
         obtain ⟨s1,bu,f1,f2,e3⟩:=ih q m l _ _ k hb2 hl2 hn b1.hr (hst.trans hn b1.hst) hnd2
         have hnil:s0.isNil=true:=by rw [hn1,<- hni]; rfl
         cases s0 with
         | mk=>simp [Sl.isNil]at hnil
         | nil=>
          subst ec
          have:=qcg hpk
          subst this
          refine ⟨s1,bu,f1, ?_,by simpa using b1.seq e3 hd hI hJ⟩
          simp only [encTs,encT,List.headD_cons,slT,q8q]; exact f2
        | mk vl=>
         have b1:=key [(id,some (.arr (szT u0) (vl.map (encE u0))))] (λp hp=>by simp at hp; simp [hp]) (λl e=>by cases e; rw [List.singleton_append,q0i,if_pos rfl])
         obtain ⟨s1,bu,f1,f2,e3⟩:=ih q m l _ _ k hb2 hl2 hn b1.hr (hst.trans hn b1.hst) hnd2
         have hnil:s0.isNil=false:=by rw [hn1,<- hni]; rfl
         cases s0 with
         | nil=>simp [Sl.isNil]at hnil
         | mk sl0=>
          subst ec
          have hlk:=(hr0.ob id _ ho0).2.1.2.2 sl0 rfl
          have hp2:=p_o (k:=300) hlk
          simp only [slC]at hpk
          rw [hp2]at hpk
          obtain ⟨_,e⟩:=Prod.mk.inj (Option.some.inj hpk)
          obtain ⟨rfl,rfl⟩:=Prod.mk.inj e
          refine ⟨s1,_,f1, ?_,by simpa using b1.seq e3 hd hI hJ⟩
          simp only [encTs,encT,List.headD_cons,slT,slC]
          refine qv1 ?_ f2
          simp only [Sl.l]at hn2 hln
          simp only [List.length_map]; omega
       ·simp at hb
      ·simp at hb
     | [] | .kb _ :: _ | .nl _ :: _ | .so _ :: _ | .sr _ :: _ | .sb _ _ _ _ _ :: _ | .op _ _ _ :: _ | .ep _ _ _ _ :: _ | .pt _ _ :: _ | .fn _ _ _ :: _ | .om _ :: _ | .rc _ :: _ | .tp _ :: _ | .ni :: _ | .co _ _ :: _ | .fl _ :: _ | .no :: _ | .gn :: _=>simp [backV]at hb
     | .x (.i _) _ :: _ | .x .b _ :: _ | .x .s _ :: _ | .x (.f _) _ :: _ | .x (.mp _ _) _ :: _ | .x .un _ :: _ | .x (.pr _ _) _ :: _ | .x (.st _) _ :: _ | .x (.ar _ _) _ :: _ | .x (.o _) _ :: _=>simp [backV]at hb
    | _=>simp [backV]at hb
   | rw t=>
    cases v with
    | nl kk=>
     cases kk with
     | succ=>cases l with
      | nil=>simp [backV]at hb
      | cons w l=>cases w <;> simp [backV]at hb
     | zero=>
      cases i with
      | cons=>cases l with
       | nil=>simp [backV]at hb
       | cons w l=>cases w <;> simp [backV]at hb
      | nil=>
       match l with
       | .x (.sl (.sl u)) v :: l=>
        simp only [backV]at hb
        split at hb
        ·rename_i v' hv
         obtain ⟨e,rfl⟩:=q0h hv
         cases e
         obtain ⟨_,hls,hb2⟩:=bnd hb
         obtain ⟨hni,_⟩:=q8v hls
         obtain ⟨s1,bu,e1,e2,e3⟩:=ih q m l s H k hb2 hl2 hn hr hst hnd2
         have:own= []:=List.sublist_nil.1 hsub
         subst this
         refine ⟨s1,bu,e1, ?_,by simpa using e3⟩
         cases v with
         | mk=>simp [Sl.isNil]at hni
         | nil=>simp only [encTs,encT,List.headD_cons,slsT,q8q]; exact e2
        ·simp at hb
       | [] | .kb _ :: _ | .nl _ :: _ | .so _ :: _ | .sr _ :: _ | .sb _ _ _ _ _ :: _ | .op _ _ _ :: _ | .ep _ _ _ _ :: _ | .pt _ _ :: _ | .fn _ _ _ :: _ | .om _ :: _ | .rc _ :: _ | .tp _ :: _ | .ni :: _ | .co _ _ :: _ | .fl _ :: _ | .no :: _ | .gn :: _=>simp [backV]at hb
       | .x (.sl (.i _)) _ :: _ | .x (.sl .b) _ :: _ | .x (.sl .s) _ :: _ | .x (.sl (.f _)) _ :: _ | .x (.sl (.mp _ _)) _ :: _ | .x (.sl .un) _ :: _ | .x (.sl (.pr _ _)) _ :: _ | .x (.sl (.st _)) _ :: _ | .x (.sl (.ar _ _)) _ :: _ | .x (.sl (.o _)) _ :: _ | .x (.i _) _ :: _ | .x .b _ :: _ | .x .s _ :: _ | .x (.f _) _ :: _ | .x (.mp _ _) _ :: _ | .x .un _ :: _ | .x (.pr _ _) _ :: _ | .x (.st _) _ :: _ | .x (.ar _ _) _ :: _ | .x (.o _) _ :: _=>simp [backV]at hb
    | sr id=>
     match l with
     | .x (.sl (.sl u)) v :: l=>
      simp only [backV]at hb
      split at hb
      ·rename_i w old ln v' ho hv
       obtain ⟨e,rfl⟩:=q0h hv
       cases e
       split at hb
       ·rename_i v2 hv2
        obtain ⟨e,rfl⟩:=q0h hv2
        cases e
        obtain ⟨_,hls,hb2⟩:=bnd hb
        obtain ⟨hni,hln⟩:=q8v hls
        obtain ⟨rfl,u0,s0,ho0⟩:=hsh
        have hid:id < n:=hkv
        obtain ⟨o1,ho1,hos⟩:=(hst.ob id _ hid ho).resolve_right (by simp [isB])
        rw [ho0]at ho1
        obtain rfl:=Option.some.inj ho1
        obtain ⟨rfl,hn1,hn2⟩:=hos
        obtain ⟨cc,ece,hcc⟩:=hc
        obtain rfl:=List.singleton_inj.1 ece
        have ec:=hcc.1 _ (q9y ho0)
        obtain ⟨q1,q2,q3⟩:=(hr.ob id _ ho).2.1
        have hosn:OSt (.rw u0 old ln) (.rw u0 v none):=⟨rfl,hni.symm,hln.symm⟩
        have key:∀(uu:Upd),(∀ p∈uu,p.1=id)->(∀ l,v= .mk l->look (uu++H) id=some (.nst (szT u0) (q0z u0 l none)))->Bk s (updO s id (some (.rw u0 v none))) H [id] uu:=by
         intro uu hu hlk
         have d:=qp1 (x:= .tup []) (v:= .no) (ids:= []) (l:= []) hr ho hosn hu ⟨q1,q2,hlk⟩ trivial rfl trivial (λi hi=>by simp at hi)
         exact ⟨d.hr,d.hst,rfl,rfl,Nat.le_refl _,λp hp=> .inl (by simp [hu p hp]),d.nb, [id],rfl,λp hp=>by simp [hu p hp],λj hj=>by simp only [updO]; rw [q0g,if_neg λe=>hj (by simp [e])]⟩
        cases v with
        | nil=>
         have b1:=key [] (λp hp=>by simp at hp) (λl e=>by cases e)
         obtain ⟨s1,bu,f1,f2,e3⟩:=ih q m l _ _ k hb2 hl2 hn b1.hr (hst.trans hn b1.hst) hnd2
         have hnil:s0.isNil=true:=by rw [hn1,<- hni]; rfl
         cases s0 with
         | mk=>simp [Sl.isNil]at hnil
         | nil=>
          subst ec
          have:=qcg hpk
          subst this
          refine ⟨s1,bu,f1, ?_,by simpa using b1.seq e3 hd hI hJ⟩
          simp only [encTs,encT,List.headD_cons,slsT,q8q]; exact f2
        | mk vl=>
         have b1:=key [(id,some (.nst (szT u0) (q0z u0 vl none)))] (λp hp=>by simp at hp; simp [hp]) (λl e=>by cases e; rw [List.singleton_append,q0i,if_pos rfl])
         obtain ⟨s1,bu,f1,f2,e3⟩:=ih q m l _ _ k hb2 hl2 hn b1.hr (hst.trans hn b1.hst) hnd2
         have hnil:s0.isNil=false:=by rw [hn1,<- hni]; rfl
         cases s0 with
         | nil=>simp [Sl.isNil]at hnil
         | mk sl0=>
          subst ec
          have hlk:=(hr0.ob id _ ho0).2.1.2.2 sl0 rfl
          have hp2:=p_n (k:=300) hlk
          simp only [slC]at hpk hp2
          rw [hp2]at hpk
          obtain ⟨_,e⟩:=Prod.mk.inj (Option.some.inj hpk)
          obtain ⟨rfl,rfl⟩:=Prod.mk.inj e
          refine ⟨s1,_,f1, ?_,by simpa using b1.seq e3 hd hI hJ⟩
          simp only [encTs,encT,List.headD_cons,slsT,slC,List.length_map]
          rw [show q0z u0 vl none=(vl.map (rowO u0)).map q51 from (qcr vl).symm]
          refine qq1 ?_ f2
          rw [List.length_map]; exact hln.trans hn2.symm
       ·simp at hb
      ·simp at hb
     | [] | .kb _ :: _ | .nl _ :: _ | .so _ :: _ | .sr _ :: _ | .sb _ _ _ _ _ :: _ | .op _ _ _ :: _ | .ep _ _ _ _ :: _ | .pt _ _ :: _ | .fn _ _ _ :: _ | .om _ :: _ | .rc _ :: _ | .tp _ :: _ | .ni :: _ | .co _ _ :: _ | .fl _ :: _ | .no :: _ | .gn :: _=>simp [backV]at hb
     | .x (.sl (.i _)) _ :: _ | .x (.sl .b) _ :: _ | .x (.sl .s) _ :: _ | .x (.sl (.f _)) _ :: _ | .x (.sl (.mp _ _)) _ :: _ | .x (.sl .un) _ :: _ | .x (.sl (.pr _ _)) _ :: _ | .x (.sl (.st _)) _ :: _ | .x (.sl (.ar _ _)) _ :: _ | .x (.sl (.o _)) _ :: _ | .x (.i _) _ :: _ | .x .b _ :: _ | .x .s _ :: _ | .x (.f _) _ :: _ | .x (.mp _ _) _ :: _ | .x .un _ :: _ | .x (.pr _ _) _ :: _ | .x (.st _) _ :: _ | .x (.ar _ _) _ :: _ | .x (.o _) _ :: _=>simp [backV]at hb
    | _=>simp [backV]at hb
   | pb t c2=>
    cases v with
    | op id u p=>
     cases p with
     | cons=>simp [backV]at hb
     | nil=>
      simp only [backV]at hb
      split at hb
      case h_2=>simp at hb
      rename_i oid hoid
      split at hb
      ·rename_i w l' s2 hm
       obtain ⟨hf,hb2⟩:=q00 hb
       simp only [Bool.and_eq_true,decide_eq_true_eq]at hf
       obtain ⟨hf,rfl⟩:=hf
       obtain ⟨g1,g2,g3,g4,g5,_⟩:=qac c2 false l s w l' s2 H hm hr
       subst g5
       obtain ⟨hid,hnn⟩:=hsh
       have hio:id∈own:=(hcov id hid).resolve_right hnn
       obtain rfl:c= .op id 0:=by
        have e0:ofP u []=0:=by cases u <;> rfl
        have: [c]= [C.op id (ofP u [])]:=hc
        rw [e0]at this
        exact List.singleton_inj.1 this
       obtain ⟨k1,k2,k3,k4,k5⟩:=q5d i s2
       have hids:id < s2.next:=by have:=hI id hid; have:=g3.le; omega
       have b1:Bk s (updO (q2f i s2) id (some (.bx u w))) H i ((id,some (.box (unL s.next (encT c2 l).1).1)) :: (unL s.next (encT c2 l).1).2.1++own.map (λj=>(j,none))):=by
        obtain ⟨a3,a4,a5,a6,a7,a8,W,v1,v2,v3,v4⟩:=g3
        have hs2:HSt s2.next s2.heap (updO (q2f i s2) id (some (.bx u w))).heap:=HSt.trans (Nat.le_refl _) (HSt.sub qe7) HSt.bx
        refine ⟨⟨λj o hj=> ?_⟩,HSt.trans a7 a4 hs2,k1.trans a5,k3.trans a6,by simp only [updO]; omega,λp hp=> ?_,λj hj hn=>(by simp only [updO]; rw [q0g,if_neg (λe=>by rw [e,hn]at hoid; cases hoid),k5]; split <;> first | rfl | (rw [v4 j λq=>by have:=(v3 j q).1; omega]; exact hn)),id :: (i++W),by simp only [updO,k4,v1,List.cons_append,List.append_assoc],λp hp=> ?_,λj hj=> ?_⟩
        ·simp only [updO]at hj ⊢
         rw [q0g]at hj
         split at hj
         ·rename_i e
          subst e
          obtain rfl:=Option.some.inj hj
          refine ⟨by omega, ?_, ?_⟩
          ·rw [List.cons_append,List.cons_append,q0i,if_pos rfl]
           exact ⟨_,rfl,q3h hs2 g2 g1,hf⟩
          ·rw [k2]; exact q1j (Nat.le_refl _) hs2 g2
         ·rename_i e
          have hji:j∉i:=λhm=>by rw [k5,if_pos hm]at hj; simp at hj
          rw [k5,if_neg hji]at hj
          obtain ⟨c1,c2',c3⟩:=a3.ob j o hj
          refine ⟨by omega, ?_, ?_⟩
          ·rw [List.cons_append,List.cons_append,q0i,if_neg e,List.append_assoc]
           have:look ((unL s.next (encT c2 l).1).2.1++(own.map (λj=>(j,none))++H)) j=look ((unL s.next (encT c2 l).1).2.1++H) j:=by
            simp only [look,q1d]
            have:=qfa (h1:=H) (own:=own) (j:=j) λhm=>hji (hsub.subset hm)
            simp only [look,q1d]at this
            cases fnd (unL s.next (encT c2 l).1).2.1 j with
            | some x=>rfl
            | none=>exact this
           rw [this]
           exact q5v hs2 c3 c2'
          ·rw [k2]; exact q5c (Nat.le_refl _) hs2 c3
        ·rcases List.mem_append.1 hp with hp | hp
         ·rcases List.mem_cons.1 hp with rfl | hp
          ·exact .inl hid
          ·have:=a8 p hp
           exact .inr ⟨this.1,by simp only [updO]; omega⟩
         ·obtain ⟨j,hj,rfl⟩:=List.mem_map.1 hp
          exact .inl (hsub.subset hj)
        ·rcases List.mem_append.1 hp with hp | hp
         ·rcases List.mem_cons.1 hp with rfl | hp
          ·simp
          ·simp [v2 p hp]
         ·obtain ⟨j,hj,rfl⟩:=List.mem_map.1 hp
          simp [hsub.subset hj]
        ·simp only [updO]
         rw [q0g,if_neg λe=>hj (by simp [e]),k5,if_neg λq=>hj (by simp [q]),v4 j λq=>hj (by simp [q])]
       obtain ⟨s1,bu,e1,e2,e3⟩:=ih q m _ _ _ k hb2 hl2 (by have:=b1.le; omega) b1.hr (hst.trans hn b1.hst) hnd2
       have en:(updO (q2f i s2) id (some (.bx u w))).next=(unL s.next (encT c2 l).1).2.2:=by simp only [updO,k2,g4]
       rw [en]at e2
       refine ⟨s1,_,e1, ?_,by simpa using b1.seq e3 hd hI hJ⟩
       simp only [encTs,encT,List.headD_cons]
       have:=qv4 (n:=s.next) (id:=id) (own:=own) (rd:=rd) (by simpa using hio) e2
       rw [this]
       simp only [List.cons_append,List.append_assoc]
      ·simp at hb
    | _=>simp [backV]at hb
   | _=>simp [backV]at hb
end
end Go.Ev

namespace Go.Ev
def okR(c:Sh):Bool:=agS c || oneS c
section
variable {h:H2}{n:Nat}{h1:Heap}
theorem qhh{c:Sh}{l l':List V}{s s':S2}{w:V}(hm:mkT c false l s=some (w,l',s'))(ho:oneS c=true):(encT c l).1.length=1:=by
 cases c with
 | x t=>
  match l with
  | .x u v :: l=>
   simp only [mkT]at hm
   obtain ⟨hc,_⟩:=q00 hm
   simp only [Bool.and_eq_true,decide_eq_true_eq]at hc
   obtain ⟨rfl,_⟩:=hc
   simpa [encT,q05,oneS]using ho
  | [] | .kb _ :: _ | .nl _ :: _ | .so _ :: _ | .sr _ :: _ | .sb _ _ _ _ _ :: _ | .op _ _ _ :: _ | .ep _ _ _ _ :: _ | .pt _ _ :: _ | .fn _ _ _ :: _ | .om _ :: _ | .rc _ :: _ | .tp _ :: _ | .ni :: _ | .co _ _ :: _ | .fl _ :: _ | .no :: _ | .gn :: _=>simp [mkT]at hm
 | os t=>
  match l with
  | .x (.sl u) v :: l=>rfl
  | [] | .kb _ :: _ | .nl _ :: _ | .so _ :: _ | .sr _ :: _ | .sb _ _ _ _ _ :: _ | .op _ _ _ :: _ | .ep _ _ _ _ :: _ | .pt _ _ :: _ | .fn _ _ _ :: _ | .om _ :: _ | .rc _ :: _ | .tp _ :: _ | .ni :: _ | .co _ _ :: _ | .fl _ :: _ | .no :: _ | .gn :: _=>simp [mkT]at hm
  | .x (.i _) _ :: _ | .x .b _ :: _ | .x .s _ :: _ | .x (.f _) _ :: _ | .x (.mp _ _) _ :: _ | .x .un _ :: _ | .x (.pr _ _) _ :: _ | .x (.st _) _ :: _ | .x (.ar _ _) _ :: _ | .x (.o _) _ :: _=>simp [mkT]at hm
 | rw t=>
  match l with
  | .x (.sl (.sl u)) v :: l=>rfl
  | [] | .kb _ :: _ | .nl _ :: _ | .so _ :: _ | .sr _ :: _ | .sb _ _ _ _ _ :: _ | .op _ _ _ :: _ | .ep _ _ _ _ :: _ | .pt _ _ :: _ | .fn _ _ _ :: _ | .om _ :: _ | .rc _ :: _ | .tp _ :: _ | .ni :: _ | .co _ _ :: _ | .fl _ :: _ | .no :: _ | .gn :: _=>simp [mkT]at hm
  | .x (.sl (.i _)) _ :: _ | .x (.sl .b) _ :: _ | .x (.sl .s) _ :: _ | .x (.sl (.f _)) _ :: _ | .x (.sl (.mp _ _)) _ :: _ | .x (.sl .un) _ :: _ | .x (.sl (.pr _ _)) _ :: _ | .x (.sl (.st _)) _ :: _ | .x (.sl (.ar _ _)) _ :: _ | .x (.sl (.o _)) _ :: _ | .x (.i _) _ :: _ | .x .b _ :: _ | .x .s _ :: _ | .x (.f _) _ :: _ | .x (.mp _ _) _ :: _ | .x .un _ :: _ | .x (.pr _ _) _ :: _ | .x (.st _) _ :: _ | .x (.ar _ _) _ :: _ | .x (.o _) _ :: _=>simp [mkT]at hm
 | pb t c=>rfl
 | nl k=>rfl
 | _=>first | (simp [mkT]at hm; done) | (simp [oneS]at ho; done)
theorem qeq:∀(rs:List Sh) (l:List V) (s:S2) (xs:List V) (l':List V) (s':S2) (h1:Heap),mkTs rs l s=some (xs,l',s')->HR s.next h1 s.heap->rs.all okR=true->
  tvLR s'.heap (row xs) (unRs s.next (encRs rs l)).1/\(∀ x∈xs,okV s'.next s'.heap x)/\Mk s s' h1 (unRs s.next (encRs rs l)).2.1/\s'.next=(unRs s.next (encRs rs l)).2.2/\xs.length=rs.length:=by
 intro rs
 induction rs with
 | nil=>
  intro l s xs l' s' h1 hm hr _
  obtain ⟨rfl,e⟩:=Prod.mk.inj (Option.some.inj hm)
  obtain ⟨rfl,rfl⟩:=Prod.mk.inj e
  exact ⟨rfl,λx hx=>by simp at hx,Mk.skip hr (Nat.le_refl _),rfl,rfl⟩
 | cons c rs ih=>
  intro l s xs l' s' h1 hm hr hok
  simp only [List.all_cons,Bool.and_eq_true]at hok
  simp only [mkTs]at hm
  split at hm
  ·rename_i x l1 s1 hm1
   split at hm
   ·rename_i ys l2 s2 hm2
    obtain ⟨rfl,e⟩:=Prod.mk.inj (Option.some.inj hm)
    obtain ⟨rfl,rfl⟩:=Prod.mk.inj e
    obtain ⟨q1,q2,q3,q4,q5,q6⟩:=qac c false l s x l1 s1 h1 hm1 hr
    have q6:=q6 rfl
    subst q5
    have hu:unR s.next (bif agS c then .agg (encT c l).1 else .c ((encT c l).1.headD default))=(bif agS c then .agg (unL s.next (encT c l).1).1 else .c ((unL s.next (encT c l).1).1.headD default),(unL s.next (encT c l).1).2.1,(unL s.next (encT c l).1).2.2)/\tv1R s1.heap x (bif agS c then .agg (unL s.next (encT c l).1).1 else .c ((unL s.next (encT c l).1).1.headD default)):=by
     cases hs:agS c with
     | true=>exact ⟨rfl,qew (q6.trans hs) q1⟩
     | false=>
      have hl:(encT c l).1.length=1:=by
       have h2:oneS c=true:=by simpa [okR,hs]using hok.1
       exact qhh hm1 h2
      match ht:(encT c l).1,hl with
      | [t],_=>
       rw [ht]at q1
       simp only [q7z]at q1
       refine ⟨by simp only [cond_false,List.headD_cons,unR,q7z], ?_⟩
       simp only [cond_false,q7z,List.headD_cons]
       exact q0v (q6.trans hs) q1
    obtain ⟨hu1,hu2⟩:=hu
    obtain ⟨p1,p2,p3,p4,p5⟩:=ih (encT c l).2 s1 ys l2 s2 _ hm2 q3.hr hok.2
    rw [q4]at p1 p3 p4
    simp only [encRs,unRs,hu1]
    refine ⟨⟨_,_,rfl,qbr p3.hst q2 hu2,p1⟩,λy hy=> ?_,q3.seq p3,p4,by simp [p5]⟩
    rcases List.mem_cons.1 hy with rfl | hy
    ·exact q1j p3.le p3.hst q2
    ·exact p2 y hy
   ·simp at hm
  ·simp at hm
end
end Go.Ev

namespace Go.Ev
def litT:Ty->Bool
 | .i _ | .b | .s | .f _ | .un=>true
 | .pr a c=>litT a && litT c
 | .st t | .ar _ t=>litT t
 | _=>false
def litS:Sh->Bool
 | .x t=>litT t
 | _=>false
def roOk(sp:Spc):Bool:=sp.ps.all (λp=> !p.1) && sp.al.all (λw=>w.1.all litS && w.2.isEmpty)
def wyOk(sp:Spc):Bool:=msOk sp.ps sp.muts && psOk sp.ps && sp.al.all (λw=>w.1.all okR) && (!sp.ro || roOk sp)
def wayQ(Q:List Sh->List Sh->List V->Prop):(r o:List Sh)->(w:Wy)->SumA.SumB r o w->Prop
 | r,o, [],z=>Q r o (untV (cods r++cods o) z)
 | r,o,(r',o') :: w,z=>match z with
  | .inl z=>Q r o (untV (cods r++cods o) z)
  | .inr z=>wayQ Q r' o' w z
def wayP(Q:List Sh->List Sh->List V->Prop):(w:Wy)->SumA w->Prop
 | [],z=>nomatch z
 | (r,o) :: w,z=>wayQ Q r o w z
def SpcOk(P:Program)(f:FuncId)(sp:Spc):Prop:=
 wyOk sp=true/\∀p z,sp.fn p=some z->wayP (λrs os l=>Good P f (encAs sp.ps (untV (cods (sp.ps.map (·.2))) p)) (encRs rs (l.take (cods rs).length)) (encTs os (l.drop (cods rs).length))) sp.al z
def TabOk(P:Program)(tb:Tab):Prop:=∀e∈tb,SpcOk P e.1 e.2
theorem TabOk.nil{P:Program}:TabOk P []:=λe he=>by simp at he
theorem TabOk.cons{P:Program}{f:FuncId}{sp:Spc}{tb:Tab}(h:SpcOk P f sp)(ht:TabOk P tb):TabOk P ((f,sp) :: tb):=λe he=>by
 rcases List.mem_cons.1 he with rfl | he
 ·exact h
 ·exact ht e he
theorem qom{β:Type}{k:List Sh->List Sh->List V->Option β}{Q:List Sh->List Sh->List V->Prop}{b:β}:∀(w:Wy) (z:SumA w),wayA k w z=some b->wayP Q w z->∃r o l,(r,o)∈w/\k r o l=some b/\Q r o l:=by
 have key:∀(w:Wy) (r o:List Sh) (z:SumA.SumB r o w),wayB k r o w z=some b->wayQ Q r o w z->∃r' o' l,(r',o')∈(r,o) :: w/\k r' o' l=some b/\Q r' o' l:=by
  intro w
  induction w with
  | nil=>intro r o z hz hq; exact ⟨r,o,_,by simp,hz,hq⟩
  | cons p w ih=>
   intro r o z hz hq
   cases z with
   | inl z=>exact ⟨r,o,_,by simp,hz,hq⟩
   | inr z=>
    obtain ⟨r',o',l,h1,h2,h3⟩:=ih p.1 p.2 z hz hq
    exact ⟨r',o',l,List.mem_cons_of_mem _ h1,h2,h3⟩
 intro w z hz hq
 cases w with
 | nil=>exact nomatch z
 | cons p w=>exact key w p.1 p.2 z hz hq
theorem qcq{u:Ty}{v:V}{y:El u}(h:castX u v=some y):v= .x u y:=by
 cases v with
 | x t v=>
  obtain ⟨rfl,rfl⟩:=q0h (show castE t u v=some y from h)
  rfl
 | _=>simp [castX]at h
theorem q77:∀(cs:List Ty) (l:List V) (p:PayL cs),tupV cs l=some p->untV cs p=l:=by
 have key:∀(r:List Ty) (a:Ty) (l:List V) (p:PayL.PayC a r),tupC a r l=some p->untC a r p=l:=by
  intro r
  induction r with
  | nil=>
   intro a l p h
   match l with
   | []=>exact nomatch (show (none:Option (PayL.PayC a []))=some p from h)
   | [v]=>rw [qcq (show castX a v=some p from h)]; rfl
   | _ :: _ :: _=>exact nomatch (show (none:Option (PayL.PayC a []))=some p from h)
  | cons c r ih=>
   intro a l p h
   match l with
   | []=>exact nomatch (show (none:Option (PayL.PayC a (c :: r)))=some p from h)
   | v :: l=>
    have h:tup2 (castX a v) (tupC c r l)=some p:=h
    cases hx:castX a v with
    | none=>rw [hx]at h; exact nomatch h
    | some x=>
     cases hy:tupC c r l with
     | none=>rw [hx,hy]at h; exact nomatch h
     | some y=>
      rw [hx,hy]at h
      obtain rfl:=Option.some.inj h
      show V.x a x :: untC c r y=v :: l
      rw [ih c l y hy,qcq hx]
 intro cs l p h
 match cs,l with
 | [], []=>rfl
 | [],_ :: _=>exact nomatch (show (none:Option (PayL []))=some p from h)
 | a :: r,l=>exact key r a l p h
section
variable {h:H2}{n:Nat}{h1:Heap}
theorem qhf{a b:List V}{x y:List TV}(ha:tvsR h a x)(hb:tvsR h b y):tvsR h (a++b) (x++y):=by
 induction a generalizing x with
 | nil=>rw [q3x ha]; exact hb
 | cons v a ih=>
  obtain ⟨c,r,rfl,h2,h3⟩:=q1g ha
  exact ⟨h2,ih h3⟩
theorem qcp:∀(v:V) (l:List V) (cs:List C),qce v=some l->celR h v cs->okV n h v->alv h v=true->tvsR h l (cs.map TV.c)/\(∀ w∈l,okV n h w)/\∀w∈l,alv h w=true:=by
 intro v
 induction v with
 | ni=>
  intro l cs hl hc _ _
  obtain rfl:=Option.some.inj hl
  obtain rfl:=hc
  exact ⟨trivial,λw hw=>by simp at hw,λw hw=>by simp at hw⟩
 | co a r iha ihr=>
  intro l cs hl hc hk hal
  simp only [qce]at hl
  obtain ⟨h1,hl⟩:=q00 hl
  simp only [Bool.and_eq_true,beq_iff_eq,Bool.not_eq_true']at h1
  split at hl
  ·rename_i l' hl'
   obtain rfl:=Option.some.inj hl
   obtain ⟨x,y,rfl,h2,h3⟩:=hc
   simp only [alv,Bool.and_eq_true]at hal
   obtain ⟨q1,q2,q3⟩:=ihr l' y hl' h3 hk.2 hal.2
   have hlen:=q1s h2
   rw [h1.1]at hlen
   match x,hlen with
   | [c],_=>
    refine ⟨⟨q0e (q0v h1.2 h2),q1⟩,λw hw=> ?_,λw hw=> ?_⟩
    ·rcases List.mem_cons.1 hw with rfl | hw
     ·exact hk.1
     ·exact q2 w hw
    ·rcases List.mem_cons.1 hw with rfl | hw
     ·exact hal.1
     ·exact q3 w hw
  ·simp at hl
 | _=>intro l cs hl; simp [qce]at hl
theorem qkr:∀(tb:Tab) (f:Nat) (vs:List V) (sp:Spc) (l:List V) (i:List Nat) (q:List (V×List Nat)),findS h f vs tb=some (sp,l,i,q)->(f,sp)∈tb/\q6m h sp.ps vs=some (l,i,q):=by
 intro tb
 induction tb with
 | nil=>intro f vs sp l i q hf; simp [findS]at hf
 | cons e tb ih=>
  obtain ⟨g,sp0⟩:=e
  intro f vs sp l i q hf
  simp only [findS]at hf
  cases hg:(g == f)with
  | false=>
   rw [hg,cond_false]at hf
   obtain ⟨h2,h3⟩:=ih f vs sp l i q hf
   exact ⟨List.mem_cons_of_mem _ h2,h3⟩
  | true=>
   rw [hg,cond_true]at hf
   obtain rfl:g=f:=by simpa using hg
   split at hf
   ·rename_i l' i' q' ha
    simp only [Option.some.injEq,Prod.mk.injEq]at hf
    obtain ⟨rfl,rfl,rfl,rfl⟩:=hf
    exact ⟨by simp,ha⟩
   ·obtain ⟨h2,h3⟩:=ih g vs sp l i q hf
    exact ⟨List.mem_cons_of_mem _ h2,h3⟩
theorem qjn:∀ {l:List Nat},qfn l=true->l.Nodup:=by
 intro l
 induction l with
 | nil=>intro _; exact List.nodup_nil
 | cons a l ih=>
  intro hl
  simp only [qfn,Bool.and_eq_true,Bool.not_eq_true',List.contains_eq_mem,decide_eq_false_iff_not]at hl
  exact List.nodup_cons.2 ⟨hl.1,ih hl.2⟩
theorem LentL.own:∀ {q:List (V×List Nat)} {lent:List (C×List Nat×List Nat)},LentL h n h1 q lent->
  (lent.flatMap (λ(p:C×List Nat×List Nat)=>p.2.1)).Sublist (q.flatMap (·.2))/\(∀ j∈lent.flatMap (λ(p:C×List Nat×List Nat)=>p.2.2),j∈q.flatMap (·.2)):=by
 intro q
 induction q with
 | nil=>rintro lent rfl; exact ⟨List.Sublist.refl _,λj hj=>hj⟩
 | cons p q ih=>
  rintro lent ⟨x,m,rfl,hx,hm⟩
  obtain ⟨a,b⟩:=ih hm
  simp only [List.flatMap_cons]
  refine ⟨hx.2.2.2.1.append a,λj hj=> ?_⟩
  rcases List.mem_append.1 hj with hj | hj
  ·exact List.mem_append_left _ (hx.2.2.2.2.2.1 j hj)
  ·exact List.mem_append_right _ (b j hj)
theorem qkj(hr:HR n h1 h):∀ {q:List (V×List Nat)} {lent:List (C×List Nat×List Nat)},LentL h n h1 q lent->q0s h1 lent=true:=by
 intro q
 induction q with
 | nil=>rintro lent rfl; rfl
 | cons p q ih=>
  obtain ⟨v,i⟩:=p
  rintro lent ⟨⟨c,own,rd⟩,m,rfl,hx,hm⟩
  have hw:=ih hm
  obtain ⟨hc,_,_,_,_,_,_,hsh⟩:=hx
  cases c with
  | osl sz id off len=>
   cases v with
   | so id'=>
    obtain ⟨_,u,s,ver,ho⟩:=hsh
    obtain ⟨cc,e,hcc⟩:=hc
    obtain rfl:=List.singleton_inj.1 e
    have e2:=hcc.1 _ (q4l (.inl ho))
    cases s with
    | nil=>simp [slC]at e2
    | mk l=>
     simp only [slC,C.osl.injEq]at e2
     obtain ⟨rfl,rfl,rfl,rfl⟩:=e2
     exact wh_o ((hr.ob _ _ ho).2.1.2.2 l rfl) hw
   | sr jd=>
    obtain ⟨_,u,s,ho⟩:=hsh
    obtain ⟨cc,e,hcc⟩:=hc
    obtain rfl:=List.singleton_inj.1 e
    have e2:=hcc.1 _ (q9y ho)
    cases s with
    | nil=>simp [slC]at e2
    | mk l=>
     simp only [slC,C.osl.injEq]at e2
     obtain ⟨rfl,rfl,rfl,rfl⟩:=e2
     have hl:=(hr.ob _ _ ho).2.1.2.2 l rfl
     simp only [q0s,hl,q0z,List.length_map,beq_self_eq_true,Bool.and_self,Bool.true_and]
     exact hw
   | nl k=>have: [C.osl sz id off len]= [nlC k]:=hc
           simp [nlC]at this
   | op a b2 e=>have: [C.osl sz id off len]= [C.op a (ofP b2 e)]:=hc
                simp at this
   | _=>exact hsh.elim
  | _=>exact hw
end
end Go.Ev

namespace Go.Ev
section
variable {P:Program}{h1:Heap}{β:Type}{s:S2}{k:V->S2->List Nat->Option β}{z:β}
def PrtC(P:Program)(h1:Heap)(kk:K)(xs:List TV)(s:S2)(k:V->S2->List Nat->Option β)(z:β):Prop:=
 ∃v s' l,k v s' l=some z/\∃call:Call,q5b P call/\∃x u ids m,ev1 call kk (xs.map some) h1 s.next=some (x,u,ids,m)/\Did s s' h1 x u ids m v l
theorem qu3{b:Bool}{f:Nat}{caps:V}{xf:TV}{cs:List V}(hf:tvR s.heap (.fn b f caps) xf)(hk:okV s.next s.heap (.fn b f caps))(ha:alv s.heap (.fn b f caps)=true)(hc:qce caps=some cs):
  ∃cc,fnOf (some xf)=some (f,cc)/\tvsR s.heap cs (cc.map TV.c)/\(∀ w∈cs,okV s.next s.heap w)/\∀w∈cs,alv s.heap w=true:=by
 rcases qnv hf with ⟨rfl,ds,hd,rfl⟩ | ⟨rfl,xs,hd,rfl⟩
 ·obtain ⟨a1,a2⟩:=qdp (h:=s.heap) caps ha
  exact ⟨ds.map .d,rfl,qcp caps cs _ hc (qse caps ds hd) (a2 _) a1⟩
 ·exact ⟨xs,rfl,qcp caps cs _ hc hd hk ha⟩
theorem qjb{xs:List V}{vs:List TV}{g:H2}{m:Nat}(h:tvLR g (row xs) vs)(hk:∀x∈xs,okV m g x):tvR g (retW xs) (retV vs)/\okV m g (retW xs):=by
 have hrow:∀(l:List V),(∀ x∈l,okV m g x)->okV m g (row l):=by
  intro l
  induction l with
  | nil=>intro _; trivial
  | cons a l ih=>intro hl; exact ⟨hl a (by simp),ih λx hx=>hl x (by simp [hx])⟩
 match xs with
 | []=>obtain rfl:=h; exact ⟨⟨[],rfl,rfl⟩,trivial⟩
 | [v]=>
  obtain ⟨x,ys,rfl,h2,h3⟩:=h
  obtain rfl:=h3
  exact ⟨q0e h2,hk v (by simp)⟩
 | a :: b :: l=>
  obtain ⟨x,ys,rfl,h2,h3⟩:=h
  obtain ⟨y,zs,rfl,h4,h5⟩:=h3
  exact ⟨⟨_,rfl,_,_,rfl,h2,_,_,rfl,h4,h5⟩,hrow _ hk⟩
theorem qpy:∀(t:Ty) (v:El t),litT t=true->∀d∈encE t v,∃y,d= .lit y:=by
 intro t
 induction t with
 | pr a c iha ihc=>
  intro v h d hd
  simp only [litT,Bool.and_eq_true]at h
  rcases List.mem_append.1 (show d∈encE a v.1++encE c v.2 from hd)with hd | hd
  ·exact iha _ h.1 d hd
  ·exact ihc _ h.2 d hd
 | st t ih=>intro v h d hd; exact ih v h d hd
 | ar n t ih=>
  intro v h d hd
  obtain ⟨a,_,ha⟩:=List.mem_flatMap.1 (show d∈v.1.flatMap (encE t) from hd)
  exact ih a h d ha
 | un=>intro v h d hd; exact absurd (show d∈ [] from hd) (by simp)
 | i k=>intro v h d hd; exact ⟨_,List.mem_singleton.1 (show d∈ [_] from hd)⟩
 | b=>intro v h d hd; exact ⟨_,List.mem_singleton.1 (show d∈ [_] from hd)⟩
 | s=>intro v h d hd; exact ⟨_,List.mem_singleton.1 (show d∈ [_] from hd)⟩
 | f k=>intro v h d hd; exact ⟨_,List.mem_singleton.1 (show d∈ [_] from hd)⟩
 | _=>intro v h; simp [litT]at h
theorem qpq:∀(rs:List Sh) (l:List V) (s:S2) (xs:List V) (l':List V) (s':S2),mkTs rs l s=some (xs,l',s')->rs.all litS=true->rs.all okR=true->(encRs rs l).all litR=true:=by
 intro rs
 induction rs with
 | nil=>intro l s xs l' s' _ _ _; rfl
 | cons c rs ih=>
  intro l s xs l' s' hm hl ho
  simp only [List.all_cons,Bool.and_eq_true]at hl ho
  simp only [mkTs]at hm
  split at hm
  ·rename_i x l1 s1 hm1
   split at hm
   ·rename_i ys l2 s2 hm2
    cases c with
    | x t=>
     have ho1:=ho.1
     match l with
     | .x u v :: l=>
      have hm1':=hm1
      simp only [mkT]at hm1
      obtain ⟨hc,hm3⟩:=q00 hm1
      simp only [Bool.and_eq_true,decide_eq_true_eq]at hc
      obtain ⟨rfl,_⟩:=hc
      obtain ⟨rfl,e⟩:=Prod.mk.inj (Option.some.inj hm3)
      obtain ⟨rfl,rfl⟩:=Prod.mk.inj e
      have hlit:=qpy u v hl.1
      simp only [encRs,encT,List.all_cons,Bool.and_eq_true]
      refine ⟨?_,ih _ _ _ _ _ hm2 hl.2 ho.2⟩
      cases hs:agS (.x u)with
      | true=>
       simp only [cond_true,litR,List.all_eq_true]
       intro t ht
       obtain ⟨d,hd,rfl⟩:=List.mem_map.1 ht
       obtain ⟨y,rfl⟩:=hlit d hd
       rfl
      | false=>
       have h2:oneS (.x u)=true:=by simpa [okR,hs]using ho1
       have hlen:=qhh hm1' h2
       simp only [encT,List.length_map]at hlen
       match he:encE u v,hlen with
       | [d],_=>
        obtain ⟨y,rfl⟩:=hlit d (by rw [he]; simp)
        rfl
     | [] | .kb _ :: _ | .nl _ :: _ | .so _ :: _ | .sb _ _ _ _ _ :: _ | .op _ _ _ :: _ | .ep _ _ _ _ :: _ | .pt _ _ :: _ | .fn _ _ _ :: _ | .om _ :: _ | .rc _ :: _ | .tp _ :: _ | .ni :: _ | .co _ _ :: _ | .fl _ :: _ | .no :: _ | .gn :: _=>simp [mkT]at hm1
    | _=>simp [litS]at hl
   ·simp at hm
  ·simp at hm
theorem qv5{h:H2}:∀(ps:List (Bool×Sh)) (vs:List V) (m:List V) (j:List Nat) (q:List (V×List Nat)),q6m h ps vs=some (m,j,q)->ps.all (λp=> !p.1)=true->q= []:=by
 intro ps
 induction ps with
 | nil=>
  intro vs m j q ha _
  cases vs with
  | nil=>simp [q6m]at ha; exact ha.2.2
  | cons=>simp [q6m]at ha
 | cons p ps ih=>
  obtain ⟨b,c⟩:=p
  intro vs m j q ha hb
  simp only [List.all_cons,Bool.and_eq_true,Bool.not_eq_true']at hb
  obtain ⟨rfl,hb2⟩:=hb
  cases vs with
  | nil=>simp [q6m]at ha
  | cons v vs=>
   simp only [q6m]at ha
   split at ha
   ·rename_i m' j' q' hr
    simp only [cond_false]at ha
    split at ha
    ·obtain ⟨_,e⟩:=Prod.mk.inj (Option.some.inj ha)
     obtain ⟨_,rfl⟩:=Prod.mk.inj e
     exact ih vs m' j' q' hr hb2
    ·simp at ha
   ·simp at ha
theorem qjt{tb:Tab}{ro:Bool}{muts:List Bool}{f:V}{vs:List V}{xf:TV}{xs:List TV}(htb:TabOk P tb)(hz:qdv tb ro muts f vs s k=some z)(hr:HR s.next h1 s.heap)(hf:tvR s.heap f xf)(hfk:okV s.next s.heap f)(hfa:alv s.heap f=true)
  (hx:tvsR s.heap vs xs) (hk:∀w∈vs,okV s.next s.heap w) (ha:∀w∈vs,alv s.heap w=true):PrtC P h1 (.call ro muts) (xf :: xs) s k z:=by
 cases f with
 | fn b fid caps=>
  simp only [qdv]at hz
  split at hz
  case h_2=>simp at hz
  rename_i sp pay j q hfs
  split at hfs
  case h_2=>simp at hfs
  rename_i cs hcs
  obtain ⟨hmem,hargs⟩:=qkr tb fid _ sp pay j q hfs
  obtain ⟨hwy,hgood⟩:=htb _ hmem
  simp only [wyOk,Bool.and_eq_true]at hwy
  obtain ⟨⟨⟨w1,w2⟩,w3⟩,w4⟩:=hwy
  obtain ⟨hc,hz2⟩:=q00 hz
  simp only [Bool.and_eq_true,decide_eq_true_eq]at hc
  obtain ⟨⟨⟨c1,c2⟩,c3⟩,c4⟩:=hc
  clear hz
  split at hz2
  case h_2=>simp at hz2
  rename_i p hp
  obtain ⟨zz,hzz,hz3⟩:=bnd hz2
  obtain ⟨rs,os,l,hm,hk3,hg⟩:=qom sp.al zz hz3 (hgood p zz hzz)
  rw [q77 _ _ _ hp]at hg
  obtain ⟨cc,hfn,d1,d2,d3⟩:=qu3 hf hfk hfa hcs
  rw [c2]at w1
  obtain ⟨ids,lent,e1,e2,e3,e4⟩:=qgp hr sp.ps (vs++cs) muts pay j q (xs++cc.map TV.c) hargs (qhf hx d1) (λw hw=>(List.mem_append.1 hw).elim (hk w) (d2 w)) (λw hw=>(List.mem_append.1 hw).elim (ha w) (d3 w)) w1 w2
  obtain ⟨o1,o2⟩:=e4.own
  have hnd:=qjn c3
  have hap:∀i∈List.flatMap (λ(p:V×List Nat)=>p.2) q,i∉j:=λi hi=>by simpa using List.all_eq_true.1 c4 i hi
  have hdec:decide ((lent.flatMap (λ(p:C×List Nat×List Nat)=>p.2.1)).Nodup/\(lent.flatMap (λ(p:C×List Nat×List Nat)=>p.2.1)).all (λi=> !ids.contains i)=true)=true:=by
   refine decide_eq_true ⟨o1.nodup hnd,List.all_eq_true.2 λi hi=> ?_⟩
   have:=hap i (o1.subset hi)
   simpa using λhm=>this (e2 i hm).1
  have hwl:=qkj hr e4
  have hokR:rs.all okR=true:=List.all_eq_true.1 w3 _ hm
  cases ro with
  | true=>
   have hro:sp.ro=true:=by simpa using c1
   rw [hro]at w4
   have w5:roOk sp=true:=by simpa using w4
   simp only [roOk,Bool.and_eq_true]at w5
   obtain ⟨v1,v2⟩:=w5
   have v3:=List.all_eq_true.1 v2 _ hm
   simp only [Bool.and_eq_true,List.isEmpty_iff]at v3
   obtain ⟨v3,rfl⟩:=v3
   have hq:=qv5 _ _ _ _ _ hargs v1
   subst hq
   obtain rfl:lent= []:=e4
   simp only [cond_true]at hk3
   obtain ⟨s1,bu,b1,b2,b3⟩:=qcb hr [] [] [] _ s h1 _ hk3 rfl (Nat.le_refl _) hr (HSt.refl _ _) List.nodup_nil
   obtain ⟨rfl,hs1⟩: []=bu/\s.next=s1.next:=by simpa [q12,encTs]using b2
   split at b1
   case h_2=>simp at b1
   rename_i ys l2 s2 hmk
   obtain ⟨m1,m2,m3,m4,m5⟩:=qeq rs _ s1 ys l2 s2 _ hmk b3.hr hokR
   obtain ⟨t1,t2⟩:=qjb m1 m2
   have hlit:=qpq rs _ s1 ys l2 s2 hmk v3 hokR
   refine ⟨_,_,_,b1,only fid (encAs sp.ps pay) (encRs rs (l.take (cods rs).length)) (encTs [] (l.drop (cods rs).length)),qme hg, ?_⟩
   have hld:qay h1 s.next true ids [] (some (encRs rs (l.take (cods rs).length),encTs [] (l.drop (cods rs).length)))=some (retV (unRs s.next (encRs rs (l.take (cods rs).length))).1,(unRs s.next (encRs rs (l.take (cods rs).length))).2.1,ids,(unRs s.next (encRs rs (l.take (cods rs).length))).2.2):=by
    simp only [qay,hlit,encTs,List.isEmpty_nil,and_self,if_true]
   obtain ⟨g1,g2⟩:=qmc (ro:=true) hfn (q40 xs) e1 hwl hdec hld
   rw [<- hs1]at t1 m3 m4
   refine ⟨_,_,_,_,qes g1 g2, ?_⟩
   obtain ⟨W1,x1,x2,x3⟩:=b3.wo
   obtain ⟨W2,y1,y2,y3,y4⟩:=m3.wo
   refine ⟨t1,t2,m3.hr,b3.hst.trans b3.le m3.hst,by rw [m3.env,b3.env],by rw [m3.gh,b3.gh],by omega,by have:=b3.le; have:=m3.le; omega,λi hi=>List.mem_append_left _ (e2 i hi).1,λi hi h=>(by rw [y4 i λq=>by have:=(y3 i q).1; have:=b3.le; omega]; exact b3.nb i hi h),W2++W1,by rw [y1,x1]; simp only [List.append_assoc],λp hp=>List.mem_append_left _ (y2 p hp),λi hi=> ?_⟩
   simp only [List.mem_append,not_or]at hi
   rw [y4 i hi.1,x3 i hi.2]
  | false=>
   simp only [cond_false]at hk3
   split at hk3
   case h_2=>simp at hk3
   rename_i s0 hs0
   obtain ⟨fu,f1,f2,f3,f4,f5,f6,f7,f8,f9⟩:=qhc (s0:=s) rfl hr j s0 ids ids hs0 e2 e3
   obtain ⟨s1,bu,b1,b2,b3⟩:=qcb hr os q lent _ s0 (fu++h1) _ hk3 e4 (by omega) (by rw [f6]; exact f2) f3 hnd
   split at b1
   case h_2=>simp at b1
   rename_i ys l2 s2 hmk
   obtain ⟨m1,m2,m3,m4,m5⟩:=qeq rs _ s1 ys l2 s2 _ hmk b3.hr hokR
   obtain ⟨t1,t2⟩:=qjb m1 m2
   rw [f6]at b2
   refine ⟨_,_,_,b1,only fid (encAs sp.ps pay) (encRs rs (l.take (cods rs).length)) (encTs os (l.drop (cods rs).length)),qme hg, ?_⟩
   have hld:=land (rs:=encRs rs (l.take (cods rs).length)) f1 b2
   obtain ⟨g1,g2⟩:=qmc (ro:=false) hfn (q40 xs) e1 hwl hdec hld
   refine ⟨_,_,_,_,qes g1 g2, ?_⟩
   obtain ⟨W1,x1,x2,x3⟩:=b3.wo
   obtain ⟨W2,y1,y2,y3,y4⟩:=m3.wo
   refine ⟨t1,t2, ?_,(f3.trans (Nat.le_of_eq f6.symm) b3.hst).trans (by have:=b3.le; omega) m3.hst,by rw [m3.env,b3.env,f4],by rw [m3.gh,b3.gh,f5],by omega,by have:=b3.le; have:=m3.le; omega,λi hi=> ?_,λi hi h=>(by rw [y4 i λq=>by have:=(y3 i q).1; have:=b3.le; omega]; exact b3.nb i (by omega) ((f9 i λq=>qoo rfl hs0 i q h).trans h)),W2++W1++j,by rw [y1,x1,f7]; simp only [List.append_assoc],λp hp=> ?_,λi hi=> ?_⟩
   ·have:=m3.hr
    simpa only [List.append_assoc]using this
   ·rcases List.mem_append.1 hi with hi | hi
    ·exact List.mem_append_left _ (e2 i hi).1
    ·exact List.mem_append_right _ (o2 i hi)
   ·simp only [List.append_assoc,List.mem_append]at hp ⊢
    rcases hp with hp | hp | hp
    ·exact .inl (y2 p hp)
    ·exact .inr (.inl (x2 p hp))
    ·exact .inr (.inr (f8 p hp))
   ·simp only [List.append_assoc,List.mem_append,not_or]at hi
    rw [y4 i hi.1,x3 i hi.2.1,f9 i hi.2.2]
 | _=>simp [qdv]at hz
end
end Go.Ev

namespace Go.Ev
def GlbOk:Prop:=∀g v,glbV g=some v->∃d,glb g=some d/\∀h n,tvR h v (.c (.d d))/\okV n h v/\alv h v=true
theorem qae{n:Nat}{h h':H2}(hs:HSt n h h')(hnb:∀i,i < n->fO h i=none->fO h' i=none):∀ {v:V},okV n h v->alv h' v=true->alv h v=true:=by
 have key:∀id,id < n->(match fO h' id with | some _=>true | none=>false)=true->(match fO h id with | some _=>true | none=>false)=true:=by
  intro id hid ha
  cases ho:fO h id with
  | some _=>rfl
  | none=>rw [hnb id hid ho]at ha; simp at ha
 intro v
 induction v with
 | so id=>
  intro hk ha
  have hk:id < n:=hk
  simp only [alv]at ha ⊢
  split at ha
  ·rename_i t s v ho
   obtain ⟨s0,v0,h1,_⟩:=q94 hs hk (.inl ho)
   rcases h1 with h1 | h1 <;> rw [h1]
  ·rename_i t s v ho
   obtain ⟨s0,v0,h1,_⟩:=q94 hs hk (.inr ho)
   rcases h1 with h1 | h1 <;> rw [h1]
  ·simp at ha
 | sr id=>
  intro hk ha
  have hk:id < n:=hk
  simp only [alv]at ha ⊢
  split at ha
  ·rename_i t s ln ho
   obtain ⟨s0,ln0,h1,_⟩:=qll hs hk ho
   rw [h1]
  ·simp at ha
 | sb id ver lo t r=>
  rintro ⟨hid,hk⟩ ha
  obtain ⟨hd,ha⟩:=Bool.and_eq_true_iff.1 ha
  have ha:alvB h' id ver=true:=ha
  obtain ⟨u,s,ho⟩:=q3d ha
  obtain ⟨s0,v0,h3,h4,_,_⟩:=q94 hs hid ho
  obtain ⟨h7,_⟩:=hk u s0 v0 h3
  have:v0=ver:=by omega
  subst this
  refine Bool.and_eq_true_iff.2 ⟨hd, ?_⟩
  rcases h3 with h3 | h3 <;> rw [h3] <;> simp
 | op id t p=>rintro ⟨hid,_⟩ ha; exact key id hid ha
 | ep id m t p=>rintro ⟨hid,_⟩ ha; exact key id hid ha
 | om id=>intro hid ha; exact key id hid ha
 | fn z f l ih=>
  intro hk ha
  cases z with
  | true=>exact ha
  | false=>exact ih hk ha
 | rc l ih=>intro hk ha; exact ih hk ha
 | tp l ih=>intro hk ha; exact ih hk ha
 | co a r iha ihr=>
  rintro ⟨h1,h2⟩ ha
  simp only [alv,Bool.and_eq_true]at ha ⊢
  exact ⟨iha h1 ha.1,ihr h2 ha.2⟩
 | _=>intro _ ha; exact ha
def ghR(h:H2):V->List C->Prop
 | .ni,cs=>cs= []
 | .co a r,cs=>∃c m,cs=c :: m/\(alv h a=true->celR h a [c])/\ghR h r m
 | _,_=>False
theorem qih{n:Nat}{h h':H2}(hs:HSt n h h')(hnb:∀i,i < n->fO h i=none->fO h' i=none):∀ {v:V} {cs:List C},okV n h v->ghR h v cs->ghR h' v cs:=by
 intro v
 induction v with
 | co a r _ ihr=>
  rintro cs ⟨h1,h2⟩ ⟨c,m,rfl,h3,h4⟩
  exact ⟨c,m,rfl,λha=>q3h hs h1 (h3 (qae hs hnb h1 ha)),ihr h2 h4⟩
 | ni=>intro cs _ h; exact h
 | _=>intro cs _ h; exact h.elim
structure R2 (s1:St) (s:S2):Prop where
 env:∀t v,fnd s.env t=some v->okV s.next s.heap v/\(alv s.heap v=true\/v= .no->∃x,fnd s1.env t=some x/\tvR s.heap v x)
 hr:HR s.next s1.heap s.heap
 next:s1.next<=s.next
 gh:ghR s.heap s.gh s1.gh/\okV s.next s.heap s.gh
theorem qr3{v:Value}(hp:plain v=true)(ha:∀cs,v≠ .agg cs):cv v=some (.c (.d (.lit v))):=by
 unfold cv
 split
 ·rename_i cs; exact absurd rfl (ha cs)
 ·rw [if_pos hp]
theorem qmv{c:Value}{v:V}(hc:cvV c=some v)(h:H2)(n:Nat):∃x,cv c=some x/\tvR h v x/\okV n h v/\alv h v=true:=by
 unfold cvV at hc
 split at hc
 case h_10=>
  rename_i cs
  split at hc
  ·rename_i hp
   obtain rfl:=Option.some.inj hc
   refine ⟨.agg (cs.toList.map λv=> .d (.lit v)),by simp only [cv]; rw [if_pos hp],q0e (qew rfl ⟨hp,rfl⟩),trivial,hp⟩
  ·simp at hc
 case h_11=>simp at hc
 all_goals
  obtain rfl:=Option.some.inj hc
  exact ⟨_,qr3 rfl (λcs e=>by cases e),q0e (q0v rfl (by first | rfl | exact ⟨rfl,rfl⟩)),trivial,rfl⟩
theorem q57(hg:GlbOk){s1:St}{s:S2}(hr:R2 s1 s){o:Operand}{v:V}(ho:opV s.env s.heap o=some v):∃x,opv s1.env o=some x/\tvR s.heap v x/\okV s.next s.heap v/\alv s.heap v=true:=by
 cases o with
 | tmp t=>
  simp only [opV]at ho
  split at ho
  ·rename_i w hw
   obtain ⟨ha,ho⟩:=q00 ho
   obtain rfl:=Option.some.inj ho
   obtain ⟨h3,h4⟩:=hr.env t w hw
   obtain ⟨x,h1,h2⟩:=h4 (.inl ha)
   exact ⟨x,h1,h2,h3,ha⟩
  ·simp at ho
 | const c=>exact qmv ho _ _
 | global g=>
  obtain ⟨d,h1,h2⟩:=hg g v ho
  exact ⟨_,by simp only [opv,h1,Option.map_some],h2 _ _⟩
 | func f=>
  obtain rfl:=Option.some.inj ho
  exact ⟨_,rfl,q0e (q0v rfl ⟨[],rfl,rfl⟩),trivial,rfl⟩
structure RGo (s1:St) (s:S2) (q:Rg):Prop where
 r:R2 s1 s
 kn:∀g b,knG q.kn g=some b->fnd s1.env g=some (tB b)
 cd:∀t g b v,fnd q.cd t=some (g,b,v)->∃c,fnd s1.env g=some (tB c)/\(c=b->∃x,fnd s1.env t=some x/\tvR s.heap v x/\okV s.next s.heap v)
theorem qvx{a b:Bool}(h:tB a=tB b):a=b:=by
 simpa [tB]using h
theorem qad(hg:GlbOk){s1:St}{s:S2}{q:Rg}(hr:RGo s1 s q){gc:Option (Nat×Bool)}(hgc:∀g b,gc=some (g,b)->fnd s1.env g=some (tB b)){o:Operand}{v:V}(ho:opG s q gc o=some v):
  ∃x,opv s1.env o=some x/\tvR s.heap v x/\okV s.next s.heap v/\alv s.heap v=true:=by
 cases o with
 | tmp t=>
  simp only [opG]at ho
  split at ho
  ·rename_i g b w hw
   obtain ⟨hc,ho⟩:=q00 ho
   obtain ⟨ha,ho⟩:=q00 ho
   obtain rfl:=Option.some.inj ho
   obtain ⟨c,h1,h2⟩:=hr.cd t g b w hw
   have hb:fnd s1.env g=some (tB b):=by
    simp only [Bool.or_eq_true,decide_eq_true_eq]at hc
    rcases hc with hc | hc
    ·exact hgc g b hc
    ·exact hr.kn g b hc
   rw [h1]at hb
   obtain ⟨x,h3,h4,h5⟩:=h2 (qvx (Option.some.inj hb))
   exact ⟨x,h3,h4,h5,ha⟩
  ·exact q57 hg hr.r ho
 | const c=>exact q57 hg hr.r ho
 | global g=>exact q57 hg hr.r ho
 | func f=>exact q57 hg hr.r ho
theorem qer(hg:GlbOk){s1:St}{s:S2}{q:Rg}(hr:RGo s1 s q){gc:Option (Nat×Bool)}(hgc:∀g b,gc=some (g,b)->fnd s1.env g=some (tB b)):∀(os:List Operand) (vs:List V),opsG s q gc os=some vs->
  ∃xs,os.map (opv s1.env)=xs.map some/\tvsR s.heap vs xs/\(∀ w∈vs,okV s.next s.heap w)/\∀w∈vs,alv s.heap w=true:=by
 intro os
 induction os with
 | nil=>
  intro vs ho
  obtain rfl:=Option.some.inj ho
  exact ⟨[],rfl,trivial,λw hw=>by simp at hw,λw hw=>by simp at hw⟩
 | cons o os ih=>
  intro vs ho
  simp only [opsG]at ho
  split at ho
  ·rename_i v l hv hl
   obtain rfl:=Option.some.inj ho
   obtain ⟨x,h1,h2,h3,h4⟩:=qad hg hr hgc hv
   obtain ⟨xs,g1,g2,g3,g4⟩:=ih l hl
   refine ⟨x :: xs,by simp [h1,g1],⟨h2,g2⟩,λw hw=> ?_,λw hw=> ?_⟩
   ·rcases List.mem_cons.1 hw with rfl | hw
    ·exact h3
    ·exact g3 w hw
   ·rcases List.mem_cons.1 hw with rfl | hw
    ·exact h4
    ·exact g4 w hw
  ·simp at ho
theorem qsv{h:H2}{t:Ty}{w:V}{b:El t}{x:TV}(hd:dat t=true)(hx:tvR h w x)(hc:cst t w=some b):tvR h (.x t b) x:=by
 obtain ⟨cs,h1,h2,h3⟩:=tvR_1 (cst_1 hc) hx
 have e:=q1v w false t b cs hc h1
 have ha:=qc7 hc
 exact q0e ⟨cs,⟨hd,e⟩,λq=>h2 (ha.trans q),λq=>h3 (ha.trans q)⟩
theorem qjp{h:H2}{c:Bool}{a b v:V}{x:TV}(hm:mgV c a b=some v)(ha:alv h a=true)(hb:alv h b=true)(h1:c=true->tvR h a x)(h2:c=false->tvR h b x):tvR h v x/\∀n,okV n h v:=by
 unfold mgV at hm
 split at hm
 ·rename_i p q
  obtain rfl:=Option.some.inj hm
  refine ⟨?_,λ_=>trivial⟩
  cases c with
  | true=>rw [qcf (h1 rfl)]; exact xb _
  | false=>rw [qcf (h2 rfl)]; exact xb _
 ·rename_i t p w
  split at hm
  ·rename_i y hy
   obtain rfl:=Option.some.inj hm
   refine ⟨?_,λ_=>trivial⟩
   cases c with
   | true=>exact h1 rfl
   | false=>exact qsv ha (h2 rfl) hy
  ·simp at hm
 ·rename_i t p w
  split at hm
  ·rename_i y hy
   obtain rfl:=Option.some.inj hm
   refine ⟨?_,λ_=>trivial⟩
   cases c with
   | true=>exact qsv hb (h1 rfl) hy
   | false=>exact h2 rfl
  ·simp at hm
 ·simp at hm
theorem qdh(hg:GlbOk){e:List (Nat×V)}{h:H2}{o:Operand}{v:V}(ho:opV e h o=some v):alv h v=true:=by
 cases o with
 | tmp t=>
  simp only [opV]at ho
  split at ho
  ·obtain ⟨ha,ho⟩:=q00 ho
   obtain rfl:=Option.some.inj ho
   exact ha
  ·simp at ho
 | const c=>obtain ⟨_,_,_,_,ha⟩:=qmv ho h 0; exact ha
 | global g=>obtain ⟨d,_,h2⟩:=hg g v ho; exact (h2 h 0).2.2
 | func f=>obtain rfl:=Option.some.inj ho; rfl
theorem qmp(hg:GlbOk){s:S2}{q:Rg}{gc:Option (Nat×Bool)}{o:Operand}{v:V}(ho:opG s q gc o=some v):alv s.heap v=true:=by
 cases o with
 | tmp t=>
  simp only [opG]at ho
  split at ho
  ·obtain ⟨hc,ho⟩:=q00 ho
   obtain ⟨ha,ho⟩:=q00 ho
   obtain rfl:=Option.some.inj ho
   exact ha
  ·exact qdh hg ho
 | const c=>exact qdh (e:=s.env) (o:= .const c) hg ho
 | global g=>exact qdh (e:=s.env) (o:= .global g) hg ho
 | func f=>exact qdh (e:=s.env) (o:= .func f) hg ho
theorem qn7(hg:GlbOk){s1:St}{s:S2}{q:Rg}(hr:RGo s1 s q){gc:Option (Nat×Bool)}(hgc:∀g b,gc=some (g,b)->fnd s1.env g=some (tB b)){os:List Operand}{v:V}(hp:pickV s q gc os=some v)(c:Call)(H:Heap)(nx:Nat):
  ∃x,ev1 c .pick (os.map (opv s1.env)) H nx=some (x, [], [],nx)/\tvR s.heap v x/\okV s.next s.heap v:=by
 have one:∀(g a b:Operand) (t:Bool) (w:V),opv s1.env g=some (tB t)->opG s q gc (bif t then a else b)=some w->∃x,ev1 c .pick ([g,a,b].map (opv s1.env)) H nx=some (x, [], [],nx)/\tvR s.heap w x/\okV s.next s.heap w:=by
  intro g a b t w h1 h2
  obtain ⟨x,h3,h4,h5,_⟩:=qad hg hr hgc h2
  refine ⟨x, ?_,h4,h5⟩
  simp only [List.map_cons,List.map_nil,h1]
  cases t with
  | true=>simp only [cond_true]at h3; rw [h3]; rfl
  | false=>simp only [cond_false]at h3; rw [h3]; rfl
 unfold pickV at hp
 split at hp
 ·rename_i g a b
  split at hp
  ·rename_i _ _ t hk
   exact one _ a b t v (hr.kn g t hk) hp
  ·rename_i t hk he
   obtain ⟨x,h1,h2⟩:=(hr.r.env g _ he).2 (.inl rfl)
   rw [qcf h2]at h1; exact one _ a b t v h1 hp
  ·rename_i t hk he
   obtain ⟨x,h1,h2⟩:=(hr.r.env g _ he).2 (.inl rfl)
   ·rw [tvR_b h2]at h1
    split at hp
    ·rename_i x y hx hy
     have ax:=qmp hg hx
     have ay:=qmp hg hy
     cases t with
     | true=>
      obtain ⟨z,g1,g2,_⟩:=qad hg hr (gc:=some (g,true)) (λg' b' e=>by cases e; exact h1) hx
      obtain ⟨m1,m2⟩:=qjp hp ax ay (λ_=>g2) (λe=>by cases e)
      refine ⟨z, ?_,m1,m2 _⟩
      have h1':opv s1.env (.tmp g)=some (tB true):=h1
      simp only [List.map_cons,List.map_nil,h1',g1]
      rfl
     | false=>
      obtain ⟨z,g1,g2,_⟩:=qad hg hr (gc:=some (g,false)) (λg' b' e=>by cases e; exact h1) hy
      obtain ⟨m1,m2⟩:=qjp hp ax ay (λe=>by cases e) (λ_=>g2)
      refine ⟨z, ?_,m1,m2 _⟩
      have h1':opv s1.env (.tmp g)=some (tB false):=h1
      simp only [List.map_cons,List.map_nil,h1',g1]
      rfl
    ·simp at hp
  ·simp at hp
 ·rename_i t a b
  exact one _ a b t v rfl hp
 ·simp at hp
theorem qop{s:S2}{q:Rg}{gc:Option (Nat×Bool)}{os:List Operand}{vs:List V}(ho:opsG s q gc os=some vs)(hp:posC os=true):∀a k b,vs= [a, .x (.i k) b]->0 < b:=by
 intro a k b e
 subst e
 match os with
 | [o, .const (.int k' m)]=>
  simp only [posC,decide_eq_true_eq]at hp
  simp only [opsG,opG,opV,cvV]at ho
  split at ho
  ·rename_i v l hv hl
   simp only [Option.some.injEq]at hl
   subst hl
   simp only [Option.some.injEq,List.cons.injEq,and_true]at ho
   obtain ⟨_,e⟩:=ho
   cases e
   exact hp
  ·simp at ho
theorem qfi(hg:GlbOk){s1:St}{s:S2}{q:Rg}(hr:RGo s1 s q){gc:Option (Nat×Bool)}(hgc:∀g b,gc=some (g,b)->fnd s1.env g=some (tB b)){o:OP}{v:V}{l:List Nat}(ht:totG o s q gc=some (v,l))(c:Call)(nx:Nat):
  ∃x ids,ev1 c o.o.k (o.o.args.map (opv s1.env)) s1.heap nx=some (x, [],ids,nx)/\tvR s.heap v x/\okV s.next s.heap v/\∀i∈ids,i∈l:=by
 unfold totG at ht
 cases hpk:qnq o.o.k with
 | true=>
  rw [hpk,cond_true]at ht
  split at ht
  ·rename_i w hw
   obtain ⟨rfl,rfl⟩:=Prod.mk.inj (Option.some.inj ht)
   obtain ⟨x,h1,h2,h3⟩:=qn7 hg hr hgc hw c s1.heap nx
   have hk:o.o.k= .pick:=by
    revert hpk
    cases o.o.k <;> simp [qnq]
   rw [hk]
   exact ⟨x, [],h1,h2,h3,λi hi=>by simp at hi⟩
  ·simp at ht
 | false=>
  rw [hpk,cond_false]at ht
  split at ht
  ·rename_i vs hvs
   obtain ⟨xs,h1,h2,h3,h4⟩:=qer hg hr hgc _ _ hvs
   rw [h1]
   exact qmy hr.r.hr ht h2 h3 h4 (λhp=>qop hvs hp) c nx
  ·simp at ht
theorem qq5{P:Program}{β:Type}{tb:Tab}(htb:TabOk P tb)(hg:GlbOk){s1:St}{s:S2}{q:Rg}(hr:RGo s1 s q){gc:Option (Nat×Bool)}(hgc:∀g b,gc=some (g,b)->fnd s1.env g=some (tB b)){o:OP}{k:V->S2->List Nat->Option β}{z:β}
  (hz:exe tb o s q gc k=some z):∃v s' l,k v s' l=some z/\∃call:Call,q5b P call/\∃x u ids m,ev1 call o.o.k (o.o.args.map (opv s1.env)) s1.heap s.next=some (x,u,ids,m)/\Did s s' s1.heap x u ids m v l:=by
 unfold exe at hz
 split at hz
 ·rename_i v l ht
  obtain ⟨x,ids,h1,h2,h3,h4⟩:=qfi hg hr hgc ht q7y s.next
  exact ⟨v,s,l,hz,q7y,q79,x, [],ids,s.next,h1,Did.pure hr.r.hr h2 h3 h4⟩
 ·split at hz
  ·rename_i vs hvs
   obtain ⟨xs,h1,h2,h3,h4⟩:=qer hg hr hgc _ _ hvs
   rw [h1]
   split at hz
   ·rename_i ro muts f vs' hk
    obtain ⟨y,ys,rfl,h5,h6⟩:=q1g h2
    obtain ⟨v,s',l,e1,call,e2,x,u,ids,m,e3,e4⟩:=qjt (P:=P) htb hz hr.r.hr h5 (h3 _ (by simp)) (h4 _ (by simp)) h6 (λw hw=>h3 w (by simp [hw])) (λw hw=>h4 w (by simp [hw]))
    rw [hk]
    exact ⟨v,s',l,e1,call,e2,x,u,ids,m,e3,e4⟩
   ·obtain ⟨v,s',l,e1,e2⟩:=qjw hz hr.r.hr h2 h3 h4
    obtain ⟨x,u,ids,m,e3,e4⟩:=e2 q7y
    exact ⟨v,s',l,e1,q7y,q79,x,u,ids,m,e3,e4⟩
  ·simp at hz
end Go.Ev
