/- Regions: what an operation leaves. Conditions: as stated. -/
import Derived.Test.YthcplpfiidlinaaFz
namespace Go.Ev
theorem R2.mono{s1:St}{s:S2}(hr:R2 s1 s){n:Nat}(hn:s.next<=n):R2 s1 { s with next:=n }:=
 ⟨λt v ht=>(hr.env t v ht).imp (q1j hn (HSt.refl _ _)) id,hr.hr.mono hn,Nat.le_trans hr.next hn,hr.gh.1,q1j hn (HSt.refl _ _) hr.gh.2⟩
theorem R2.nx{s1:St}{s:S2}(hr:R2 s1 s){n:Nat}(hn:n<=s.next):R2 { s1 with next:=n } s:=⟨hr.env,hr.hr,hn,hr.gh⟩
theorem R2.wo{s1:St}{s:S2}(hr:R2 s1 s)(w:List Nat):R2 s1 { s with wo:=w }:=⟨hr.env,hr.hr,hr.next,hr.gh⟩
theorem RGo.mono{s1:St}{s:S2}{q:Rg}(hr:RGo s1 s q){n:Nat}(hn:s.next<=n):RGo s1 { s with next:=n } q:=
 ⟨hr.r.mono hn,hr.kn,λt g b v h=>let ⟨c,h1,h2⟩:=hr.cd t g b v h; ⟨c,h1,λe=>let ⟨x,h3,h4,h5⟩:=h2 e; ⟨x,h3,h4,q1j hn (HSt.refl _ _) h5⟩⟩⟩
theorem RGo.nx{s1:St}{s:S2}{q:Rg}(hr:RGo s1 s q){n:Nat}(hn:n<=s.next):RGo { s1 with next:=n } s q:=⟨hr.r.nx hn,hr.kn,hr.cd⟩
theorem RGo.none{s1:St}{s:S2}(hr:R2 s1 s):RGo s1 s ⟨[], []⟩:=⟨hr,λg b h=>by simp [knG,fnd]at h,λt g b v h=>by simp [fnd]at h⟩
theorem RGo.know{s1:St}{s:S2}{q:Rg}(hr:RGo s1 s q){g:Nat}{c:Bool}(hg:fnd s1.env g=some (tB c)):RGo s1 s ⟨(g,c) :: q.kn,q.cd⟩:=by
 refine ⟨hr.r,λg' b h=> ?_,hr.cd⟩
 simp only [knG,fnd]at h
 by_cases e:g=g'
 ·subst e
  have:c=b:=by simpa using h
  rw [<- this]; exact hg
 ·have e':(g == g')=false:=by simpa using e
  rw [e',cond_false]at h
  exact hr.kn g' b h
theorem qkd{α:Type}{d:Nat}:∀ {l:List (Nat×α)} {t:Nat} {x:α},fnd (l.filter λe=> !(e.1 == d)) t=some x->t≠d/\fnd l t=some x:=by
 intro l
 induction l with
 | nil=>intro t x h; simp [fnd]at h
 | cons p l ih=>
  obtain ⟨a,y⟩:=p
  intro t x h
  by_cases e:a=d
  ·rw [List.filter_cons,if_neg (by simp [e])]at h
   obtain ⟨h1,h2⟩:=ih h
   refine ⟨h1, ?_⟩
   simp only [fnd]
   have e':(a == t)=false:=by simpa using λq=>h1 (q.symm.trans e)
   rw [e',cond_false]; exact h2
  ·rw [List.filter_cons,if_pos (by simp [e])]at h
   simp only [fnd]at h ⊢
   by_cases e2:a=t
   ·subst e2
    have e':(a == a)=true:=by simp
    rw [e',cond_true]at h ⊢
    exact ⟨e,h⟩
   ·have e':(a == t)=false:=by simpa using e2
    rw [e',cond_false]at h ⊢
    exact ih h
theorem qe8{α:Type}:∀ {l:List (Nat×α)} {t:Nat} {x:α},fnd l t=some x->(t,x)∈l:=by
 intro l
 induction l with
 | nil=>intro t x h; simp [fnd]at h
 | cons p l ih=>
  obtain ⟨a,y⟩:=p
  intro t x h
  simp only [fnd]at h
  by_cases e2:a=t
  ·subst e2
   have:y=x:=by simpa using h
   subst this
   exact List.mem_cons_self
  ·have e':(a == t)=false:=by simpa using e2
   rw [e',cond_false]at h
   exact List.mem_cons_of_mem _ (ih h)
theorem qic{q q':Rg}{d:Option Nat}(h:clr q d=some q'):q'.kn=q.kn/\(∀ t y,fnd q'.cd t=some y->d≠some t/\fnd q.cd t=some y/\d≠some y.1)/\∀g b,knG q.kn g=some b->d≠some g:=by
 cases d with
 | none=>
  obtain rfl:=Option.some.inj h
  exact ⟨rfl,λt y hy=>⟨by simp,hy,by simp⟩,λ_ _ _=>by simp⟩
 | some d=>
  simp only [clr]at h
  cases hc:(q.cd.any (λe=>e.2.1 == d) || q.kn.any (λe=>e.1 == d))with
  | true=>rw [hc]at h; simp at h
  | false=>
   rw [hc,cond_false]at h
   obtain rfl:=Option.some.inj h
   simp only [Bool.or_eq_false_iff,List.any_eq_false,beq_iff_eq]at hc
   refine ⟨rfl,λt y hy=> ?_,λg b hg e=> ?_⟩
   ·obtain ⟨h1,h2⟩:=qkd hy
    exact ⟨λe=>h1 (Option.some.inj e).symm,h2,λe=>hc.1 _ (qe8 h2) (Option.some.inj e).symm⟩
   ·exact hc.2 _ (qe8 hg) (Option.some.inj e).symm
theorem qij{s:S2}{d:Option Nat}{v:V}(t:Nat):fnd (put2 s d v).env t=if d=some t then some v else fnd s.env t:=by
 cases d with
 | none=>simp [put2]
 | some d=>
  simp only [put2,fnd]
  by_cases h:d=t
  ·simp [h]
  ·have h':(d == t)=false:=by simpa using h
   simp [h,h']
theorem q71{s:S2}{d:Option Nat}{v:V}:(put2 s d v).heap=s.heap/\(put2 s d v).next=s.next/\(put2 s d v).gh=s.gh/\(put2 s d v).wo=s.wo:=by
 cases d <;> exact ⟨rfl,rfl,rfl,rfl⟩
theorem RGo.step{s1:St}{s s':S2}{q q':Rg}(hr:RGo s1 s q){x:TV}{u:Upd}{ids:List Nat}{m:Nat}{v:V}{l:List Nat}(hd:Did s s' s1.heap x u ids m v l){d:Option Nat}(hq:clr q d=some q'):
  RGo ⟨put s1.env d x,u++s1.heap,m,s1.gh⟩ (put2 s' d v) q':=by
 obtain ⟨c1,c2,c3⟩:=qic hq
 obtain ⟨p1,p2,p3,p4⟩:=q71 (s:=s') (d:=d) (v:=v)
 refine ⟨⟨λt w ht=> ?_,by rw [p1,p2]; exact hd.hr,by rw [p2]; exact hd.m, ?_⟩,λg b hg=> ?_,λt g b w ht=> ?_⟩
 ·rw [qij]at ht
  rw [p1,p2]
  show _/\(_->∃y,fnd (put s1.env d x) t=some y/\_)
  rw [q3v]
  split at ht
  ·rename_i e
   obtain rfl:=Option.some.inj ht
   rw [if_pos e]
   exact ⟨hd.okv,λ_=>⟨x,rfl,hd.val⟩⟩
  ·rename_i e
   rw [if_neg e]
   rw [hd.env]at ht
   obtain ⟨h1,h2⟩:=hr.r.env t w ht
   refine ⟨q1j hd.le hd.hst h1,λha=> ?_⟩
   obtain ⟨y,h3,h4⟩:=h2 (ha.imp (qae hd.hst hd.nb h1) id)
   exact ⟨y,h3,qai hd.hst h1 h4⟩
 ·rw [p3,p1,p2,hd.gh]
  exact ⟨qih hd.hst hd.nb hr.r.gh.2 hr.r.gh.1,q1j hd.le hd.hst hr.r.gh.2⟩
 ·rw [c1]at hg
  show fnd (put s1.env d x) g=_
  rw [q3v,if_neg (c3 g b hg)]
  exact hr.kn g b hg
 ·obtain ⟨e1,e2,e3⟩:=c2 t _ ht
  obtain ⟨c,h1,h2⟩:=hr.cd t g b w e2
  show ∃c,fnd (put s1.env d x) g=_/\(c=b->∃y,fnd (put s1.env d x) t=some y/\_)
  rw [q3v,q3v,if_neg e3,if_neg e1,p1,p2]
  refine ⟨c,h1,λe=> ?_⟩
  obtain ⟨y,h3,h4,h5⟩:=h2 e
  exact ⟨y,h3,qai hd.hst h5 h4,q1j hd.le hd.hst h5⟩
theorem qp2{s1:St}{s:S2}{q:Rg}(hr:RGo s1 s q):Did s s s1.heap (.tup []) [] [] s.next .no []:=
 Did.pure hr.r.hr rfl trivial λi hi=>by simp at hi
theorem RGo.sym{s1:St}{s:S2}{q q':Rg}(hr:RGo s1 s q){d g:Nat}{b c:Bool}{v:V}{x:TV}{m:Nat}(hm:m<=s.next)(hq:clr q (some d)=some q')(hg:fnd s1.env g=some (tB c))(hgd:g≠d)
  (hx:c=b->tvR s.heap v x/\okV s.next s.heap v):RGo ⟨put s1.env (some d) x,s1.heap,m,s1.gh⟩ (put2 s (some d) .gn) ⟨q'.kn,(d,g,b,v) :: q'.cd⟩:=by
 obtain ⟨c1,c2,c3⟩:=qic hq
 refine ⟨⟨λt w ht=> ?_,hr.r.hr,hm,hr.r.gh⟩,λg' b' hg'=> ?_,λt g' b' w ht=> ?_⟩
 ·rw [qij]at ht
  show _/\(_->∃y,fnd (put s1.env (some d) x) t=some y/\_)
  rw [q3v]
  split at ht
  ·obtain rfl:=Option.some.inj ht
   exact ⟨trivial,λh=>by rcases h with h | h <;> simp [alv,put2]at h⟩
  ·rename_i e
   rw [if_neg e]
   exact hr.r.env t w ht
 ·rw [show (⟨q'.kn,(d,g,b,v) :: q'.cd⟩:Rg).kn=q.kn from c1]at hg'
  show fnd (put s1.env (some d) x) g'=_
  rw [q3v,if_neg (c3 g' b' hg')]
  exact hr.kn g' b' hg'
 ·show ∃c,fnd (put s1.env (some d) x) g'=_/\(c=b'->∃y,fnd (put s1.env (some d) x) t=some y/\_)
  simp only [fnd]at ht
  rw [q3v,q3v]
  by_cases e:d=t
  ·subst e
   obtain ⟨rfl,rfl,rfl⟩:g=g'/\b=b'/\v=w:=by simpa using ht
   rw [if_pos rfl,if_neg (by simpa using Ne.symm hgd)]
   exact ⟨c,hg,λe=>⟨x,rfl,hx e⟩⟩
  ·have e':(d == t)=false:=by simpa using e
   rw [e',cond_false]at ht
   obtain ⟨_,e2,e3⟩:=c2 t _ ht
   obtain ⟨c',h1,h2⟩:=hr.cd t g' b' w e2
   rw [if_neg e3,if_neg (by simpa using e)]
   exact ⟨c',h1,h2⟩
def GdP(e:Env)(gd:Option (Nat×Bool)):GV->Prop
 | .run=>wants e gd=some true/\∀g b,gd=some (g,b)->fnd e g=some (tB b)
 | .skip=>wants e gd=some false
 | .sym g b c=>gd=some (g,b)/\fnd e g=some (tB c)
theorem q6b{e:Env}{g:Nat}{b c:Bool}(h:fnd e g=some (tB c)):wants e (some (g,b))=some (c == b):=by
 simp only [wants,h,tB]
theorem qsb{e:Env}{g:Nat}{b c:Bool}(h:fnd e g=some (tB c)):GdP e (some (g,b)) (bif c == b then .run else .skip):=by
 have hw:=q6b (b:=b) h
 cases hc:(c == b)with
 | true=>
  rw [hc]at hw
  refine ⟨hw,λg' b' e'=> ?_⟩
  obtain ⟨rfl,rfl⟩:=Prod.mk.inj (Option.some.inj e')
  obtain rfl:c=b:=by simpa using hc
  exact h
 | false=>rw [hc]at hw; exact hw
theorem qec{s1:St}{s:S2}{q:Rg}(hr:RGo s1 s q){gd:Option (Nat×Bool)}{r:GV}(h:gdV s.env q.kn gd=some r):GdP s1.env gd r:=by
 unfold gdV at h
 split at h
 ·obtain rfl:=Option.some.inj h
  exact ⟨rfl,λ_ _ e=>by simp at e⟩
 ·rename_i g b
  split at h
  ·rename_i c hk
   obtain rfl:=Option.some.inj h
   exact qsb (hr.kn g c hk)
  ·split at h
   ·rename_i c he
    obtain rfl:=Option.some.inj h
    obtain ⟨x,h1,h2⟩:=(hr.r.env g _ he).2 (.inl rfl)
    rw [qcf h2]at h1; exact qsb h1
   ·rename_i c he
    obtain rfl:=Option.some.inj h
    obtain ⟨x,h1,h2⟩:=(hr.r.env g _ he).2 (.inl rfl)
    rw [tvR_b h2]at h1; exact ⟨rfl,h1⟩
   ·rename_i he
    obtain rfl:=Option.some.inj h
    obtain ⟨x,h1,h2⟩:=(hr.r.env g _ he).2 (.inr rfl)
    rw [show x= .tup [] from h2]at h1
    show wants s1.env _=_
    simp only [wants,h1]
   ·simp at h
end Go.Ev

namespace Go.Ev
structure FrW (ds w:List Nat) (s1 s1':St) (s s':S2):Prop where
 le:s.next<=s'.next
 hst:HSt s.next s.heap s'.heap
 gl:s1'.gh.length=s1.gh.length
 ob:∀i,i < s.next->i∉w->fO s'.heap i=fO s.heap i/\∀o,fO s.heap i=some o->∀g,obR g o (look s1.heap i)->obR g o (look s1'.heap i)
 env:∀t x,t∉ds->fnd s1.env t=some x->(∀ i∈idsTV x,i < s.next/\i∉w/\fO s.heap i≠none)->fnd s1'.env t=some x
def Fr(ds:List Nat)(s1 s1':St)(s s':S2):Prop:=∃w,s'.wo=w++s.wo/\FrW ds w s1 s1' s s'
theorem FrW.next{ds w:List Nat}{s1:St}{s:S2}{n m:Nat}(hn:s.next<=n):FrW ds w s1 { s1 with next:=m } s { s with next:=n }:=
 ⟨hn,HSt.refl _ _,rfl,λ_ _ _=>⟨rfl,λ_ _ _ h=>h⟩,λ_ _ _ h _=>h⟩
theorem FrW.trans{ds w w':List Nat}{s1 s2 s3:St}{s s' s'':S2}(a:FrW ds w s1 s2 s s')(b:FrW ds w' s2 s3 s' s''):FrW ds (w'++w) s1 s3 s s'':=by
 refine ⟨Nat.le_trans a.le b.le,a.hst.trans a.le b.hst,b.gl.trans a.gl,λi hi hw=> ?_,λt x ht hx hc=> ?_⟩
 ·simp only [List.mem_append,not_or]at hw
  obtain ⟨h1,h2⟩:=a.ob i hi hw.2
  obtain ⟨h3,h4⟩:=b.ob i (Nat.lt_of_lt_of_le hi a.le) hw.1
  exact ⟨h3.trans h1,λo ho g hg=>h4 o (h1.trans ho) g (h2 o ho g hg)⟩
 ·refine b.env t x ht (a.env t x ht hx λi hi=> ?_) λi hi=> ?_
  ·obtain ⟨h1,h2,h3⟩:=hc i hi
   simp only [List.mem_append,not_or]at h2
   exact ⟨h1,h2.2,h3⟩
  ·obtain ⟨h1,h2,h3⟩:=hc i hi
   simp only [List.mem_append,not_or]at h2
   exact ⟨Nat.lt_of_lt_of_le h1 a.le,h2.1,by rw [(a.ob i h1 h2.2).1]; exact h3⟩
theorem FrW.mono{ds ds' w w':List Nat}{s1 s2:St}{s s':S2}(a:FrW ds w s1 s2 s s')(hd:∀t∈ds,t∈ds')(hw:∀i∈w,i∈w'):FrW ds' w' s1 s2 s s':=
 ⟨a.le,a.hst,a.gl,λi hi h=>a.ob i hi λq=>h (hw i q),λt x ht hx hc=>a.env t x (λq=>ht (hd t q)) hx λi hi=>⟨(hc i hi).1,λq=>(hc i hi).2.1 (hw i q),(hc i hi).2.2⟩⟩
theorem Fr.refl{ds:List Nat}{s1:St}{s:S2}:Fr ds s1 s1 s s:=⟨[],rfl,FrW.next (Nat.le_refl _)⟩
theorem Fr.trans{ds:List Nat}{s1 s2 s3:St}{s s' s'':S2}(a:Fr ds s1 s2 s s')(b:Fr ds s2 s3 s' s''):Fr ds s1 s3 s s'':=by
 obtain ⟨w,h1,h2⟩:=a
 obtain ⟨w',h3,h4⟩:=b
 exact ⟨w'++w,by rw [h3,h1,List.append_assoc],h2.trans h4⟩
theorem Fr.mono{ds ds':List Nat}{s1 s2:St}{s s':S2}(a:Fr ds s1 s2 s s')(hd:∀t∈ds,t∈ds'):Fr ds' s1 s2 s s':=
 let ⟨w,h1,h2⟩:=a; ⟨w,h1,h2.mono hd λ_ h=>h⟩
theorem Fr.did{s1:St}{s s':S2}{x:TV}{u:Upd}{ids:List Nat}{m:Nat}{v v':V}{l:List Nat}(hd:Did s s' s1.heap x u ids m v l)(d:Option Nat):Fr d.toList s1 ⟨put s1.env d x,u++s1.heap,m,s1.gh⟩ s (put2 s' d v'):=by
 obtain ⟨w,h1,h2,h3⟩:=hd.wo
 obtain ⟨p1,p2,p3,p4⟩:=q71 (s:=s') (d:=d) (v:=v')
 refine ⟨w,p4.trans h1,by rw [p2]; exact hd.le,by rw [p1]; exact hd.hst,rfl,λi hi hw=>⟨by rw [p1]; exact h3 i hw,λo ho g hg=> ?_⟩,λt y ht hy _=> ?_⟩
 ·show obR g o (look (u++s1.heap) i)
  rw [qav (u:=u) (i:=i) λp hp e=>hw (e▸h2 p hp)]
  exact hg
 ·show fnd (put s1.env d x) t=_
  rw [q3v,if_neg λe=>ht (by simp [e])]
  exact hy
def StepP(P:Program)(o:COp)(s1:St)(s s':S2)(q':Rg)(t:List Nat×List Nat):Prop:=
 (wants s1.env o.guard=some true/\∃call x u ids m,q5b P call/\ev1 call o.k (o.args.map (opv s1.env)) s1.heap s.next=some (x,u,ids,m)/\(∀ i∈ids,i∈t.1)/\(∀ p∈u,p.1∈t.2)/\
  RGo ⟨put s1.env o.dst x,u++s1.heap,m,s1.gh⟩ s' q'/\Fr o.dst.toList s1 ⟨put s1.env o.dst x,u++s1.heap,m,s1.gh⟩ s s')\/
 (wants s1.env o.guard=some false/\RGo ⟨drop s1.env o.dst,s1.heap,s.next,s1.gh⟩ s' q'/\Fr o.dst.toList s1 ⟨drop s1.env o.dst,s1.heap,s.next,s1.gh⟩ s s')
section
variable {P:Program}{β:Type}{tb:Tab}{dr:Option Nat}{o:OP}{r:List OP}{i:Nat}{s1:St}{s s0:S2}{q:Rg}{tr:Tr2}{k:S2->Tr2->Option β}{z:β}
theorem qgf(htb:TabOk P tb)(hg:GlbOk)(hr:RGo s1 s q)(hw:wants s1.env o.o.guard=some true)(hgc:∀g b,o.o.guard=some (g,b)->fnd s1.env g=some (tB b))
  (hz:(exe tb o s q o.o.guard λv s1 l=>
   bif inB dr i s1 then (match clr q o.o.dst with
    | some q=>q59 tb dr r (i+1) (put2 s1 o.o.dst v) q (tr++ [(l,s1.wo.take (s1.wo.length - s.wo.length))]) k
    | none=>none)else none)=some z):
  ∃s' q' t,q59 tb dr r (i+1) s' q' (tr++ [t]) k=some z/\inB dr i s'=true/\StepP P o.o s1 s s' q' t:=by
 obtain ⟨v,s',l,h1,call,hc,x,u,ids,m,h2,hd⟩:=qq5 htb hg hr hgc hz
 obtain ⟨hb,h1⟩:=q00 h1
 split at h1
 ·rename_i q' hq
  refine ⟨_,_,_,h1, ?_, .inl ⟨hw,call,x,u,ids,m,hc,h2,hd.ids,λp hp=> ?_,hr.step hd hq,Fr.did hd _⟩⟩
  ·unfold inB at hb ⊢
   rw [q71.2.1]; exact hb
  ·obtain ⟨w,h3,h4,_⟩:=hd.wo
   have:=h4 p hp
   show p.1∈s'.wo.take (s'.wo.length - s.wo.length)
   rw [h3]
   simpa using this
 ·simp at h1
theorem qh0(hr:RGo s1 s q)(hb:inB dr i s=true)(hw:wants s1.env o.o.guard=some false)
  (hz:(match clr q o.o.dst with | some q=>q59 tb dr r (i+1) (put2 s o.o.dst .no) q (tr++ [([], [])]) k | none=>none)=some z):
  ∃s' q' t,q59 tb dr r (i+1) s' q' (tr++ [t]) k=some z/\inB dr i s'=true/\StepP P o.o s1 s s' q' t:=by
 split at hz
 ·rename_i q' hq
  refine ⟨_,_,_,hz, ?_, .inr ⟨hw, ?_⟩⟩
  ·unfold inB at hb ⊢
   rw [q71.2.1]; exact hb
  ·exact ⟨hr.step (qp2 hr) hq,Fr.did (qp2 hr) _⟩
 ·simp at hz
theorem qpj{α:Type}{c:Bool}{x:Option α}{y:α}(h:(bif c then none else x)=some y):x=some y:=by
 cases c with
 | true=>simp at h
 | false=>exact h
theorem qji(htb:TabOk P tb)(hg:GlbOk)(hr:RGo s1 (atB dr i s0) q)(hb:inB dr i (atB dr i s0)=true)(hz:q59 tb dr (o :: r) i s0 q tr k=some z):
  ∃s' q' t,q59 tb dr r (i+1) s' q' (tr++ [t]) k=some z/\inB dr i s'=true/\StepP P o.o s1 (atB dr i s0) s' q' t:=by
 simp only [q59]at hz
 split at hz
 ·simp at hz
 ·rename_i hgd
  obtain ⟨h1,h2⟩:=qec hr hgd
  exact qgf htb hg hr h1 h2 hz
 ·rename_i hgd
  exact qh0 hr hb (qec hr hgd) hz
 ·rename_i g b c hgd
  obtain ⟨h1,h2⟩:=qec hr hgd
  split at hz
  ·rename_i v l ht
   have ht:=qpj ht
   split at hz
   ·rename_i q' d hq hd
    cases hgd2:Nat.beq g d with
    | true=>rw [hgd2]at hz; simp at hz
    | false=>
     rw [hgd2,cond_false]at hz
     have hne:g≠d:=λe=>by rw [e]at hgd2; simp at hgd2
     rw [hd]at hq
     refine ⟨_,_,_,hz, ?_, ?_⟩
     ·unfold inB at hb ⊢
      rw [q71.2.1]; exact hb
     ·by_cases hcb:c=b
      ·subst hcb
       obtain ⟨x,ids,e1,e2,e3,e4⟩:=qfi hg hr (gc:=some (g,c)) (λg' b' e=>by obtain ⟨rfl,rfl⟩:=Prod.mk.inj (Option.some.inj e); exact h2) ht q7y (atB dr i s0).next
       refine .inl ⟨by rw [h1,q6b h2]; simp,q7y,x, [],ids,_,q79,e1,e4,λp hp=>by simp at hp, ?_⟩
       rw [hd]
       exact ⟨hr.sym (Nat.le_refl _) hq h2 hne λ_=>⟨e2,e3⟩,Fr.did (Did.pure hr.r.hr e2 e3 e4) _⟩
      ·refine .inr ⟨by rw [h1,q6b h2]; simpa using hcb, ?_⟩
       rw [hd]
       exact ⟨hr.sym (Nat.le_refl _) hq h2 hne λe=>absurd e hcb,Fr.did (qp2 hr) _⟩
   ·simp at hz
  ·have hkn:=hr.know h2
   cases b with
   | true=>
    cases c with
    | true=>exact qgf htb hg hkn (by rw [h1,q6b h2]; rfl) (λg' b' e=>by rw [h1]at e; obtain ⟨rfl,rfl⟩:=Prod.mk.inj (Option.some.inj e); exact h2) hz
    | false=>exact qh0 hkn hb (by rw [h1,q6b h2]; rfl) hz
   | false=>
    cases c with
    | true=>exact qh0 hkn hb (by rw [h1,q6b h2]; rfl) hz
    | false=>exact qgf htb hg hkn (by rw [h1,q6b h2]; rfl) (λg' b' e=>by rw [h1]at e; obtain ⟨rfl,rfl⟩:=Prod.mk.inj (Option.some.inj e); exact h2) hz
theorem qog(htb:TabOk P tb)(hg:GlbOk):∀(ops:List OP) (i:Nat) (s1:St) (s:S2) (q:Rg) (tr:Tr2),q59 tb none ops i s q tr k=some z->RGo s1 s q->
  WO P (ops.map (·.o)) s1 λs1'=>∃s' tr',R2 s1' s'/\Fr (ops.filterMap (·.o.dst)) s1 s1' s s'/\k s' tr'=some z:=by
 intro ops
 induction ops with
 | nil=>intro i s1 s q tr hz hr; exact wk.of ⟨s,tr,hr.r,Fr.refl,hz⟩
 | cons o r ih=>
  intro i s1 s q tr hz hr
  have hsub:Sub s1 { s1 with next:=s.next }:=Sub.heap (λ_=> .inl rfl) hr.r.next
  have hr1:RGo { s1 with next:=s.next } s q:=hr.nx (Nat.le_refl _)
  obtain ⟨s',q',t,h1,_,h2⟩:=qji (dr:=none) (i:=i) htb hg (show RGo { s1 with next:=s.next } (atB none i s) q from hr1) rfl hz
  simp only [List.map_cons,WO]
  have hfs:∀t∈o.o.dst.toList,t∈(o :: r).filterMap (·.o.dst):=λt ht=>by
   rw [Option.mem_toList]at ht
   exact List.mem_filterMap.2 ⟨o,by simp,ht⟩
  have hrs:∀t∈r.filterMap (·.o.dst),t∈(o :: r).filterMap (·.o.dst):=λt ht=>by
   obtain ⟨p,hp,hpt⟩:=List.mem_filterMap.1 ht
   exact List.mem_filterMap.2 ⟨p,by simp [hp],hpt⟩
  have key:∀s2,Fr o.o.dst.toList { s1 with next:=s.next } s2 s s'->RGo s2 s' q'->WO P (r.map (·.o)) s2 λs1'=>∃s' tr',R2 s1' s'/\Fr ((o :: r).filterMap (·.o.dst)) s1 s1' s s'/\k s' tr'=some z:=by
   intro s2 hf hr2
   refine WO.mono (λs1' ⟨s3,tr3,g1,g2,g3⟩=>⟨s3,tr3,g1, ?_,g3⟩) (ih _ _ _ _ _ h1 hr2)
   have f0:Fr ((o :: r).filterMap (·.o.dst)) s1 { s1 with next:=s.next } s s:=⟨[],rfl,FrW.next (Nat.le_refl _)⟩
   exact (f0.trans (hf.mono hfs)).trans (g2.mono hrs)
  refine ⟨_,hsub, ?_⟩
  rcases h2 with ⟨hw,call,x,u,ids,m,hc,he,_,_,hr2,hf⟩ | ⟨hw,hr2,hf⟩
  ·exact .inl ⟨hw,call,x,u,ids,m,hc,he,key _ hf hr2⟩
  ·exact .inr ⟨hw,key _ hf hr2⟩
def TrLe:Tr->Tr2->Prop
 | [], []=>True
 | a :: x,b :: y=>(∀ i∈a.1,i∈b.1)/\(∀ i∈a.2,i∈b.2)/\TrLe x y
 | _,_=>False
theorem TrLe.app:∀ {x:Tr} {y:Tr2} {a b:List Nat×List Nat},TrLe x y->(∀ i∈a.1,i∈b.1)->(∀ i∈a.2,i∈b.2)->TrLe (x++ [a]) (y++ [b]):=by
 intro x
 induction x with
 | nil=>intro y a b h h1 h2; cases y with
  | nil=>exact ⟨h1,h2,trivial⟩
  | cons=>exact h.elim
 | cons c x ih=>intro y a b h h1 h2; cases y with
  | nil=>exact h.elim
  | cons d y=>exact ⟨h.1,h.2.1,ih h.2.2 h1 h2⟩
theorem TrLe.get:∀ {x:Tr} {y:Tr2} (i:Nat) {a:List Nat×List Nat},TrLe x y->x[i]? =some a->∃b,y[i]? =some b/\(∀ i∈a.1,i∈b.1)/\(∀ i∈a.2,i∈b.2):=by
 intro x
 induction x with
 | nil=>intro y i a _ h; simp at h
 | cons c x ih=>
  intro y i a hl h
  cases y with
  | nil=>exact hl.elim
  | cons d y=>
   cases i with
   | zero=>
    obtain rfl:=Option.some.inj h
    exact ⟨d,rfl,hl.1,hl.2.1⟩
   | succ i=>exact ih i hl.2.2 (by simpa using h)
theorem qrd{a b c d:List Nat×List Nat}(h:apart c d=true)(a1:∀i∈a.1,i∈c.1)(a2:∀i∈a.2,i∈c.2)(b1:∀i∈b.1,i∈d.1)(b2:∀i∈b.2,i∈d.2):apart a b=true:=by
 simp only [apart,Bool.and_eq_true,List.all_eq_true,Bool.not_eq_true',List.contains_eq_mem,decide_eq_false_iff_not]at h ⊢
 exact ⟨λi hi=>⟨λe=>(h.1 i (a2 i hi)).1 (b1 i e),λe=>(h.1 i (a2 i hi)).2 (b2 i e)⟩,λi hi e=>h.2 i (b2 i hi) (a1 i e)⟩
def LkOk(ops:List OP)(tr:Tr):Prop:=∀(j:Nat) (o:OP) (a:List Nat×List Nat),ops[j]? =some o->tr[j]? =some a->isLk o.o.k=true->a.1.length<=1
theorem qv8{c:Call}{k:K}{vs:List (Option TV)}{h:Heap}{n:Nat}{x:TV}{u:Upd}{ids:List Nat}{m:Nat}(he:ev1 c k vs h n=some (x,u,ids,m))(hk:isLk k=true):ids.length<=1:=by
 cases k <;> simp [isLk]at hk
 rename_i ka ks va zero ok
 unfold ev1 at he
 split at he <;> first | (simp at he; done) | skip
 all_goals first
  | (rename_i e; cases e; done)
  | skip
 rename_i e
 cases e
 split at he
 ·rename_i v i hv
  obtain ⟨_,e⟩:=Prod.mk.inj (Option.some.inj he)
  obtain ⟨_,e⟩:=Prod.mk.inj e
  obtain ⟨rfl,_⟩:=Prod.mk.inj e
  unfold q1u at hv
  split at hv
  ·split at hv
   ·obtain ⟨_,rfl⟩:=Prod.mk.inj (Option.some.inj hv); simp
   ·simp at hv
  ·split at hv
   ·split at hv
    ·split at hv
     ·split at hv
      ·obtain ⟨_,rfl⟩:=Prod.mk.inj (Option.some.inj hv); simp
      ·simp at hv
     ·split at hv
      ·obtain ⟨_,rfl⟩:=Prod.mk.inj (Option.some.inj hv); simp
      ·simp at hv
     ·simp at hv
    ·simp at hv
   ·simp at hv
  ·simp at hv
 ·simp at he
theorem qvr{ops:List OP}{x:Tr}{y:Tr2}{dyn:List (Nat×Nat)}(hl:TrLe x y)(hk:LkOk ops x)(hd:dyn2 ops y dyn=true):dynOk x dyn=true:=by
 simp only [dyn2,dynOk,List.all_eq_true]at hd ⊢
 intro p hp
 have hp2:=hd p hp
 obtain ⟨i,j⟩:=p
 have key:∀(j':Nat) a b c d,x[i]? =some a->x[j']? =some b->y[i]? =some c->y[j']? =some d->apart c d=true->apart a b=true:=by
  intro j' a b c d ha hb hc hd h
  obtain ⟨c',h1,h2,h3⟩:=hl.get i ha
  obtain ⟨d',h4,h5,h6⟩:=hl.get j' hb
  rw [hc]at h1
  rw [hd]at h4
  obtain rfl:=Option.some.inj h1
  obtain rfl:=Option.some.inj h4
  exact qrd h h2 h3 h5 h6
 by_cases hj:1000<=j
 ·have hb:Nat.ble 1000 j=true:=Nat.ble_eq_true_of_le hj
  simp only [hb,cond_true]at hp2
  simp only [hj,if_true,qn5]
  split
  ·rename_i a b ha hb
   obtain ⟨c,hc,c1,c2⟩:=hl.get i ha
   obtain ⟨d,hd,_,_⟩:=hl.get (j - 1000) hb
   rw [hc,hd]at hp2
   simp only [Bool.or_eq_true]at hp2 ⊢
   rcases hp2 with hp2 | hp2
   ·exact .inl (key _ a b c d ha hb hc hd hp2)
   ·unfold soft2 at hp2
    split at hp2
    ·rename_i o id ho hc2
     rw [hc]at hc2
     obtain rfl:=Option.some.inj hc2
     simp only [Bool.and_eq_true]at hp2
     have hlen:=hk i o a ho ha hp2.1
     obtain ⟨a1,a2⟩:=a
     obtain rfl:a2= []:=List.eq_nil_iff_forall_not_mem.2 λq hq=>by have:=c2 q hq; simp at this
     match a1,hlen,c1 with
     | [],_,_=>
      left
      simp [apart]
     | [q],_,c1=>
      obtain rfl:q=id:=by have:=c1 q (by simp); simpa using this
      right
      refine List.all_eq_true.2 λz hz=> ?_
      obtain ⟨n,hn⟩:=List.getElem?_of_mem hz
      rw [List.getElem?_drop,List.getElem?_take]at hn
      split at hn
      ·rename_i hlt
       obtain ⟨z2,hz2,_,z3⟩:=hl.get _ hn
       have hm:z2∈(y.take (j - 1000)).drop (i+1):=by
        refine List.mem_of_getElem? (i:=n) ?_
        rw [List.getElem?_drop,List.getElem?_take,if_pos hlt]
        exact hz2
       have:=List.all_eq_true.1 hp2.2 z2 hm
       simp only [Bool.not_eq_true',List.contains_eq_mem,decide_eq_false_iff_not]at this ⊢
       exact λq=>this (z3 _ q)
      ·simp at hn
    ·simp at hp2
  ·rfl
 ·have hb:Nat.ble 1000 j=false:=by
   cases h:Nat.ble 1000 j with
   | false=>rfl
   | true=>exact absurd (Nat.le_of_ble_eq_true h) hj
  simp only [hb,cond_false]at hp2
  simp only [hj,if_false]
  split
  ·rename_i a b ha hb
   obtain ⟨c,hc,_⟩:=hl.get i ha
   obtain ⟨d,hd,_⟩:=hl.get j hb
   rw [hc,hd]at hp2
   exact key _ a b c d ha hb hc hd hp2
  ·rfl
theorem WD.mono{P:Program}{base:Nat}{ops:List COp}{i:Nat}{e:Env}{h:Heap}{tr:Tr}{Q Q':Env->Heap->Tr->Prop}(hq:∀e h tr,Q e h tr->Q' e h tr)(hw:WD P base ops i e h tr Q):WD P base ops i e h tr Q':=
 let ⟨calls,h1,e',h',tr',h2,h3⟩:=hw; ⟨calls,h1,e',h',tr',h2,hq _ _ _ h3⟩
theorem qs3{ops:List OP}{tr:Tr}{o:OP}{t:List Nat×List Nat}(h:LkOk ops tr)(ho:ops[tr.length]? =some o)(ht:isLk o.o.k=true->t.1.length<=1):LkOk ops (tr++ [t]):=by
 intro j o' a hj ha hl
 by_cases hlt:j < tr.length
 ·rw [List.getElem?_append_left hlt]at ha
  exact h j o' a hj ha hl
 ·rw [List.getElem?_append_right (by omega)]at ha
  have:j=tr.length:=by
   have:=(List.getElem?_eq_some_iff.1 ha).1
   simp at this; omega
  subst this
  rw [ho]at hj
  obtain rfl:=Option.some.inj hj
  simp at ha
  rw [<- ha]; exact ht hl
theorem qp5(htb:TabOk P tb)(hg:GlbOk){b:Nat}(ops0:List OP):∀(ops:List OP) (i:Nat) (e:Env) (h:Heap) (n:Nat) (gh:List C) (s:S2) (q:Rg) (tr:Tr2) (tr1:Tr),q59 tb (some b) ops i s q tr k=some z->RGo ⟨e,h,n,gh⟩ s q->s.next<=b+room * i->TrLe tr1 tr->(∀ j,ops[j]? =ops0[i+j]?)->tr1.length=i->LkOk ops0 tr1->
  WD P b (ops.map (·.o)) i e h tr1 λe' h' tr1'=>∃s' tr' n',R2 ⟨e',h',n',gh⟩ s'/\Fr (ops.filterMap (·.o.dst)) ⟨e,h,n,gh⟩ ⟨e',h',n',gh⟩ s s'/\s'.next<=b+room * (i+ops.length)/\TrLe tr1' tr'/\LkOk ops0 tr1'/\k s' tr'=some z:=by
 intro ops
 induction ops with
 | nil=>intro i e h n gh s q tr tr1 hz hr hn ht _ _ hlk; exact d_nil ⟨s,tr,n,hr.r,Fr.refl,hn,ht,hlk,hz⟩
 | cons o r ih=>
  intro i e h n gh s q tr tr1 hz hr hn ht hops hlen1 hlk
  have ho0:ops0[tr1.length]? =some o:=by have:=hops 0; rw [hlen1]; simpa using this.symm
  have hops2:∀j,r[j]? =ops0[i+1+j]? :=λj=>by have:=hops (j+1); rw [show i+1+j=i+(j+1) by omega,<- this]; rfl
  have hr1:RGo ⟨e,h,n,gh⟩ (atB (some b) i s) q:=hr.mono hn
  have hb:inB (some b) i (atB (some b) i s)=true:=by simpa [inB,atB]using qty (base:=b) (i:=i)
  obtain ⟨s',q',t,h1,hb2,h2⟩:=qji (dr:=some b) htb hg hr1 hb hz
  have hb3:s'.next<=b+room * (i+1):=by simpa [inB]using hb2
  have hlen:i+(o :: r).length=i+1+r.length:=by simp only [List.length_cons]; omega
  rw [hlen]
  have hfs:∀t∈o.o.dst.toList,t∈(o :: r).filterMap (·.o.dst):=λt ht=>by
   rw [Option.mem_toList]at ht
   exact List.mem_filterMap.2 ⟨o,by simp,ht⟩
  have hrs:∀t∈r.filterMap (·.o.dst),t∈(o :: r).filterMap (·.o.dst):=λt ht=>by
   obtain ⟨p,hp,hpt⟩:=List.mem_filterMap.1 ht
   exact List.mem_filterMap.2 ⟨p,by simp [hp],hpt⟩
  have f0:Fr ((o :: r).filterMap (·.o.dst)) ⟨e,h,n,gh⟩ ⟨e,h,n,gh⟩ s (atB (some b) i s):=⟨[],rfl,FrW.next hn⟩
  rcases h2 with ⟨hw,call,x,u,ids,m,hc,he,hi,hu,hr2,hf⟩ | ⟨hw,hr2,hf⟩
  ·have hm:m<=b+room * (i+1):=Nat.le_trans hr2.r.next hb3
   refine qsj hc ?_ (WD.mono (λe' h' tr1' ⟨s3,tr3,n3,g1,g2,g3⟩=>⟨s3,tr3,n3,g1,(f0.trans (hf.mono hfs)).trans (g2.mono hrs),g3⟩) (ih (i+1) _ _ _ _ _ _ _ (tr1++ [(ids,u.map (·.1))]) h1 hr2 hb3 (ht.app hi λj hj=> ?_) hops2 (by simp [hlen1]) (qs3 hlk ho0 λhl=>qv8 he hl)))
   ·simp only [stepD,hw]
    have he':ev1 call o.o.k (o.o.args.map (opv e)) h (b+room * i)=some (x,u,ids,m):=he
    rw [he']
    exact qw6 hm
   ·obtain ⟨p,hp,rfl⟩:=List.mem_map.1 hj
    exact hu p hp
  ·refine qsj q79 ?_ (WD.mono (λe' h' tr1' ⟨s3,tr3,n3,g1,g2,g3⟩=>⟨s3,tr3,n3,g1,(f0.trans (hf.mono hfs)).trans (g2.mono hrs),g3⟩) (ih (i+1) _ _ _ _ _ _ _ (tr1++ [([], [])]) h1 hr2 hb3 (ht.app (λi hi=>by simp at hi) λi hi=>by simp at hi) hops2 (by simp [hlen1]) (qs3 hlk ho0 λ_=>Nat.zero_le _)))
   simp only [stepD,hw]
end
end Go.Ev

namespace Go.Ev
def erase:C2->CC
 | .skip=> .skip
 | .reg ops none _=> .region (ops.map (·.o)) []
 | .reg ops (some dyn) _=> .drawn (ops.map (·.o)) dyn []
 | .seq a b _=> .seq (erase a) (erase b)
 | .cond c a b=> .cond c (erase a) (erase b)
 | .block id a=> .block id (erase a)
 | .loop _ _ a=> .loop [] (erase a)
 | .exit id=> .exit id
 | .ret=> .ret
 | .bad=> .bad
theorem quz{s1:St}{s s':S2}{id:Nat}(hz:absO s id=some s')(hr:R2 s1 s):∃s1',Sub s1 s1'/\R2 s1' s'/\Fr [] s1 s1' s s':=by
 unfold absO at hz
 split at hz
 ·rename_i t v m id2 ho
  split at hz
  ·rename_i u r ver ho2
   split at hz
   ·rename_i r' hr'
    obtain rfl:=Option.some.inj hz
    obtain ⟨e,e2⟩:=q0h hr'
    cases e
    obtain rfl:r'=r:=e2
    obtain ⟨_,⟨d1,d2,d3⟩,hlen,hid2,hkk⟩:=hr.hr.ob id _ ho
    obtain ⟨_,⟨_,_,c3⟩,_⟩:=hr.hr.ob id2 _ ho2
    obtain ⟨k1,k2⟩:=hkk _ _ _ (.inl ho2)
    have hne:id2≠id:=λe=>by rw [e,ho]at ho2; cases ho2
    cases v with
    | nil=>simp [Sl.l]at hlen
    | mk l=>
     have hlen:m < l.length:=hlen
     have d3:=d3 l rfl
     have fin:∀(u:Upd),(∀ p∈u,p.1=id\/p.1=id2)->look (u++s1.heap) id=some (.nst (szT t) ((q0z t l (some (m,id2))).set m (slotV t r')))->Sub s1 ⟨s1.env,u++s1.heap,s1.next,s1.gh⟩->
       ∃s1',Sub s1 s1'/\R2 s1' (updO (updO s id2 none) id (some (.rw t (.mk (l.set m r')) none)))/\Fr [] s1 s1' s (updO (updO s id2 none) id (some (.rw t (.mk (l.set m r')) none))):=by
      intro u hu hb hsub
      have d:=(qdf (ids:= []) hr.hr ho ho2 hne (by simp [slotB]) hu hb (λi hi=>by simp at hi)).nx (q:=s1.next) hr.next
      exact ⟨_,hsub,((RGo.none hr).step d (d:=none) (q':=⟨[], []⟩) rfl).r,Fr.did d none (v':= .no)⟩
     have hl:(q0z t l (some (m,id2)))[m]? =some (outV id2 (gt l m)):=by
      simp only [q0z]
      rw [List.getElem?_set_self (by rw [List.length_map]; exact hlen)]
     cases r' with
     | nil=>
      refine fin [] (λp hp=>by simp at hp) ?_ (Sub.refl _)
      have:gt l m= .nil:=by
       have k1:true=(gt l m).isNil:=k1
       cases hg:gt l m with
       | nil=>rfl
       | mk=>rw [hg]at k1; cases k1
      rw [List.nil_append,d3,qs2 (by rw [hl,this]; rfl)]
     | mk rr=>
      have c3:=c3 rr rfl
      refine fin [(id,some (.nst (szT t) ((q0z t l (some (m,id2))).set m (slotV t (.mk rr))))),(id2,none)] (λp hp=>by
       simp at hp
       rcases hp with rfl | rfl <;> simp) (by rw [List.cons_append,q0i,if_pos rfl]) ?_
      have:outV id2 (gt l m)= .out id2 (rr.map (encE t)).length:=by
       have k1:false=(gt l m).isNil:=k1
       cases hg:gt l m with
       | nil=>rw [hg]at k1; cases k1
       | mk q=>
        have k2:rr.length=(gt l m).l.length:=k2
        rw [hg]at k2
        simp only [outV,List.length_map]
        rw [show rr.length=q.length from k2]
      exact qkw d3 (by rw [hl,this]) c3
   ·simp at hz
  ·simp at hz
 ·obtain rfl:=Option.some.inj hz
  exact ⟨s1,Sub.refl _,hr,Fr.refl⟩
theorem qug:∀(l:List Nat) {s1:St} {s s':S2},qii l s=some s'->R2 s1 s->∃s1',Sub s1 s1'/\R2 s1' s'/\Fr [] s1 s1' s s':=by
 intro l
 induction l with
 | nil=>
  intro s1 s s' hz hr
  obtain rfl:=Option.some.inj hz
  exact ⟨s1,Sub.refl _,hr,Fr.refl⟩
 | cons id l ih=>
  intro s1 s s' hz hr
  simp only [qii]at hz
  split at hz
  ·rename_i s2 h2
   obtain ⟨t1,a1,a2,a3⟩:=quz h2 hr
   obtain ⟨t2,b1,b2,b3⟩:=ih hz a2
   exact ⟨t2,a1.trans b1,b2,a3.trans b3⟩
  ·simp at hz
theorem qit{P:Program}{β:Type}{tb:Tab}(htb:TabOk P tb)(hg:GlbOk){ops:List OP}{dr:Option (List (Nat×Nat))}{jn:Option J}{s1:St}{s:S2}{k:S2->Option β}{z:β}(hz:evReg tb ops dr s k=some z)(hr:R2 s1 s):
  W P (erase (.reg ops dr jn)) s1 λo s1'=>o= .normal/\∃s',R2 s1' s'/\Fr (ops.filterMap (·.o.dst)) s1 s1' s s'/\k s'=some z:=by
 have fin:∀ {s1':St} {s':S2},R2 s1' s'->Fr (ops.filterMap (·.o.dst)) s1 s1' s s'->(absE s s').bind k=some z->
   wk (λt=>Out.normal=Out.normal/\∃s',R2 t s'/\Fr (ops.filterMap (·.o.dst)) s1 t s s'/\k s'=some z) s1':=by
  intro s1' s' h1 h2 h3
  obtain ⟨s2,h4,h5⟩:=bnd h3
  obtain ⟨t,a1,a2,a3⟩:=qug _ h4 h1
  exact ⟨t,a1,rfl,s2,a2,h2.trans (a3.mono λi hi=>by simp at hi),h5⟩
 cases dr with
 | none=>
  refine qr5 (WO.mono (λs1' ⟨s',tr',h1,h2,h3⟩=>fin h1 h2 h3) (qog htb hg ops 0 s1 s _ [] hz (RGo.none hr)))
 | some dyn=>
  refine W.sub (s':= { s1 with next:=s.next }) (Sub.heap (λ_=> .inl rfl) hr.next) (qua (WD.mono (λe' h' tr1 hq=> ?_) (qp5 htb hg ops ops 0 s1.env s1.heap s1.next s1.gh s _ [] [] hz (RGo.none hr) (Nat.le_add_right _ _) trivial (λj=>by rw [Nat.zero_add]) rfl (λj o a _ h=>by simp at h))))
  obtain ⟨s',tr',n',h1,h2,h3,h4,hlk,h5⟩:=hq
  obtain ⟨h6,h7⟩:=q00 h5
  have hn:s'.next<=s.next+room * ops.length:=by rw [Nat.zero_add]at h3; exact h3
  have hlen:s.next+room * (ops.map (·.o)).length=s.next+room * ops.length:=by rw [List.length_map]
  rw [hlen]
  refine ⟨qvr h4 hlk h6,fin ((h1.mono hn).nx (Nat.le_refl _)) ?_ h7⟩
  obtain ⟨w,e1,e2⟩:=h2
  refine ⟨w,e1, ?_⟩
  have a:FrW (ops.filterMap (·.o.dst)) [] s1 ⟨s1.env,s1.heap,s1.next,s1.gh⟩ s s:=FrW.next (Nat.le_refl _)
  have b:FrW (ops.filterMap (·.o.dst)) [] ⟨e',h',n',s1.gh⟩ ⟨e',h',s.next+room * ops.length,s1.gh⟩ s' { s' with next:=s.next+room * ops.length }:=FrW.next hn
  simpa using e2.trans b
theorem qsm(l:List D):idsC.idsL (l.map C.d)= []:=by
 induction l with
 | nil=>rfl
 | cons a l ih=>simp only [List.map_cons,idsC.idsL,idsC,List.nil_append]; exact ih
theorem qrx(a b:List C):idsC.idsL (a++b)=idsC.idsL a++idsC.idsL b:=by
 induction a with
 | nil=>rfl
 | cons c a ih=>simp only [List.cons_append,idsC.idsL,ih,List.append_assoc]
theorem q56(c:C):idsC.idsL [c]=idsC c:=by simp [idsC.idsL]
theorem qir{h:H2}{n:Nat}:∀ {v:V} {cs:List C},celR h v cs->okV n h v->∀i∈idsC.idsL cs,i < n/\(alv h v=true->fO h i≠none):=by
 have ex:∀id,(match fO h id with | some _=>true | none=>false)=true->fO h id≠none:=by
  intro id ha e
  rw [e]at ha; simp at ha
 intro v
 induction v with
 | x t v=>
  rintro cs ⟨_,rfl⟩ _ i hi
  rw [qsm]at hi; simp at hi
 | kb c=>rintro cs rfl _ i hi; simp [idsC.idsL,idsC]at hi
 | nl k=>rintro cs rfl _ i hi; simp [idsC.idsL,nlC,idsC]at hi
 | so id=>
  rintro cs ⟨c,rfl,_,hc⟩ hk i hi
  rw [q56]at hi
  obtain rfl:=hc i hi
  refine ⟨hk,λha e=> ?_⟩
  simp [alv,e]at ha
 | sr id=>
  rintro cs ⟨c,rfl,_,hc⟩ hk i hi
  rw [q56]at hi
  obtain rfl:=hc i hi
  refine ⟨hk,λha e=> ?_⟩
  simp [alv,e]at ha
 | sb id ver lo t r=>
  rintro cs ⟨c,rfl,_,hc⟩ hk i hi
  rw [q56]at hi
  obtain rfl:=hc i hi
  refine ⟨hk.1,λha e=> ?_⟩
  simp [alv,e]at ha
 | op id t p=>
  rintro cs rfl hk i hi
  rw [q56]at hi
  obtain rfl:i=id:=by simpa [idsC]using hi
  exact ⟨hk.1,ex _⟩
 | ep id m t p=>
  rintro cs rfl hk i hi
  rw [q56]at hi
  obtain rfl:i=id:=by simpa [idsC]using hi
  exact ⟨hk.1,ex _⟩
 | om id=>
  rintro cs rfl hk i hi
  rw [q56]at hi
  obtain rfl:i=id:=by simpa [idsC]using hi
  exact ⟨hk,ex _⟩
 | pt t v=>rintro cs ⟨_,rfl⟩ _ i hi; simp [idsC.idsL,idsC]at hi
 | fn z f l ih=>
  intro cs hc hk i hi
  cases z with
  | true=>
   obtain ⟨ds,_,rfl⟩:=hc
   simp [idsC.idsL,idsC]at hi
  | false=>
   obtain ⟨xs,h1,rfl⟩:=hc
   rw [q56]at hi
   exact ih h1 hk i (by simpa [idsC]using hi)
 | rc l ih=>intro cs hc hk; exact ih hc hk
 | fl l=>
  rintro cs ⟨_,rfl⟩ _ i hi
  have:lits l=(l.map D.lit).map C.d:=by simp [lits]
  rw [this,qsm]at hi; simp at hi
 | ni=>rintro cs rfl _ i hi; simp [idsC.idsL]at hi
 | co a r iha ihr=>
  rintro cs ⟨x,y,rfl,h1,h2⟩ ⟨k1,k2⟩ i hi
  rw [qrx,List.mem_append]at hi
  simp only [alv,Bool.and_eq_true]
  rcases hi with hi | hi
  ·exact ⟨(iha h1 k1 i hi).1,λha=>(iha h1 k1 i hi).2 ha.1⟩
  ·exact ⟨(ihr h2 k2 i hi).1,λha=>(ihr h2 k2 i hi).2 ha.2⟩
 | tp l=>intro cs hc; exact hc.elim
 | no=>intro cs hc; exact hc.elim
 | gn=>intro cs hc; exact hc.elim
theorem qde{h:H2}{n:Nat}{v:V}{x:TV}(hx:tv1R h v x)(hk:okV n h v):∀i∈idsTV x,i < n/\(alv h v=true->fO h i≠none):=by
 obtain ⟨cs,h1,h2,h3⟩:=hx
 intro i hi
 refine qir h1 hk i ?_
 cases ha:agV v with
 | true=>rw [h2 ha]at hi; exact hi
 | false=>
  obtain ⟨c,rfl,rfl⟩:=h3 ha
  rw [q56]; exact hi
theorem qqg{h:H2}{n:Nat}:∀ {v:V} {xs:List TV},tvLR h v xs->okV n h v->∀i∈idsTV.idsT xs,i < n/\(alv h v=true->fO h i≠none):=by
 intro v
 induction v with
 | ni=>rintro xs rfl _ i hi; simp [idsTV.idsT]at hi
 | co a r _ ihr=>
  rintro xs ⟨x,ys,rfl,h1,h2⟩ ⟨k1,k2⟩ i hi
  simp only [idsTV.idsT,List.mem_append]at hi
  simp only [alv,Bool.and_eq_true]
  rcases hi with hi | hi
  ·exact ⟨(qde h1 k1 i hi).1,λha=>(qde h1 k1 i hi).2 ha.1⟩
  ·exact ⟨(ihr h2 k2 i hi).1,λha=>(ihr h2 k2 i hi).2 ha.2⟩
 | _=>intro xs h; exact h.elim
theorem qm2{h:H2}{n:Nat}{v:V}{x:TV}(hx:tvR h v x)(hk:okV n h v):∀i∈idsTV x,i < n/\(alv h v=true->fO h i≠none):=by
 cases v with
 | tp l=>obtain ⟨xs,rfl,h2⟩:=hx; intro i hi; exact qqg (v:=l) h2 hk i hi
 | no=>obtain rfl:=hx; intro i hi; simp [idsTV,idsTV.idsT]at hi
 | gn=>exact hx.elim
 | _=>exact qde hx hk
mutual
def TrC(M:Nat->Nat->Prop):C->C->Prop
 | .d x,y=>y= .d x
 | .osl a i b c,y=>∃j,M i j/\y= .osl a j b c
 | .ep i b c,y=>∃j,M i j/\y= .ep j b c
 | .op i b,y=>∃j,M i j/\y= .op j b
 | .om i,y=>∃j,M i j/\y= .om j
 | .ofn f l,y=>∃m,TrL M l m/\y= .ofn f m
def TrL(M:Nat->Nat->Prop):List C->List C->Prop
 | [],m=>m= []
 | c :: l,m=>∃d r,TrC M c d/\TrL M l r/\m=d :: r
end
mutual
def TrT(M:Nat->Nat->Prop):TV->TV->Prop
 | .c x,y=>∃d,TrC M x d/\y= .c d
 | .agg l,y=>∃m,TrL M l m/\y= .agg m
 | .tup l,y=>∃m,TrTs M l m/\y= .tup m
def TrTs(M:Nat->Nat->Prop):List TV->List TV->Prop
 | [],m=>m= []
 | c :: l,m=>∃d r,TrT M c d/\TrTs M l r/\m=d :: r
end
section
variable {M:Nat->Nat->Prop}
theorem TrL.d(l:List D):TrL M (l.map .d) (l.map .d):=by
 induction l with
 | nil=>rfl
 | cons a l ih=>exact ⟨_,_,rfl,ih,rfl⟩
theorem TrL.app{a b x y:List C}(h1:TrL M a x)(h2:TrL M b y):TrL M (a++b) (x++y):=by
 induction a generalizing x with
 | nil=>obtain rfl:=h1; exact h2
 | cons c a ih=>
  obtain ⟨d,r,h3,h4,rfl⟩:=h1
  exact ⟨d,r++y,h3,ih h4,rfl⟩
theorem TrL.one{c d:C}(h:TrC M c d):TrL M [c] [d]:=⟨d, [],h,rfl,rfl⟩
mutual
theorem TrC.same:∀(c:C),(∀ i∈idsC c,M i i)->TrC M c c
 | .d x,_=>rfl
 | .osl a i b c,h=>⟨i,h i (by simp [idsC]),rfl⟩
 | .ep i b c,h=>⟨i,h i (by simp [idsC]),rfl⟩
 | .op i b,h=>⟨i,h i (by simp [idsC]),rfl⟩
 | .om i,h=>⟨i,h i (by simp [idsC]),rfl⟩
 | .ofn f l,h=>⟨l,TrL.same l (λi hi=>h i (by simpa [idsC]using hi)),rfl⟩
theorem TrL.same:∀(l:List C),(∀ i∈idsC.idsL l,M i i)->TrL M l l
 | [],_=>rfl
 | c :: l,h=>⟨c,l,TrC.same c (λi hi=>h i (by simp [idsC.idsL,hi])),TrL.same l (λi hi=>h i (by simp [idsC.idsL,hi])),rfl⟩
end
mutual
theorem TrT.same:∀(x:TV),(∀ i∈idsTV x,M i i)->TrT M x x
 | .c x,h=>⟨x,TrC.same x h,rfl⟩
 | .agg l,h=>⟨l,TrL.same l h,rfl⟩
 | .tup l,h=>⟨l,TrTs.same l h,rfl⟩
theorem TrTs.same:∀(l:List TV),(∀ i∈idsTV.idsT l,M i i)->TrTs M l l
 | [],_=>rfl
 | c :: l,h=>⟨c,l,TrT.same c (λi hi=>h i (by simp [idsTV.idsT,hi])),TrTs.same l (λi hi=>h i (by simp [idsTV.idsT,hi])),rfl⟩
end
mutual
theorem TrC.ren{i' i:Nat}(hm:M i' i):∀(c:C),(∀ j∈idsC c,j=i)->∃c',TrC M c' c/\∀j∈idsC c',j=i'
 | .d x,_=>⟨.d x,rfl,λj hj=>by simp [idsC]at hj⟩
 | .osl a j b c,h=>by obtain rfl:=h j (by simp [idsC]); exact ⟨.osl a i' b c,⟨_,hm,rfl⟩,λj hj=>by simpa [idsC]using hj⟩
 | .ep j b c,h=>by obtain rfl:=h j (by simp [idsC]); exact ⟨.ep i' b c,⟨_,hm,rfl⟩,λj hj=>by simpa [idsC]using hj⟩
 | .op j b,h=>by obtain rfl:=h j (by simp [idsC]); exact ⟨.op i' b,⟨_,hm,rfl⟩,λj hj=>by simpa [idsC]using hj⟩
 | .om j,h=>by obtain rfl:=h j (by simp [idsC]); exact ⟨.om i',⟨_,hm,rfl⟩,λj hj=>by simpa [idsC]using hj⟩
 | .ofn f l,h=>by
  obtain ⟨l',h1,h2⟩:=TrL.ren hm l (λj hj=>h j (by simpa [idsC]using hj))
  exact ⟨.ofn f l',⟨l,h1,rfl⟩,λj hj=>h2 j (by simpa [idsC]using hj)⟩
theorem TrL.ren{i' i:Nat}(hm:M i' i):∀(l:List C),(∀ j∈idsC.idsL l,j=i)->∃l',TrL M l' l/\∀j∈idsC.idsL l',j=i'
 | [],_=>⟨[],rfl,λj hj=>by simp [idsC.idsL]at hj⟩
 | c :: l,h=>by
  obtain ⟨c',h1,h2⟩:=TrC.ren hm c (λj hj=>h j (by simp [idsC.idsL,hj]))
  obtain ⟨l',h3,h4⟩:=TrL.ren hm l (λj hj=>h j (by simp [idsC.idsL,hj]))
  refine ⟨c' :: l',⟨c,l,h1,h3,rfl⟩,λj hj=> ?_⟩
  simp only [idsC.idsL,List.mem_append]at hj
  exact hj.elim (h2 j) (h4 j)
end
mutual
theorem TrC.eq(B:Nat->Prop)(hM:∀i j,M i j->i=j\/B j):∀(c' c:C),TrC M c' c->(∀ i∈idsC c,¬B i)->c'=c
 | .d x,c,h,_=>h.symm
 | .osl a i b e,c,h,hb=>by
  obtain ⟨j,h1,rfl⟩:=h
  rcases hM i j h1 with rfl | q
  ·rfl
  ·exact absurd q (hb j (by simp [idsC]))
 | .ep i b e,c,h,hb=>by
  obtain ⟨j,h1,rfl⟩:=h
  rcases hM i j h1 with rfl | q
  ·rfl
  ·exact absurd q (hb j (by simp [idsC]))
 | .op i b,c,h,hb=>by
  obtain ⟨j,h1,rfl⟩:=h
  rcases hM i j h1 with rfl | q
  ·rfl
  ·exact absurd q (hb j (by simp [idsC]))
 | .om i,c,h,hb=>by
  obtain ⟨j,h1,rfl⟩:=h
  rcases hM i j h1 with rfl | q
  ·rfl
  ·exact absurd q (hb j (by simp [idsC]))
 | .ofn f l,c,h,hb=>by
  obtain ⟨m,h1,rfl⟩:=h
  rw [TrL.eq B hM l m h1 λi hi=>hb i (by simpa [idsC]using hi)]
theorem TrL.eq(B:Nat->Prop)(hM:∀i j,M i j->i=j\/B j):∀(l' l:List C),TrL M l' l->(∀ i∈idsC.idsL l,¬B i)->l'=l
 | [],l,h,_=>h.symm
 | c :: r,l,h,hb=>by
  obtain ⟨d,m,h1,h2,rfl⟩:=h
  rw [TrC.eq B hM c d h1 λi hi=>hb i (by simp [idsC.idsL,hi]),TrL.eq B hM r m h2 λi hi=>hb i (by simp [idsC.idsL,hi])]
end
theorem TrT.eq1(B:Nat->Prop)(hM:∀i j,M i j->i=j\/B j){x' x:TV}(h:TrT M x' x)(hn:∀l,x'≠ .tup l)(hb:∀i∈idsTV x,¬B i):x'=x:=by
 cases x' with
 | c a=>obtain ⟨d,h1,rfl⟩:=h; rw [TrC.eq B hM a d h1 hb]
 | agg a=>obtain ⟨d,h1,rfl⟩:=h; rw [TrL.eq B hM a d h1 hb]
 | tup l=>exact absurd rfl (hn l)
theorem TrL.len:∀ {l m:List C},TrL M l m->l.length=m.length
 | [],m,h=>by obtain rfl:=h; rfl
 | c :: l,m,h=>by obtain ⟨d,r,_,h2,rfl⟩:=h; simp [TrL.len h2]
section
variable {S : Nat → Prop} {w : World} {Kn Kn' : Nat → Prop} {φ φ' : Nat → Loc}
mutual
theorem TrC.rc (hM : ∀ i j, M i j → Kn j → Kn' i ∧ φ' i = φ j) : ∀ (c' c : C) (v : Value), TrC M c' c → RC S w Kn φ c v → RC S w Kn' φ' c' v
 | .d x,c,v,h,hr=>by
  obtain rfl:=h
  cases hr with
  | d hd=>exact .d hd
 | .osl a i b e,c,v,h,hr=>by
  obtain ⟨j,h1,rfl⟩:=h
  obtain ⟨cap,addr,rfl,rfl,hk,hcap,haddr,hext,hcl⟩:=hr.osl_inv
  obtain ⟨e2,e1⟩:=hM i j h1 hk
  have := RC.osl (S := S) (w := w) (Kn := Kn') (φ := φ') (id := i) (off := b) (len := e) (cap := cap) (addr := addr) e2 hcap (by rw [e1]; exact haddr) (by rw [e1]; exact hext) (by rw [e1]; exact hcl)
  rw [e1]at this
  exact this
 | .ep i b e,c,v,h,hr=>by
  obtain ⟨j,h1,rfl⟩:=h
  cases hr with
  | ep hk=>
   obtain ⟨e2,e1⟩:=hM i j h1 hk
   have := RC.ep (S := S) (w := w) (Kn := Kn') (φ := φ') (id := i) (row := b) (off := e) e2
   rw [e1]at this
   exact this
 | .op i b,c,v,h,hr=>by
  obtain ⟨j,h1,rfl⟩:=h
  cases hr with
  | op hk=>
   obtain ⟨e2,e1⟩:=hM i j h1 hk
   have := RC.op (S := S) (w := w) (Kn := Kn') (φ := φ') (id := i) (off := b) e2
   rw [e1]at this
   exact this
 | .om i,c,v,h,hr=>by
  obtain ⟨j,h1,rfl⟩:=h
  cases hr with
  | om hk=>
   obtain ⟨e2,e1⟩:=hM i j h1 hk
   have := RC.om (S := S) (w := w) (Kn := Kn') (φ := φ') (id := i) e2
   rw [e1]at this
   exact this
 | .ofn f l,c,v,h,hr=>by
  obtain ⟨m,h1,rfl⟩:=h
  cases hr with
  | ofn hlen hrc=>exact .ofn ((TrL.len h1).trans hlen) (TrL.rc hM l m _ h1 hrc)
theorem TrL.rc (hM : ∀ i j, M i j → Kn j → Kn' i ∧ φ' i = φ j) : ∀ (l' l : List C) (f : Nat → Value), TrL M l' l → (∀ (i : Nat) (x : C), l[i]? = some x → RC S w Kn φ x (f i)) → ∀ (i : Nat) (x : C), l'[i]? = some x → RC S w Kn' φ' x (f i)
 | [],l,f,h,_=>λi x hi=>by simp at hi
 | c :: r,l,f,h,hr=>by
  obtain ⟨d,m,h1,h2,rfl⟩:=h
  intro i x hi
  cases i with
  | zero=>
   obtain rfl:c=x:=by simpa using hi
   exact TrC.rc hM c d _ h1 (hr 0 d rfl)
  | succ i=>exact TrL.rc hM r m (λi=>f (i+1)) h2 (λi x hi=>hr (i+1) x (by simpa using hi)) i x (by simpa using hi)
end
mutual
theorem TrT.rc (hM : ∀ i j, M i j → Kn j → Kn' i ∧ φ' i = φ j) : ∀ (x' x : TV) (v : Value), TrT M x' x → RTV S w Kn φ x v → RTV S w Kn' φ' x' v
 | .c a,x,v,h,hr=>by
  obtain ⟨d,h1,rfl⟩:=h
  cases hr with
  | c hr=>exact .c (TrC.rc hM a d v h1 hr)
 | .agg a,x,v,h,hr=>by
  obtain ⟨d,h1,rfl⟩:=h
  cases hr with
  | agg hlen hr=>exact .agg ((TrL.len h1).trans hlen) (TrL.rc hM a d _ h1 hr)
 | .tup a,x,v,h,hr=>by
  obtain ⟨d,h1,rfl⟩:=h
  cases hr with
  | tup hlen hr=>
   obtain ⟨e1,e2⟩:=TrTs.rc hM a d _ h1 hr
   exact .tup (e1.trans hlen) e2
theorem TrTs.rc (hM : ∀ i j, M i j → Kn j → Kn' i ∧ φ' i = φ j) : ∀ (l' l : List TV) (f : Nat → Value), TrTs M l' l → (∀ (i : Nat) (x : TV), l[i]? = some x → RTV S w Kn φ x (f i)) → l'.length = l.length ∧ ∀ (i : Nat) (x : TV), l'[i]? = some x → RTV S w Kn' φ' x (f i)
 | [],l,f,h,_=>by obtain rfl:=h; exact ⟨rfl,λi x hi=>by simp at hi⟩
 | c :: r,l,f,h,hr=>by
  obtain ⟨d,m,h1,h2,rfl⟩:=h
  obtain ⟨e1,e2⟩:=TrTs.rc hM r m (λi=>f (i+1)) h2 (λi x hi=>hr (i+1) x (by simpa using hi))
  refine ⟨by simp [e1],λi x hi=> ?_⟩
  cases i with
  | zero=>
   obtain rfl:c=x:=by simpa using hi
   exact TrT.rc hM c d _ h1 (hr 0 d rfl)
  | succ i=>exact e2 i x (by simpa using hi)
end
end
end
end Go.Ev

namespace Go.Ev
theorem qsc{s1 s1':St}{s:S2}(hr:R2 s1 s){t id ver lo v0:Nat}{u u0:Ty}{x:Sl (El u)}{s0:Sl (El u0)}(hid:id < s.next)(he:∀t',t'≠t->fnd s1'.env t'=fnd s1.env t')(ht1:fnd s1'.env t=some (.c (slC (szT u) (encE u) s.next x)))
  (hh:∀i,i≠id->i≠s.next->look s1'.heap i=look s1.heap i) (hn:∀g,obR g (.ar u x 0) (look s1'.heap s.next)) (hnx:s1'.next<=s.next+1) (hgh:s1'.gh=s1.gh) (hte:∀x0,fnd s1.env t=some x0->id∉idsTV x0->fnd s1'.env t=some x0):
  R2 s1' ⟨(t, .so s.next) :: s.env,(s.next,some (.ar u x 0)) :: (id,none) :: s.heap,s.next+1,s.next :: id :: s.wo,s.gh⟩/\
  Fr [] s1 s1' s ⟨(t, .so s.next) :: s.env,(s.next,some (.ar u x 0)) :: (id,none) :: s.heap,s.next+1,s.next :: id :: s.wo,s.gh⟩:=by
 have hfo:∀i,fO ((s.next,some (.ar u x 0)) :: (id,none) :: s.heap) i=if s.next=i then some (.ar u x 0)else if id=i then none else fO s.heap i:=λi=>by rw [q0g,q0g]
 have hst:HSt s.next s.heap ((s.next,some (.ar u x 0)) :: (id,none) :: s.heap):=⟨λi o' hi ho=>by
  rw [hfo,if_neg (by omega)]at ho
  split at ho
  ·simp at ho
  ·exact .inl ⟨o',ho,OSt.refl _⟩⟩
 have hnb:∀i,i < s.next->fO s.heap i=none->fO ((s.next,some (.ar u x 0)) :: (id,none) :: s.heap) i=none:=λi hi h=>by
  rw [hfo,if_neg (by omega)]
  split
  ·rfl
  ·exact h
 refine ⟨⟨λt' v ht'=> ?_,⟨λi o ho=> ?_⟩,hnx, ?_⟩, ?_⟩
 ·simp only [fnd]at ht'
  by_cases e:t=t'
  ·subst e
   have e':(t == t)=true:=by simp
   rw [e',cond_true]at ht'
   obtain rfl:=Option.some.inj ht'
   exact ⟨Nat.lt_succ_self _,λ_=>⟨_,ht1,qc8⟩⟩
  ·have e':(t == t')=false:=by simpa using e
   rw [e',cond_false]at ht'
   obtain ⟨h1,h2⟩:=hr.env t' v ht'
   refine ⟨q1j (Nat.le_succ _) hst h1,λha=> ?_⟩
   obtain ⟨y,h3,h4⟩:=h2 (ha.imp (qae hst hnb h1) λq=>q)
   exact ⟨y,(he t' λq=>e q.symm).trans h3,qai hst h1 h4⟩
 ·have ho':=ho
  rw [hfo]at ho
  split at ho
  ·rename_i e
   subst e
   obtain rfl:=Option.some.inj ho
   exact ⟨Nat.lt_succ_self _,hn _,trivial⟩
  ·rename_i e
   split at ho
   ·simp at ho
   ·rename_i e2
    obtain ⟨h1,h2,h3⟩:=hr.hr.ob i o ho
    rw [hh i (λq=>e2 q.symm) (λq=>e q.symm)]
    exact ⟨Nat.lt_succ_of_lt h1,q5v hst h3 h2,q5c (Nat.le_succ _) hst h3⟩
 ·rw [hgh]
  exact ⟨qih hst hnb hr.gh.2 hr.gh.1,q1j (Nat.le_succ _) hst hr.gh.2⟩
 ·refine ⟨[s.next,id],rfl,Nat.le_succ _,hst,by rw [hgh],λi hi hw=> ?_,λt' y _ hy hk=> ?_⟩
  ·simp only [List.mem_cons,List.not_mem_nil,or_false,not_or]at hw
   refine ⟨?_,λo _ g hg=>by rw [hh i hw.2 hw.1]; exact hg⟩
   show fO ((s.next,some (.ar u x 0)) :: (id,none) :: s.heap) i=_
   rw [hfo,if_neg λq=>hw.1 q.symm,if_neg λq=>hw.2 q.symm]
  ·by_cases e:t'=t
   ·subst e
    exact hte y hy λq=>(hk id q).2.1 (by simp)
   ·rw [he t' e]; exact hy
theorem qtw{s1:St}{s:S2}(hr:R2 s1 s){t id ver lo v0:Nat}{u u0:Ty}{x:Sl (El u)}{s0:Sl (El u0)}(ht:fnd s.env t=some (.sb id ver lo u x))(ho:fO s.heap id=some (.ar u0 s0 v0))(hd:dat u=true)(hv:(v0 == ver)=true):
  ∃s1',Sub s1 s1'/\R2 s1' ⟨(t, .so s.next) :: s.env,(s.next,some (.ar u x 0)) :: (id,none) :: s.heap,s.next+1,s.next :: id :: s.wo,s.gh⟩/\
   Fr [] s1 s1' s ⟨(t, .so s.next) :: s.env,(s.next,some (.ar u x 0)) :: (id,none) :: s.heap,s.next+1,s.next :: id :: s.wo,s.gh⟩:=by
 obtain ⟨hk,hx⟩:=hr.env t _ ht
 have ha:alv s.heap (.sb id ver lo u x)=true:=by simp only [alv,ho,hd,hv,Bool.and_self]
 obtain ⟨y,hy,hty⟩:=hx (.inl ha)
 obtain rfl:=q7w hty ha
 obtain ⟨hid,hk2⟩:=hk
 obtain ⟨_,hcut⟩:=hk2 u0 s0 v0 (.inl ho)
 obtain ⟨hsz,hcut⟩:=hcut (by simpa using hv)
 obtain ⟨hd0,hs0,hlk⟩:=(hr.hr.ob id _ ho).2.1
 have hne:id≠s.next:=Nat.ne_of_lt hid
 cases s0 with
 | nil=>
  cases x with
  | mk l=>exact hcut.elim
  | nil=>
   refine ⟨{ s1 with next:=s.next },Sub.heap (λ_=> .inl rfl) hr.next,qsc (v0:=0) (ver:=0) (lo:=0) (u0:=u) (s0:= .nil) hr hid (λ_ _=>rfl) hy (λ_ _ _=>rfl) (λg=>⟨hd,hsz▸hs0,λl e=>by cases e⟩) (Nat.le_succ _) rfl λx0 h0 _=>h0⟩
 | mk l0=>
  cases x with
  | nil=>exact hcut.elim
  | mk l=>
   obtain ⟨h1,h2⟩:=hcut
   have hlk:=hlk l0 rfl
   have hsub:=qtm (n:=s.next) (gh:=s1.gh) (rows':=l.map (encE u)) hy hlk (by rw [List.length_map]; exact h2) (by rw [List.length_map,List.length_map]; exact h1)
   refine ⟨_,Sub.trans (Sub.heap (λ_=> .inl rfl) hr.next) hsub,qsc (v0:=0) (ver:=0) (lo:=0) (u0:=u) (s0:= .nil) hr hid (λt' ht'=> ?_) ?_ (λi h3 h4=> ?_) (λg=>⟨hd,hsz▸hs0,λl' e=> ?_⟩) (Nat.le_refl _) rfl λx0 h0 h3=> ?_⟩
   ·have e':(t == t')=false:=by simpa using λq:t=t'=>ht' q.symm
    simp only [fnd,e',cond_false]
   ·simp only [fnd,slC]; simp
   ·simp only [q0i]
    rw [if_neg λq=>h3 q.symm,if_neg λq=>h4 q.symm]
   ·cases e
    simp only [q0i]
    rw [if_neg hne]
    simp
   ·rw [hy]at h0
    obtain rfl:=Option.some.inj h0
    exact absurd (by simp [idsTV,sbC,idsC]) h3
theorem qf1:∀(vs:List (Nat×JV)) (s1:St) (s:S2),R2 s1 s->∃s1',Sub s1 s1'/\R2 s1' (cutV vs s)/\Fr [] s1 s1' s (cutV vs s):=by
 intro vs
 induction vs with
 | nil=>intro s1 s hr; exact ⟨s1,Sub.refl _,hr,Fr.refl⟩
 | cons p r ih=>
  obtain ⟨t,jv⟩:=p
  intro s1 s hr
  cases jv with
  | so j=>
   simp only [cutV]
   split
   ·rename_i id ver lo u x ht
    split
    ·rename_i u0 s0 v0 ho
     cases hc:(dat u && v0 == ver)with
     | false=>exact ih s1 s hr
     | true=>
      simp only [Bool.and_eq_true]at hc
      obtain ⟨s2,h1,h2,h3⟩:=qtw hr ht ho hc.1 hc.2
      obtain ⟨s3,h4,h5,h6⟩:=ih s2 _ h2
      exact ⟨s3,h1.trans h4,h5,h3.trans h6⟩
    ·exact ih s1 s hr
   ·exact ih s1 s hr
  | _=>exact ih s1 s hr
end Go.Ev

namespace Go.Ev
def Inj(m:List Bd):Prop:=∀b∈m,∀c∈m,(b.j=c.j->b=c)/\∀i,b.id=some i->c.id=some i->b=c
theorem qdc:∀ {m:List Bd} {j:Nat} {b:Bd},bdF m j=some b->b∈m/\b.j=j:=by
 intro m
 induction m with
 | nil=>intro j b h; simp [bdF]at h
 | cons c m ih=>
  intro j b h
  simp only [bdF]at h
  cases hc:(c.j == j)with
  | true=>
   rw [hc,cond_true]at h
   obtain rfl:=Option.some.inj h
   exact ⟨by simp,by simpa using hc⟩
  | false=>
   rw [hc,cond_false]at h
   exact ⟨List.mem_cons_of_mem _ (ih h).1,(ih h).2⟩
theorem qi6:∀ {m:List Bd} {j:Nat},bdF m j=none->∀b∈m,b.j≠j:=by
 intro m
 induction m with
 | nil=>intro j _ b hb; simp at hb
 | cons c m ih=>
  intro j h b hb
  simp only [bdF]at h
  cases hc:(c.j == j)with
  | true=>rw [hc]at h; simp at h
  | false=>
   rw [hc,cond_false]at h
   rcases List.mem_cons.1 hb with rfl | hb
   ·simpa using hc
   ·exact ih h b hb
theorem q3u{m m':List Bd}{b:Bd}(h:bind1 m b=some m'):b∈m'/\(∀ c∈m,c∈m')/\(Inj m->Inj m'):=by
 unfold bind1 at h
 split at h
 ·rename_i hn
  have hn:=qi6 hn
  have hfresh:m'=b :: m/\∀c∈m,∀i,b.id=some i->c.id≠some i:=by
   obtain ⟨hc,h⟩:=q00 h
   obtain rfl:=Option.some.inj h
   refine ⟨rfl,λc hcm i hi e=> ?_⟩
   rw [hi]at hc
   have:=List.all_eq_true.1 hc c hcm
   rw [e]at this
   simp at this
  obtain ⟨rfl,hf⟩:=hfresh
  refine ⟨by simp,λc hc=>List.mem_cons_of_mem _ hc,λhi x hx y hy=> ?_⟩
  rcases List.mem_cons.1 hx with ex | hx2 <;> rcases List.mem_cons.1 hy with ey | hy2
  ·subst ex; subst ey; exact ⟨λ_=>rfl,λ_ _ _=>rfl⟩
  ·subst ex; exact ⟨λe=>absurd e.symm (hn y hy2),λi h1 h2=>absurd h2 (hf y hy2 i h1)⟩
  ·subst ey; exact ⟨λe=>absurd e (hn x hx2),λi h1 h2=>absurd h1 (hf x hx2 i h2)⟩
  ·exact hi x hx2 y hy2
 ·rename_i c hc
  obtain ⟨h1,h2⟩:=qdc hc
  split at h
  ·rename_i i i' hi hi'
   obtain ⟨he,h⟩:=q00 h
   obtain rfl:=Option.some.inj h
   obtain rfl:i=i':=by simpa using he
   have:b=c:=by
    cases b; cases c
    simp only at hi hi' h2
    subst hi; subst hi'; subst h2
    rfl
   exact ⟨this▸h1,λ_ h=>h,λh=>h⟩
  ·simp at h
theorem q8x:∀(jv:JV) (ln:Bool) (v:V) (m:List Bd) (l:List V) (m1:List Bd),capV jv ln v m=some (l,m1)->(∀ c∈m,c∈m1)/\(Inj m->Inj m1):=by
 have b1:∀(m:List Bd) (b:Bd) (l:List V) (m1:List Bd),(match bind1 m b with | some m=>some (([]:List V),m) | none=>none)=some (l,m1)->(∀ c∈m,c∈m1)/\(Inj m->Inj m1):=by
  intro m b l m1 h
  split at h
  ·rename_i m' hm
   obtain ⟨_,rfl⟩:=Prod.mk.inj (Option.some.inj h)
   exact (q3u hm).2
  ·simp at h
 intro jv
 induction jv with
 | co a r iha ihr=>
  intro ln v m l m1 h
  cases ln with
  | false=>cases v <;> simp [capV]at h
  | true=>
   cases v with
   | co x y=>
    simp only [capV]at h
    split at h
    ·rename_i l2 m2 h2
     split at h
     ·rename_i l3 m3 h3
      obtain ⟨_,rfl⟩:=Prod.mk.inj (Option.some.inj h)
      obtain ⟨a1,a2⟩:=iha _ _ _ _ _ h2
      obtain ⟨c1,c2⟩:=ihr _ _ _ _ _ h3
      exact ⟨λc hc=>c1 c (a1 c hc),λhi=>c2 (a2 hi)⟩
     ·simp at h
    ·simp at h
   | _=>simp [capV]at h
 | rc a ih=>
  intro ln v m l m1 h
  cases ln with
  | true=>cases v <;> simp [capV]at h
  | false=>
   cases v with
   | rc l'=>exact ih _ _ _ _ _ h
   | x t v=>cases t <;> first | exact ih _ _ _ _ _ h | simp [capV]at h
   | _=>simp [capV]at h
 | fn z f a ih=>
  intro ln v m l m1 h
  cases ln with
  | true=>cases v <;> simp [capV]at h
  | false=>
   cases v with
   | fn z' f' l'=>
    simp only [capV]at h
    obtain ⟨_,h⟩:=q00 h
    exact ih _ _ _ _ _ h
   | _=>simp [capV]at h
 | so j=>
  intro ln v m l m1 h
  cases ln with
  | true=>cases v <;> simp [capV]at h
  | false=>
   cases v with
   | so id=>exact b1 _ _ _ _ h
   | nl k=>
    cases k with
    | zero=>exact b1 _ _ _ _ h
    | succ=>simp [capV]at h
   | x t v=>
    cases t with
    | sl u=>exact b1 _ _ _ _ (q00 h).2
    | _=>simp [capV]at h
   | _=>simp [capV]at h
 | om j=>
  intro ln v m l m1 h
  cases ln with
  | true=>cases v <;> simp [capV]at h
  | false=>
   cases v with
   | om id=>exact b1 _ _ _ _ h
   | _=>simp [capV]at h
 | sr j=>
  intro ln v m l m1 h
  cases ln with
  | true=>cases v <;> simp [capV]at h
  | false=>
   cases v with
   | sr id=>exact b1 _ _ _ _ h
   | _=>simp [capV]at h
 | op j t p=>
  intro ln v m l m1 h
  cases ln with
  | true=>cases v <;> simp [capV]at h
  | false=>
   cases v with
   | op id u q=>
    simp only [capV]at h
    obtain ⟨_,h⟩:=q00 h
    exact b1 _ _ _ _ h
   | _=>simp [capV]at h
 | x t=>
  intro ln v m l m1 h
  cases ln with
  | true=>cases v <;> simp [capV]at h
  | false=>
   simp only [capV]at h
   split at h
   ·obtain ⟨_,rfl⟩:=Prod.mk.inj (Option.some.inj h)
    exact ⟨λ_ h=>h,λh=>h⟩
   ·simp at h
 | pt t=>
  intro ln v m l m1 h
  cases ln with
  | true=>cases v <;> simp [capV]at h
  | false=>
   cases v with
   | pt u v=>
    simp only [capV]at h
    split at h
    ·obtain ⟨_,rfl⟩:=Prod.mk.inj (Option.some.inj h)
     exact ⟨λ_ h=>h,λh=>h⟩
    ·simp at h
   | _=>simp [capV]at h
 | nl k=>
  intro ln v m l m1 h
  cases ln with
  | true=>cases v <;> simp [capV]at h
  | false=>
   cases v with
   | nl k'=>
    simp only [capV]at h
    obtain ⟨_,h⟩:=q00 h
    obtain ⟨_,rfl⟩:=Prod.mk.inj (Option.some.inj h)
    exact ⟨λ_ h=>h,λh=>h⟩
   | _=>simp [capV]at h
 | ni=>
  intro ln v m l m1 h
  cases ln with
  | false=>cases v <;> simp [capV]at h
  | true=>
   cases v with
   | ni=>
    obtain ⟨_,rfl⟩:=Prod.mk.inj (Option.some.inj h)
    exact ⟨λ_ h=>h,λh=>h⟩
   | _=>simp [capV]at h
 | sm=>
  intro ln v m l m1 h
  cases ln <;> cases v <;> simp [capV]at h
 | gn=>
  intro ln v m l m1 h
  cases ln <;> cases v <;> simp [capV]at h
end Go.Ev

namespace Go.Ev
structure Cx (h' h'':H2) (base n'':Nat) (mf:List Bd) (M:Nat->Nat->Prop):Prop where
 m:∀b∈mf,∀i,b.id=some i->M (base+b.j) i
 n:∀b∈mf,base+b.j < n''
 so:∀b∈mf,∀i,b.id=some i->∀c',soC (base+b.j) (fO h'' (base+b.j))=some c'->∃t s,c'=slC (szT t) (encE t) (base+b.j) s/\soC i (fO h' i)=some (slC (szT t) (encE t) i s)
 sr:∀b∈mf,∀i,b.id=some i->∀c',srC (base+b.j) (fO h'' (base+b.j))=some c'->∃(t:Ty) (s:Sl (Sl (El t))),c'=slC 1 (encE (.sl t)) (base+b.j) s/\srC i (fO h' i)=some (slC 1 (encE (.sl t)) i s)
 nl:∀b∈mf,b.id=none->∀c',soC (base+b.j) (fO h'' (base+b.j))=some c'->c'=nlC 0
theorem qlc:∀ {q:Path} {p:List Nat},pathN q=some p->q=p.map .fd:=by
 intro q
 induction q with
 | nil=>intro p h; obtain rfl:=Option.some.inj h; rfl
 | cons a q ih=>
  intro p h
  cases a with
  | ix=>simp [pathN]at h
  | fd i=>
   simp only [pathN]at h
   split at h
   ·rename_i l hl
    obtain rfl:=Option.some.inj h
    rw [ih hl]; rfl
   ·simp at h
theorem qsy{b:Nat}{a r:JV}{l:List V}{v0 v':V}{r':List V}(h:rstV b (.co a r) true l v0=some (v',r')):∃x0 y0 v l1 w,rstV b a false l x0=some (v,l1)/\rstV b r true l1 y0=some (w,r')/\v'= .co v w:=by
 have key:∀(x0 y0:V),(match rstV b a false l x0 with | some (v,l)=>(match rstV b r true l y0 with | some (w,l)=>some (V.co v w,l) | none=>none) | none=>none)=some (v',r')->∃x0 y0 v l1 w,rstV b a false l x0=some (v,l1)/\rstV b r true l1 y0=some (w,r')/\v'= .co v w:=by
  intro x0 y0 h
  split at h
  ·rename_i v l1 h1
   split at h
   ·rename_i w l2 h2
    obtain ⟨rfl,rfl⟩:=Prod.mk.inj (Option.some.inj h)
    exact ⟨x0,y0,v,l1,w,h1,h2,rfl⟩
   ·simp at h
  ·simp at h
 cases v0 with
 | co x y=>exact key x y h
 | _=>exact key .gn .ni h
theorem rst_x{b:Nat}{t:Ty}{y:El t}{rest:List V}{v0 v':V}{r':List V}(h:rstV b (.x t) false (.x t y :: rest) v0=some (v',r')):dat t=true/\v'= .x t y/\r'=rest:=by
 simp only [rstV]at h
 obtain ⟨h1,h⟩:=q00 h
 obtain ⟨rfl,rfl⟩:=Prod.mk.inj (Option.some.inj h)
 simp only [decide_true,Bool.true_and]at h1
 exact ⟨h1,rfl,rfl⟩
theorem qsn{b:Nat}{t:Ty}{y:El t}{rest:List V}{v0 v':V}{r':List V}(h:rstV b (.pt t) false (.x t y :: rest) v0=some (v',r')):dat t=true/\v'= .pt t y/\r'=rest:=by
 simp only [rstV]at h
 obtain ⟨h1,h⟩:=q00 h
 obtain ⟨rfl,rfl⟩:=Prod.mk.inj (Option.some.inj h)
 simp only [decide_true,Bool.true_and]at h1
 exact ⟨h1,rfl,rfl⟩
theorem qms{base:Nat}:∀(jv:JV) (v:V) (m:List Bd) (l:List V) (m1:List Bd) (rest:List V) (v0 v':V) (r':List V) (ds:List D),capV jv true v m=some (l,m1)->celD v=some ds->rstV base jv true (l++rest) v0=some (v',r')->
  r'=rest/\celD v'=some ds/\∀n h,okV n h v':=by
 intro jv
 induction jv with
 | co a r _ ihr=>
  intro v m l m1 rest v0 v' r' ds hc hd hr
  cases v with
  | co x y=>
   simp only [capV]at hc
   split at hc
   ·rename_i l1 m2 h1
    split at hc
    ·rename_i l2 m3 h2
     obtain ⟨rfl,rfl⟩:=Prod.mk.inj (Option.some.inj hc)
     obtain ⟨x0,y0,w1,r1,w2,e1,e2,rfl⟩:=qsy hr
     simp only [celD]at hd
     split at hd
     ·rename_i d1 d2 hd1 hd2
      obtain rfl:=Option.some.inj hd
      rw [List.append_assoc]at e1
      have hx:∃t z,x= .pt t z/\dat t=true/\d1= [.pt (encE t z)]:=by
       cases x with
       | pt t z=>
        simp only [celD]at hd1
        split at hd1
        ·exact ⟨t,z,rfl,by assumption,(Option.some.inj hd1).symm⟩
        ·simp at hd1
       | ni=>cases a <;> simp [capV]at h1 <;> simp [cst,castG,castV]at h1
       | co=>cases a <;> simp [capV]at h1 <;> simp [cst,castG,castV]at h1
       | _=>simp [celD]at hd1
      obtain ⟨t,z,rfl,hdt,rfl⟩:=hx
      have ha:∃u z',castE t u z=some z'/\a= .pt u/\l1= [.x u z']:=by
       cases a with
       | pt u=>
        simp only [capV]at h1
        split at h1
        ·rename_i z' hz'
         obtain ⟨rfl,_⟩:=Prod.mk.inj (Option.some.inj h1)
         exact ⟨u,z',hz',rfl,rfl⟩
        ·simp at h1
       | x u=>simp only [capV]at h1; split at h1 <;> rename_i hh <;> simp [cst,castG,castV]at hh; simp at h1
       | _=>simp [capV]at h1
      obtain ⟨u,z',hz',rfl,rfl⟩:=ha
      obtain ⟨rfl,rfl⟩:=q0h hz'
      obtain ⟨_,rfl,rfl⟩:=qsn e1
      obtain ⟨rfl,g2,g3⟩:=ihr _ _ _ _ _ _ _ _ _ h2 hd2 e2
      refine ⟨rfl, ?_,λn h=>⟨trivial,g3 n h⟩⟩
      simp only [celD,hdt,if_true,g2]
     ·simp at hd
    ·simp at hc
   ·simp at hc
  | _=>simp [capV]at hc
 | ni=>
  intro v m l m1 rest v0 v' r' ds hc hd hr
  cases v with
  | ni=>
   obtain ⟨rfl,_⟩:=Prod.mk.inj (Option.some.inj hc)
   simp only [rstV]at hr
   obtain ⟨rfl,rfl⟩:=Prod.mk.inj (Option.some.inj hr)
   exact ⟨rfl,hd,λ_ _=>trivial⟩
  | _=>simp [capV]at hc
 | _=>intro v m l m1 rest v0 v' r' ds hc hd hr; cases v <;> simp [capV]at hc
section
variable {h' h'':H2}{n' n'' base:Nat}{mf:List Bd}{M:Nat->Nat->Prop}
theorem qwc(cx:Cx h' h'' base n'' mf M){b:Bd}(hb:b∈mf){i:Nat}(hi:b.id=some i){c:C}(hc:(∀ c',soC i (fO h' i)=some c'->c=c')/\idO i c):∃c',celR h'' (.so (base+b.j)) [c']/\TrC M c' c:=by
 obtain ⟨c',h1,h2⟩:=TrC.ren (cx.m b hb i hi) c hc.2
 refine ⟨c',⟨c',rfl,λc2 hc2=> ?_,h2⟩,h1⟩
 obtain ⟨t,s,rfl,h4⟩:=cx.so b hb i hi c2 hc2
 obtain rfl:=hc.1 _ h4
 cases s with
 | nil=>
  cases c' with
  | d x=>have:slC (szT t) (encE t) i (.nil:Sl (El t))= .d x:=h1; rw [<- this]; rfl
  | _=>simp [slC,TrC]at h1
 | mk l=>
  cases c' with
  | osl a i2 b2 e=>
   obtain ⟨j,_,e2⟩:=h1
   have e3:=h2 i2 (by simp [idsC])
   simp only [slC,C.osl.injEq]at e2 ⊢
   exact ⟨e2.1.symm,e3,e2.2.2.1.symm,e2.2.2.2.symm⟩
  | d x=>simp [slC,TrC]at h1
  | _=>simp [slC,TrC]at h1
theorem qvf(cx:Cx h' h'' base n'' mf M){b:Bd}(hb:b∈mf){i:Nat}(hi:b.id=some i){c:C}(hc:(∀ c',srC i (fO h' i)=some c'->c=c')/\idO i c):∃c',celR h'' (.sr (base+b.j)) [c']/\TrC M c' c:=by
 obtain ⟨c',h1,h2⟩:=TrC.ren (cx.m b hb i hi) c hc.2
 refine ⟨c',⟨c',rfl,λc2 hc2=> ?_,h2⟩,h1⟩
 obtain ⟨t,s,rfl,h4⟩:=cx.sr b hb i hi c2 hc2
 obtain rfl:=hc.1 _ h4
 cases s with
 | nil=>
  cases c' with
  | d x=>have:slC 1 (encE (.sl t)) i (.nil:Sl (Sl (El t)))= .d x:=h1; rw [<- this]; rfl
  | _=>simp [slC,TrC]at h1
 | mk l=>
  cases c' with
  | osl a i2 b2 e=>
   obtain ⟨j,_,e2⟩:=h1
   have e3:=h2 i2 (by simp [idsC])
   simp only [slC,C.osl.injEq]at e2 ⊢
   exact ⟨e2.1.symm,e3,e2.2.2.1.symm,e2.2.2.2.symm⟩
  | d x=>simp [slC,TrC]at h1
  | _=>simp [slC,TrC]at h1
theorem q8t(cx:Cx h' h'' base n'' mf M):∀(jv:JV) (ln:Bool) (v:V) (m:List Bd) (l:List V) (m1:List Bd) (rest:List V) (v0 v':V) (r':List V) (cs:List C),capV jv ln v m=some (l,m1)->(∀ b∈m1,b∈mf)->celR h' v cs->okV n' h' v->rstV base jv ln (l++rest) v0=some (v',r')->
  r'=rest/\okV n'' h'' v'/\agV v'=agV v/\(∀ l,v'≠ .tp l)/\∃cs',celR h'' v' cs'/\TrL M cs' cs:=by
 intro jv
 induction jv with
 | x t=>
  intro ln v m l m1 rest v0 v' r' cs hc hm hv hk hr
  cases ln with
  | true=>cases v <;> simp [capV]at hc
  | false=>
   simp only [capV]at hc
   split at hc
   ·rename_i y hy
    obtain ⟨rfl,rfl⟩:=Prod.mk.inj (Option.some.inj hc)
    obtain ⟨hd,rfl,rfl⟩:=rst_x hr
    obtain rfl:=q1v v false t y cs hy hv
    exact ⟨rfl,trivial,(qc7 hy).symm,by simp,_,⟨hd,rfl⟩,TrL.d _⟩
   ·simp at hc
 | pt t=>
  intro ln v m l m1 rest v0 v' r' cs hc hm hv hk hr
  cases ln with
  | true=>cases v <;> simp [capV]at hc
  | false=>
   cases v with
   | pt u v=>
    simp only [capV]at hc
    split at hc
    ·rename_i y hy
     obtain ⟨rfl,rfl⟩:=q0h hy
     obtain ⟨rfl,rfl⟩:=Prod.mk.inj (Option.some.inj hc)
     obtain ⟨hd,rfl,rfl⟩:=qsn hr
     obtain ⟨_,rfl⟩:=hv
     exact ⟨rfl,trivial,rfl,by simp,_,⟨hd,rfl⟩,TrL.one rfl⟩
    ·simp at hc
   | _=>simp [capV]at hc
 | sr j=>
  intro ln v m l m1 rest v0 v' r' cs hc hm hv hk hr
  cases ln with
  | true=>cases v <;> simp [capV]at hc
  | false=>
   have hr2:∀l2:List V,rstV base (.sr j) false l2 v0=some (.sr (base+j),l2):=λl2=>by simp only [rstV]
   cases v with
   | sr id=>
    simp only [capV]at hc
    split at hc
    ·rename_i m2 hb
     obtain ⟨rfl,rfl⟩:=Prod.mk.inj (Option.some.inj hc)
     rw [hr2]at hr
     obtain ⟨rfl,rfl⟩:=Prod.mk.inj (Option.some.inj hr)
     have hbm:=hm _ (q3u hb).1
     obtain ⟨c,rfl,h1⟩:=hv
     obtain ⟨c',h2,h3⟩:=qvf cx hbm rfl h1
     exact ⟨rfl,cx.n _ hbm,rfl,by simp,_,h2,TrL.one h3⟩
    ·simp at hc
   | _=>simp [capV]at hc
 | so j=>
  intro ln v m l m1 rest v0 v' r' cs hc hm hv hk hr
  cases ln with
  | true=>cases v <;> simp [capV]at hc
  | false=>
   have hr2:∀l2:List V,rstV base (.so j) false l2 v0=some (.so (base+j),l2):=λl2=>by simp only [rstV]
   cases v with
   | so id=>
    simp only [capV]at hc
    split at hc
    ·rename_i m2 hb
     obtain ⟨rfl,rfl⟩:=Prod.mk.inj (Option.some.inj hc)
     rw [hr2]at hr
     obtain ⟨rfl,rfl⟩:=Prod.mk.inj (Option.some.inj hr)
     have hbm:=hm _ (q3u hb).1
     obtain ⟨c,rfl,h1⟩:=hv
     obtain ⟨c',h2,h3⟩:=qwc cx hbm rfl h1
     exact ⟨rfl,cx.n _ hbm,rfl,by simp,_,h2,TrL.one h3⟩
    ·simp at hc
   | nl k=>
    cases k with
    | succ=>simp [capV]at hc
    | zero=>
     simp only [capV]at hc
     split at hc
     ·rename_i m2 hb
      obtain ⟨rfl,rfl⟩:=Prod.mk.inj (Option.some.inj hc)
      rw [hr2]at hr
      obtain ⟨rfl,rfl⟩:=Prod.mk.inj (Option.some.inj hr)
      have hbm:=hm _ (q3u hb).1
      obtain rfl:=hv
      exact ⟨rfl,cx.n _ hbm,rfl,by simp,_,⟨nlC 0,rfl,λc' hc'=>(cx.nl _ hbm rfl c' hc').symm,λi hi=>by simp [nlC,idsC]at hi⟩,TrL.one rfl⟩
     ·simp at hc
   | x t v=>
    cases t with
    | sl u=>
     simp only [capV]at hc
     obtain ⟨hnil,hc⟩:=q00 hc
     split at hc
     ·rename_i m2 hb
      obtain ⟨rfl,rfl⟩:=Prod.mk.inj (Option.some.inj hc)
      rw [hr2]at hr
      obtain ⟨rfl,rfl⟩:=Prod.mk.inj (Option.some.inj hr)
      have hbm:=hm _ (q3u hb).1
      obtain ⟨_,rfl⟩:=hv
      have hv:v=Sl.nil:=by
       cases v with
       | nil=>rfl
       | mk l=>simp [Sl.isNil]at hnil
      subst hv
      exact ⟨rfl,cx.n _ hbm,rfl,by simp,_,⟨nlC 0,rfl,λc' hc'=>(cx.nl _ hbm rfl c' hc').symm,λi hi=>by simp [nlC,idsC]at hi⟩,TrL.one rfl⟩
     ·simp at hc
    | _=>simp [capV]at hc
   | _=>simp [capV]at hc
 | om j=>
  intro ln v m l m1 rest v0 v' r' cs hc hm hv hk hr
  cases ln with
  | true=>cases v <;> simp [capV]at hc
  | false=>
   have hr2:∀l2:List V,rstV base (.om j) false l2 v0=some (.om (base+j),l2):=λl2=>by simp only [rstV]
   cases v with
   | om id=>
    simp only [capV]at hc
    split at hc
    ·rename_i m2 hb
     obtain ⟨rfl,rfl⟩:=Prod.mk.inj (Option.some.inj hc)
     rw [hr2]at hr
     obtain ⟨rfl,rfl⟩:=Prod.mk.inj (Option.some.inj hr)
     have hbm:=hm _ (q3u hb).1
     obtain rfl:=hv
     exact ⟨rfl,cx.n _ hbm,rfl,by simp,_,rfl,TrL.one ⟨id,cx.m _ hbm id rfl,rfl⟩⟩
    ·simp at hc
   | _=>simp [capV]at hc
 | op j t p=>
  intro ln v m l m1 rest v0 v' r' cs hc hm hv hk hr
  cases ln with
  | true=>cases v <;> simp [capV]at hc
  | false=>
   have hr2:∀l2:List V,rstV base (.op j t p) false l2 v0=some (.op (base+j) t (p.map .fd),l2):=λl2=>by simp only [rstV]
   cases v with
   | op id u q=>
    simp only [capV]at hc
    obtain ⟨hq,hc2⟩:=q00 hc
    clear hc
    have hc:=hc2
    clear hc2
    simp only [Bool.and_eq_true,decide_eq_true_eq]at hq
    obtain ⟨rfl,hq⟩:=hq
    obtain rfl:=qlc hq
    split at hc
    ·rename_i m2 hb
     obtain ⟨rfl,rfl⟩:=Prod.mk.inj (Option.some.inj hc)
     rw [hr2]at hr
     obtain ⟨rfl,rfl⟩:=Prod.mk.inj (Option.some.inj hr)
     have hbm:=hm _ (q3u hb).1
     obtain rfl:=hv
     exact ⟨rfl,⟨cx.n _ hbm,hk.2⟩,rfl,by simp,_,rfl,TrL.one ⟨id,cx.m _ hbm id rfl,rfl⟩⟩
    ·simp at hc
   | _=>simp [capV]at hc
 | nl k=>
  intro ln v m l m1 rest v0 v' r' cs hc hm hv hk hr
  cases ln with
  | true=>cases v <;> simp [capV]at hc
  | false=>
   cases v with
   | nl k'=>
    simp only [capV]at hc
    obtain ⟨hq,hc2⟩:=q00 hc
    clear hc
    have hc:=hc2
    clear hc2
    obtain rfl:k=k':=by simpa using hq
    obtain ⟨rfl,rfl⟩:=Prod.mk.inj (Option.some.inj hc)
    have hr2:∀l2:List V,rstV base (.nl k) false l2 v0=some (.nl k,l2):=λl2=>by simp only [rstV]
    rw [hr2]at hr
    obtain ⟨rfl,rfl⟩:=Prod.mk.inj (Option.some.inj hr)
    obtain rfl:=hv
    exact ⟨rfl,trivial,rfl,by simp,_,rfl,TrL.one rfl⟩
   | _=>simp [capV]at hc
 | fn z f a ih=>
  intro ln v m l m1 rest v0 v' r' cs hc hm hv hk hr
  cases ln with
  | true=>cases v <;> simp [capV]at hc
  | false=>
   cases v with
   | fn z' f' l'=>
    simp only [capV]at hc
    obtain ⟨hq,hc2⟩:=q00 hc
    clear hc
    have hc:=hc2
    clear hc2
    simp only [Bool.and_eq_true,beq_iff_eq]at hq
    obtain ⟨rfl,rfl⟩:=hq
    simp only [rstV]at hr
    split at hr
    ·rename_i w l2 hw
     obtain ⟨rfl,rfl⟩:=Prod.mk.inj (Option.some.inj hr)
     cases z with
     | true=>
      obtain ⟨ds,hd,rfl⟩:=hv
      obtain ⟨rfl,g1,g2⟩:=qms a l' m l m1 rest .ni w l2 ds hc hd hw
      exact ⟨rfl,g2 _ _,rfl,by simp,_,⟨ds,g1,rfl⟩,TrL.one rfl⟩
     | false=>
      obtain ⟨xs,hx,rfl⟩:=hv
      obtain ⟨rfl,g1,_,_,cs',g2,g3⟩:=ih true l' m l m1 rest .ni w l2 xs hc hm hx hk hw
      exact ⟨rfl,g1,rfl,by simp,_,⟨cs',g2,rfl⟩,TrL.one ⟨xs,g3,rfl⟩⟩
    ·simp at hr
   | _=>simp [capV]at hc
 | rc a ih=>
  intro ln v m l m1 rest v0 v' r' cs hc hm hv hk hr
  cases ln with
  | true=>cases v <;> simp [capV]at hc
  | false=>
   simp only [rstV]at hr
   split at hr
   ·rename_i w l2 hw
    obtain ⟨rfl,rfl⟩:=Prod.mk.inj (Option.some.inj hr)
    cases v with
    | rc l'=>
     obtain ⟨rfl,g1,_,_,cs',g2,g3⟩:=ih true l' m l m1 rest .ni w l2 cs hc hm hv hk hw
     exact ⟨rfl,g1,rfl,by simp,cs',g2,g3⟩
    | x t v=>
     cases t with
     | st t=>
      obtain ⟨hd,rfl⟩:=hv
      obtain ⟨rfl,g1,_,_,cs',g2,g3⟩:=ih true (toL t v) m l m1 rest .ni w l2 _ hc hm (qgh t v hd) (qnm t v) hw
      exact ⟨rfl,g1,rfl,by simp,cs',g2,g3⟩
     | _=>simp [capV]at hc
    | _=>simp [capV]at hc
   ·simp at hr
 | ni=>
  intro ln v m l m1 rest v0 v' r' cs hc hm hv hk hr
  cases ln with
  | false=>cases v <;> simp [capV]at hc
  | true=>
   cases v with
   | ni=>
    obtain ⟨rfl,_⟩:=Prod.mk.inj (Option.some.inj hc)
    simp only [rstV]at hr
    obtain ⟨rfl,rfl⟩:=Prod.mk.inj (Option.some.inj hr)
    exact ⟨rfl,trivial,rfl,by simp,cs,hv,by obtain rfl:=hv; rfl⟩
   | _=>simp [capV]at hc
 | co a r iha ihr=>
  intro ln v m l m1 rest v0 v' r' cs hc hm hv hk hr
  cases ln with
  | false=>cases v <;> simp [capV]at hc
  | true=>
   cases v with
   | co x y=>
    simp only [capV]at hc
    split at hc
    ·rename_i l1 m2 h1
     split at hc
     ·rename_i l2 m3 h2
      obtain ⟨rfl,rfl⟩:=Prod.mk.inj (Option.some.inj hc)
      obtain ⟨x0,y0,w1,r1,w2,e1,e2,rfl⟩:=qsy hr
      rw [List.append_assoc]at e1
      obtain ⟨cx1,cy,rfl,hx,hy⟩:=hv
      obtain ⟨rfl,g1,_,_,cs1,g2,g3⟩:=iha _ _ _ _ _ _ _ _ _ _ h1 (λb hb=>hm b ((q8x _ _ _ _ _ _ h2).1 b hb)) hx hk.1 e1
      obtain ⟨rfl,k1,_,_,cs2,k2,k3⟩:=ihr _ _ _ _ _ _ _ _ _ _ h2 hm hy hk.2 e2
      exact ⟨rfl,⟨g1,k1⟩,rfl,by simp,_,⟨cs1,cs2,rfl,g2,k2⟩,g3.app k3⟩
     ·simp at hc
    ·simp at hc
   | _=>simp [capV]at hc
 | _=>
  intro ln v m l m1 rest v0 v' r' cs hc
  cases ln <;> cases v <;> simp [capV]at hc
theorem que(cx:Cx h' h'' base n'' mf M){jv:JV}{v:V}{m:List Bd}{l:List V}{m1:List Bd}{rest:List V}{v0 v':V}{r':List V}{x:TV}(hc:capV jv false v m=some (l,m1))(hm:∀b∈m1,b∈mf)(hv:tvR h' v x)(hk:okV n' h' v)(hr:rstV base jv false (l++rest) v0=some (v',r')):
  r'=rest/\okV n'' h'' v'/\∃x',tvR h'' v' x'/\TrT M x' x/\∀l,x'≠ .tup l:=by
 have h1:tv1R h' v x:=by
  cases v with
  | tp l=>cases jv <;> simp [capV]at hc; split at hc <;> rename_i hh <;> simp [cst,castG,castV]at hh; simp at hc
  | no=>cases jv <;> simp [capV]at hc; split at hc <;> rename_i hh <;> simp [cst,castG,castV]at hh; simp at hc
  | gn=>exact hv.elim
  | _=>exact hv
 obtain ⟨cs,h2,h3,h4⟩:=h1
 obtain ⟨rfl,g1,g2,g3,cs',g4,g5⟩:=q8t cx jv false v m l m1 rest v0 v' r' cs hc hm h2 hk hr
 refine ⟨rfl,g1, ?_⟩
 cases ha:agV v with
 | true=>
  obtain rfl:=h3 ha
  exact ⟨.agg cs',q0e ⟨cs',g4,λ_=>rfl,λe=>by rw [g2,ha]at e; cases e⟩,⟨cs,g5,rfl⟩,by simp⟩
 | false=>
  obtain ⟨c,rfl,rfl⟩:=h4 ha
  match cs',g5 with
  | [],g5=>exact absurd (show [c]= [] from g5) (by simp)
  | c' :: r,g5=>
   obtain ⟨d,r2,e1,e2,e3⟩:=g5
   obtain ⟨rfl,rfl⟩:=List.cons.inj e3
   cases r with
   | nil=>exact ⟨.c c',q0e ⟨[c'],g4,λe=>(by rw [g2,ha]at e; cases e),λ_=>⟨c',rfl,rfl⟩⟩,⟨c,e1,rfl⟩,by simp⟩
   | cons=>obtain ⟨_,_,_,_,e⟩:=e2; simp at e
end
end Go.Ev

namespace Go.Ev
theorem qsx{α:Type}(G:Nat->Option α)(ks:List Nat)(hk:∀t,G t≠none->t∈ks):∃e:List (Nat×α),∀t,fnd e t=G t:=by
 have key:∀ks:List Nat,∃e:List (Nat×α),∀t,fnd e t=if t∈ks then G t else none:=by
  intro ks
  induction ks with
  | nil=>exact ⟨[],λt=>by simp [fnd]⟩
  | cons k ks ih=>
   obtain ⟨e,he⟩:=ih
   cases hg:G k with
   | none=>
    refine ⟨e,λt=> ?_⟩
    rw [he]
    by_cases h:t=k
    ·subst h; simp [hg]
    ·simp [h]
   | some x=>
    refine ⟨(k,x) :: e,λt=> ?_⟩
    simp only [fnd]
    by_cases h:k=t
    ·subst h; simp [hg]
    ·have h':(k == t)=false:=by simpa using h
     rw [h',cond_false,he]
     have:t≠k:=λq=>h q.symm
     simp [this]
 obtain ⟨e,he⟩:=key ks
 refine ⟨e,λt=> ?_⟩
 rw [he]
 split
 ·rfl
 ·rename_i h
  cases hg:G t with
  | none=>rfl
  | some x=>exact absurd (hk t (by simp [hg])) h
theorem quq(F:Nat->Option Ob)(ks:List Nat)(hk:∀t,F t≠none->t∈ks):∃h:Heap,∀t,look h t=F t:=by
 obtain ⟨e,he⟩:=qsx (λt=>(F t).map some) ks λt ht=>hk t λe=>ht (by simp [e])
 refine ⟨e,λt=> ?_⟩
 simp only [look,he]
 cases F t <;> rfl
theorem qek{α:Type}:∀ {l:List (Nat×α)} {t:Nat},fnd l t≠none->t∈l.map (·.1):=by
 intro l t h
 cases hx:fnd l t with
 | none=>exact absurd hx h
 | some x=>exact List.mem_map.2 ⟨_,qe8 hx,rfl⟩
theorem qra{h:Heap}{t:Nat}(hl:look h t≠none):t∈h.map (·.1):=qek λe=>hl (by simp [look,e])
theorem qpg{α β:Type}{ka va:Bool}{k:α->List Value}{v:β->List D}{m:Mp α β}{cs:List C}(h:some (Ob.box cs)=mpO ka va k v m):False:=by
 cases m <;> simp [mpO]at h
section
variable {h' h'':H2}{n' n'' base:Nat}{mf:List Bd}{M:Nat->Nat->Prop}
theorem cx0(hj:∀b∈mf,base+b.j < n''):Cx h' [] base n'' mf (λ_ _=>True):=
 ⟨λ_ _ _ _=>trivial,hj,λb _ i _ c' hc=>by simp [fO,fnd,soC]at hc,λb _ i _ c' hc=>by simp [fO,fnd,srC]at hc,λb _ _ c' hc=>by simp [fO,fnd,soC]at hc⟩
theorem qfv{j:Nat}{o:JO}{m:List Bd}{l:List V}{m1:List Bd}(h:capO h' j o m=some (l,m1)):(∀ c∈m,c∈m1)/\(Inj m->Inj m1):=by
 have id1:∀ {a:List V},some (a,m)=some (l,m1)->(∀ c∈m,c∈m1)/\(Inj m->Inj m1):=λe=>by
  obtain ⟨_,rfl⟩:=Prod.mk.inj (Option.some.inj e)
  exact ⟨λ_ h=>h,λh=>h⟩
 unfold capO at h
 split at h
 ·split at h
  ·exact id1 (q00 h).2
  ·split at h
   ·split at h
    ·exact id1 h
    ·simp at h
   ·simp at h
  ·split at h
   ·split at h
    ·exact id1 h
    ·simp at h
   ·simp at h
  ·split at h
   ·exact q8x _ _ _ _ _ _ (q00 h).2
   ·simp at h
  ·split at h
   ·split at h
    ·exact id1 h
    ·simp at h
   ·simp at h
  ·simp at h
 ·simp at h
def AP(h':H2)(base:Nat)(m1:List Bd)(b:Bd):O->Prop
 | .ar t s v=>v=0/\((b.id=none/\s= .nil/\okT t=true)\/∃id ver,b.id=some id/\fO h' id=some (.ar t s ver))
 | .bx t w=>∃id v c m0 l0 m2 rest r0,b.id=some id/\fO h' id=some (.bx t v)/\capV c false v m0=some (l0,m2)/\(∀ b∈m2,b∈m1)/\rstV base c false (l0++rest) .gn=some (w,r0)/\fitV w false t=true
 | .mp k v y=>∃id,b.id=some id/\fO h' id=some (.mp k v y)
 | .rw t s ln=>ln=none/\∃id,b.id=some id/\fO h' id=some (.rw t s none)
 | _=>False
theorem qmw{H1:Heap}(hr:HR n' H1 h')(hj:∀b∈mf,base+b.j < n''){j:Nat}{o:JO}{m:List Bd}{l:List V}{m1:List Bd}{rest:List V}{o':O}{r':List V}(hc:capO h' j o m=some (l,m1))(hm:∀b∈m1,b∈mf)(hs:rstO base o (l++rest)=some (o',r')):
  r'=rest/\∃b∈mf,b.j=j/\AP h' base mf b o':=by
 have hmm:=(qfv hc).1
 unfold capO at hc
 split at hc
 ·rename_i b hb
  obtain ⟨hb1,hb2⟩:=qdc hb
  have hbm:=hm _ (hmm _ hb1)
  split at hc
  ·rename_i t hid
   obtain ⟨hok,hc⟩:=q00 hc
   obtain ⟨rfl,_⟩:=Prod.mk.inj (Option.some.inj hc)
   simp only [List.cons_append,List.nil_append,rstO]at hs
   obtain ⟨_,hs⟩:=q00 hs
   obtain ⟨rfl,rfl⟩:=Prod.mk.inj (Option.some.inj hs)
   exact ⟨rfl,b,hbm,hb2,rfl, .inl ⟨hid,rfl,hok⟩⟩
  ·rename_i t id hid
   split at hc
   ·rename_i u s ver ho
    split at hc
    ·rename_i s2 hs2
     obtain ⟨rfl,_⟩:=Prod.mk.inj (Option.some.inj hc)
     obtain ⟨e,rfl⟩:=q0h hs2
     cases e
     simp only [List.cons_append,List.nil_append,rstO]at hs
     obtain ⟨_,hs⟩:=q00 hs
     obtain ⟨rfl,rfl⟩:=Prod.mk.inj (Option.some.inj hs)
     exact ⟨rfl,b,hbm,hb2,rfl, .inr ⟨id,ver,hid,ho⟩⟩
    ·simp at hc
   ·simp at hc
  ·rename_i t id hid
   split at hc
   ·rename_i u s ho
    split at hc
    ·rename_i s2 hs2
     obtain ⟨rfl,_⟩:=Prod.mk.inj (Option.some.inj hc)
     obtain ⟨e,rfl⟩:=q0h hs2
     cases e
     simp only [List.cons_append,List.nil_append,rstO]at hs
     obtain ⟨_,hs⟩:=q00 hs
     obtain ⟨rfl,rfl⟩:=Prod.mk.inj (Option.some.inj hs)
     exact ⟨rfl,b,hbm,hb2,rfl,id,hid,ho⟩
    ·simp at hc
   ·simp at hc
  ·rename_i t c id hid
   split at hc
   ·rename_i u v ho
    obtain ⟨hu,hc2⟩:=q00 hc
    clear hc
    have hc:=hc2
    clear hc2
    obtain rfl:u=t:=by simpa using hu
    simp only [rstO]at hs
    split at hs
    ·rename_i w l2 hw
     obtain ⟨hf,hs⟩:=q00 hs
     obtain ⟨rfl,rfl⟩:=Prod.mk.inj (Option.some.inj hs)
     obtain ⟨_,hob,hko⟩:=hr.ob id _ ho
     obtain ⟨cs,_,hcs,_⟩:=hob
     obtain ⟨rfl,_⟩:=q8t (cx0 (h':=h') hj) c false v m l m1 rest .gn w l2 cs hc hm hcs hko hw
     exact ⟨rfl,b,hbm,hb2,id,v,c,m,l,m1,_,_,hid,ho,hc,hm,hw,hf⟩
    ·simp at hs
   ·simp at hc
  ·rename_i k v id hid
   split at hc
   ·rename_i k' v' y ho
    split at hc
    ·rename_i y2 hy2
     obtain ⟨rfl,_⟩:=Prod.mk.inj (Option.some.inj hc)
     obtain ⟨e,rfl⟩:=q0h hy2
     cases e
     simp only [List.cons_append,List.nil_append,rstO]at hs
     obtain ⟨_,hs⟩:=q00 hs
     obtain ⟨rfl,rfl⟩:=Prod.mk.inj (Option.some.inj hs)
     exact ⟨rfl,b,hbm,hb2,id,hid,ho⟩
    ·simp at hc
   ·simp at hc
  ·simp at hc
 ·simp at hc
theorem q9d:∀(os:List JO) (j:Nat) (m:List Bd) (l:List V) (m1:List Bd),capOs h' os j m=some (l,m1)->(∀ c∈m,c∈m1)/\(Inj m->Inj m1):=by
 intro os
 induction os with
 | nil=>
  intro j m l m1 h
  obtain ⟨_,rfl⟩:=Prod.mk.inj (Option.some.inj h)
  exact ⟨λ_ h=>h,λh=>h⟩
 | cons o os ih=>
  intro j m l m1 h
  simp only [capOs]at h
  split at h
  ·rename_i l1 m2 h1
   split at h
   ·rename_i l2 m3 h2
    obtain ⟨_,rfl⟩:=Prod.mk.inj (Option.some.inj h)
    obtain ⟨a1,a2⟩:=qfv h1
    obtain ⟨c1,c2⟩:=ih _ _ _ _ h2
    exact ⟨λc hc=>c1 c (a1 c hc),λhi=>c2 (a2 hi)⟩
   ·simp at h
  ·simp at h
theorem qk2{H1:Heap}(hr:HR n' H1 h')(hj:∀b∈mf,base+b.j < n''):∀(os:List JO) (j:Nat) (m:List Bd) (l:List V) (m1:List Bd) (rest:List V) (hl:H2) (r':List V),capOs h' os j m=some (l,m1)->(∀ b∈m1,b∈mf)->rstOs base os j (l++rest)=some (hl,r')->
  (∀ i o',fnd hl i=some o'->∃o,o'=some o/\∃b∈mf,i=base+b.j/\AP h' base mf b o)/\(∀ p∈hl,base<=p.1):=by
 intro os
 induction os with
 | nil=>
  intro j m l m1 rest hl r' hc hm hs
  obtain ⟨rfl,_⟩:=Prod.mk.inj (Option.some.inj hc)
  simp only [rstOs]at hs
  obtain ⟨rfl,_⟩:=Prod.mk.inj (Option.some.inj hs)
  exact ⟨λi o' h=>by simp [fnd]at h,λp hp=>by simp at hp⟩
 | cons o os ih=>
  intro j m l m1 rest hl r' hc hm hs
  simp only [capOs]at hc
  split at hc
  ·rename_i l1 m2 h1
   split at hc
   ·rename_i l2 m3 h2
    obtain ⟨rfl,rfl⟩:=Prod.mk.inj (Option.some.inj hc)
    simp only [rstOs,List.append_assoc]at hs
    split at hs
    ·rename_i o1 r1 ho1
     split at hs
     ·rename_i hl1 r2 hhl
      obtain ⟨rfl,rfl⟩:=Prod.mk.inj (Option.some.inj hs)
      obtain ⟨rfl,b,hb,hbj,hap⟩:=qmw hr hj h1 (λb hb=>hm b ((q9d _ _ _ _ _ h2).1 b hb)) ho1
      obtain ⟨g1,g2⟩:=ih _ _ _ _ _ _ _ h2 hm hhl
      refine ⟨λi o' h=> ?_,λp hp=> ?_⟩
      ·simp only [fnd]at h
       by_cases e:base+j=i
       ·have e':(base+j == i)=true:=by simpa using e
        rw [e',cond_true]at h
        exact ⟨o1,(Option.some.inj h).symm,b,hb,by rw [hbj,e],hap⟩
       ·have e':(base+j == i)=false:=by simpa using e
        rw [e',cond_false]at h
        exact g1 i o' h
      ·rcases List.mem_cons.1 hp with rfl | hp
       ·exact Nat.le_add_right _ _
       ·exact g2 p hp
     ·simp at hs
    ·simp at hs
   ·simp at hc
  ·simp at hc
def outM(M:Nat->Nat->Prop):Ob->Prop
 | .nst _ sl=>∀(k id len:Nat),sl[k]? =some (Slot.out id len)->M id id
 | _=>True
theorem qcw{t:Ty}{l:List (Sl (El t))}{ln:Option (Nat×Nat)}{k i len:Nat}(h:(q0z t l ln)[k]? =some (.out i len)):∃m,ln=some (m,i):=by
 have no:¬(l.map (slotV t))[k]? =some (.out i len):=λh=>by
  rw [List.getElem?_map]at h
  cases hx:l[k]? with
  | none=>rw [hx]at h; cases h
  | some s=>rw [hx]at h; cases s <;> cases h
 cases ln with
 | none=>exact absurd h no
 | some q=>
  obtain ⟨m,j⟩:=q
  simp only [q0z]at h
  rw [List.getElem?_set]at h
  split at h
  ·split at h
   ·cases hg:gt l m <;> rw [hg]at h <;> cases h
    exact ⟨m,rfl⟩
   ·cases h
  ·exact absurd h no
def TrOb(M:Nat->Nat->Prop)(o1 o0:Ob):Prop:=(o1=o0/\(∀ cs,o0≠ .box cs)/\outM M o0)\/∃a c,o1= .box a/\o0= .box c/\TrL M a c
theorem ap_ob{H1:Heap}(hr:HR n' H1 h')(cx:Cx h' h'' base n'' mf M){b:Bd}{o:O}(ha:AP h' base mf b o):
  ∃ob,obR h'' o ob/\okO n'' h'' o/\∀o1,ob=some o1->∃id o0,b.id=some id/\look H1 id=some o0/\TrOb M o1 o0:=by
 cases o with
 | ar t s v=>
  obtain ⟨_,⟨_,rfl,hok⟩ | ⟨id,ver,hid,ho⟩⟩:=ha
  ·obtain ⟨h1,h2⟩:=q6q hok
   exact ⟨none,⟨h1,h2,λl e=>by cases e⟩,trivial,λo1 e=>by cases e⟩
  ·obtain ⟨_,⟨h1,h2,h3⟩,_⟩:=hr.ob id _ ho
   cases s with
   | nil=>exact ⟨none,⟨h1,h2,λl e=>by cases e⟩,trivial,λo1 e=>by cases e⟩
   | mk l=>
    refine ⟨_,⟨h1,h2,λl' e=>by cases e; rfl⟩,trivial,λo1 e=>⟨id,_,hid,h3 l rfl, .inl ⟨(Option.some.inj e).symm,by simp,trivial⟩⟩⟩
 | rw t s ln=>
  obtain ⟨rfl,id,hid,ho⟩:=ha
  obtain ⟨_,⟨h1,h2,h3⟩,_⟩:=hr.ob id _ ho
  cases s with
  | nil=>exact ⟨none,⟨h1,h2,λl e=>by cases e⟩,trivial,λo1 e=>by cases e⟩
  | mk l=>
   refine ⟨_,⟨h1,h2,λl' e=>by cases e; rfl⟩,trivial,λo1 e=>⟨id,_,hid,h3 l rfl, .inl ⟨(Option.some.inj e).symm,by simp,λk i len hk=> ?_⟩⟩⟩
   obtain ⟨m,e2⟩:=qcw hk
   cases e2
 | bx t w=>
  obtain ⟨id,v,c,m0,l0,m2,rest,r0,hid,ho,hc,hm,hs,hf⟩:=ha
  obtain ⟨_,⟨cs,h1,h2,h3⟩,hk⟩:=hr.ob id _ ho
  obtain ⟨rfl,g1,_,_,cs',g2,g3⟩:=q8t cx c false v m0 l0 m2 rest .gn w r0 cs hc hm h2 hk hs
  exact ⟨some (.box cs'),⟨cs',rfl,g2,hf⟩,g1,λo1 e=>⟨id,_,hid,h1, .inr ⟨cs',cs,(Option.some.inj e).symm,rfl,g3⟩⟩⟩
 | mp k v y=>
  obtain ⟨id,hid,ho⟩:=ha
  obtain ⟨_,⟨h1,h2,h3⟩,_⟩:=hr.ob id _ ho
  refine ⟨look H1 id,⟨h1,h2,h3⟩,trivial,λo1 e=>⟨id,o1,hid,e, .inl ⟨rfl,λcs e2=> ?_, ?_⟩⟩⟩
  ·rw [e2]at e
   rw [e]at h3
   exact qpg h3
  ·rw [e]at h3
   simp only [mpO,Option.some.injEq]at h3; rw [h3]; trivial
 | _=>exact ha.elim
theorem qci{s:S2}:∀(vs:List (Nat×JV)) (m:List Bd) (l:List V) (m1:List Bd),capVs s vs m=some (l,m1)->(∀ c∈m,c∈m1)/\(Inj m->Inj m1):=by
 intro vs
 induction vs with
 | nil=>
  intro m l m1 h
  obtain ⟨_,rfl⟩:=Prod.mk.inj (Option.some.inj h)
  exact ⟨λ_ h=>h,λh=>h⟩
 | cons p vs ih=>
  obtain ⟨t,a⟩:=p
  intro m l m1 h
  simp only [capVs]at h
  split at h
  ·split at h
   ·rename_i l1 m2 h1
    split at h
    ·rename_i l2 m3 h2
     obtain ⟨_,rfl⟩:=Prod.mk.inj (Option.some.inj h)
     obtain ⟨a1,a2⟩:=q8x _ _ _ _ _ _ h1
     obtain ⟨c1,c2⟩:=ih _ _ _ h2
     exact ⟨λc hc=>c1 c (a1 c hc),λhi=>c2 (a2 hi)⟩
    ·simp at h
   ·simp at h
  ·simp at h
theorem qc3{s1:St}{s:S2}(hr:R2 s1 s)(cx:Cx s.heap h'' base n'' mf M):∀(vs:List (Nat×JV)) (m:List Bd) (l:List V) (m1:List Bd) (rest:List V) (e:List (Nat×V)) (r':List V),capVs s vs m=some (l,m1)->(∀ b∈m1,b∈mf)->rstVs base vs (l++rest)=some (e,r')->
  r'=rest/\∀t v,fnd e t=some v->okV n'' h'' v/\∃x x',fnd s1.env t=some x/\tvR h'' v x'/\TrT M x' x/\∀l,x'≠ .tup l:=by
 intro vs
 induction vs with
 | nil=>
  intro m l m1 rest e r' hc hm hs
  obtain ⟨rfl,_⟩:=Prod.mk.inj (Option.some.inj hc)
  obtain ⟨rfl,rfl⟩:=Prod.mk.inj (Option.some.inj hs)
  exact ⟨rfl,λt v h=>by simp [fnd]at h⟩
 | cons p vs ih=>
  obtain ⟨t,a⟩:=p
  intro m l m1 rest e r' hc hm hs
  simp only [capVs]at hc
  split at hc
  ·rename_i v hv
   split at hc
   ·rename_i l1 m2 h1
    split at hc
    ·rename_i l2 m3 h2
     obtain ⟨rfl,rfl⟩:=Prod.mk.inj (Option.some.inj hc)
     simp only [rstVs,List.append_assoc]at hs
     split at hs
     ·rename_i w r1 hw
      split at hs
      ·rename_i e1 r2 he1
       obtain ⟨rfl,rfl⟩:=Prod.mk.inj (Option.some.inj hs)
       simp only [opV]at hv
       split at hv
       ·rename_i v2 hv2
        obtain ⟨hal,hv⟩:=q00 hv
        obtain rfl:=Option.some.inj hv
        obtain ⟨hk,hx⟩:=hr.env t _ hv2
        obtain ⟨x,hx1,hx2⟩:=hx (.inl hal)
        obtain ⟨rfl,g1,x',g2,g3,g4⟩:=que cx h1 (λb hb=>hm b ((qci _ _ _ _ h2).1 b hb)) hx2 hk hw
        obtain ⟨rfl,k1⟩:=ih _ _ _ _ _ _ h2 hm he1
        refine ⟨rfl,λt' v' h=> ?_⟩
        simp only [fnd]at h
        by_cases e:t=t'
        ·subst e
         have e':(t == t)=true:=by simp
         rw [e',cond_true]at h
         obtain rfl:=Option.some.inj h
         exact ⟨g1,x,x',hx1,g2,g3,g4⟩
        ·have e':(t == t')=false:=by simpa using e
         rw [e',cond_false]at h
         exact k1 t' v' h
       ·simp at hv
      ·simp at hs
     ·simp at hs
    ·simp at hc
   ·simp at hc
  ·simp at hc
theorem qbb{h:H2}:∀(gs:JV) (g0 g:V) (m:List Bd) (l:List V) (m1:List Bd),capG h gs g0 g m=some (l,m1)->(∀ c∈m,c∈m1)/\(Inj m->Inj m1):=by
 intro gs
 induction gs with
 | sm=>
  intro g0 g m l m1 h
  simp only [capG]at h
  obtain ⟨_,h⟩:=q00 h
  obtain ⟨_,rfl⟩:=Prod.mk.inj (Option.some.inj h)
  exact ⟨λ_ h=>h,λh=>h⟩
 | ni=>
  intro g0 g m l m1 h
  cases g0 <;> cases g <;> simp [capG]at h
  obtain ⟨_,rfl⟩:=h
  exact ⟨λ_ h=>h,λh=>h⟩
 | co a r _ ih=>
  intro g0 g m l m1 hc
  cases g0 with
  | co x0 y0=>
   cases g with
   | co x y=>
    have gen:(bif alv h x then (match capV a false x m with | some (l,m)=>(match capG h r y0 y m with | some (l',m)=>some (l++l',m) | none=>none) | none=>none)else none)=some (l,m1)->(∀ c∈m,c∈m1)/\(Inj m->Inj m1):=by
     intro hc
     obtain ⟨_,hc⟩:=q00 hc
     split at hc
     ·rename_i l1 m2 h1
      split at hc
      ·rename_i l2 m3 h2
       obtain ⟨_,rfl⟩:=Prod.mk.inj (Option.some.inj hc)
       obtain ⟨a1,a2⟩:=q8x _ _ _ _ _ _ h1
       obtain ⟨c1,c2⟩:=ih _ _ _ _ _ h2
       exact ⟨λc hc=>c1 c (a1 c hc),λhi=>c2 (a2 hi)⟩
      ·simp at hc
     ·simp at hc
    cases a with
    | sm=>exact ih _ _ _ _ _ (q00 (show (bif sameH x0 x then capG h r y0 y m else none)=_ from hc)).2
    | gn=>exact ih _ _ _ _ _ (show capG h r y0 y m=_ from hc)
    | _=>exact gen hc
   | _=>simp [capG]at hc
  | _=>simp [capG]at hc
 | _=>intro g0 g m l m1 h; simp [capG]at h
def TrG(M:Nat->Nat->Prop):List C->List C->Prop
 | [],m=>m= []
 | c :: l,m=>∃d r,(c=goneC\/TrC M c d)/\TrG M l r/\m=d :: r
theorem TrG.len:∀ {l m:List C},TrG M l m->l.length=m.length
 | [],m,h=>by obtain rfl:=h; rfl
 | c :: l,m,h=>by obtain ⟨d,r,_,h2,rfl⟩:=h; simp [TrG.len h2]
theorem TrG.get:∀ {l m:List C},TrG M l m->∀(i:Nat) (c:C),l[i]? =some c->c=goneC\/∃d,m[i]? =some d/\TrC M c d
 | [],m,h,i,c,hi=>by simp at hi
 | c :: l,m,h,i,c',hi=>by
  obtain ⟨d,r,h1,h2,rfl⟩:=h
  cases i with
  | zero=>
   obtain rfl:c=c':=by simpa using hi
   exact h1.imp id λh=>⟨d,rfl,h⟩
  | succ i=>exact (TrG.get h2 i c' (by simpa using hi)).imp id λ⟨d,h3,h4⟩=>⟨d,by simpa using h3,h4⟩
theorem qjh(hlow:∀i,i < base->fO h'' i≠none->fO h'' i=fO h' i)(hM:∀i,i < base->M i i){x0 x:V}{c:C}{hz:H2}(hs:sameH x0 x=true)(hok:okV base hz x0)(hx:alv h' x=true->celR h' x [c]):
  ∃c',(alv h'' x0=true->celR h'' x0 [c'])/\(c'=goneC\/TrC M c' c):=by
 by_cases ha:alv h'' x0=true
 case neg=>exact ⟨goneC,λh=>absurd h ha, .inl rfl⟩
 cases x0 <;> cases x <;> first | (simp [sameH]at hs; done) | skip
 case nl.nl k k'=>
  obtain rfl:k=k':=by simpa [sameH]using hs
  have:celR h' (.nl k) [c]:=hx rfl
  obtain rfl:=List.singleton_inj.1 (show [c]= [nlC k] from this)
  exact ⟨nlC k,λ_=>rfl, .inr rfl⟩
 case so.so i i'=>
  obtain rfl:i=i':=by simpa [sameH]using hs
  have hi:i < base:=hok
  have hne:fO h'' i≠none:=λe=>by simp [alv,e]at ha
  have e:=hlow i hi hne
  have ha':alv h' (.so i)=true:=by simp only [alv]at ha ⊢; rw [<- e]; exact ha
  obtain ⟨c2,e2,h2,h3⟩:=hx ha'
  refine ⟨c,λ_=>⟨c2,e2,λc' hc'=>h2 c' (by rw [<- e]; exact hc'),h3⟩, .inr (TrC.same _ λj hj=> ?_)⟩
  obtain rfl:=List.singleton_inj.1 e2
  rw [h3 j hj]; exact hM i hi
 case sr.sr i i'=>
  obtain rfl:i=i':=by simpa [sameH]using hs
  have hi:i < base:=hok
  have hne:fO h'' i≠none:=λe=>by simp [alv,e]at ha
  have e:=hlow i hi hne
  have ha':alv h' (.sr i)=true:=by simp only [alv]at ha ⊢; rw [<- e]; exact ha
  obtain ⟨c2,e2,h2,h3⟩:=hx ha'
  refine ⟨c,λ_=>⟨c2,e2,λc' hc'=>h2 c' (by rw [<- e]; exact hc'),h3⟩, .inr (TrC.same _ λj hj=> ?_)⟩
  obtain rfl:=List.singleton_inj.1 e2
  rw [h3 j hj]; exact hM i hi
 case op.op i t p i' t' p'=>
  have hp:i=i'/\t=t'/\p= []/\p'= []:=by
   cases p with
   | cons=>cases p' <;> simp [sameH]at hs
   | nil=>
    cases p' with
    | cons=>simp [sameH]at hs
    | nil=>simpa [sameH]using hs
  obtain ⟨rfl,rfl,rfl,rfl⟩:=hp
  have hi:i < base:=hok.1
  have hne:fO h'' i≠none:=λe=>by simp [alv,e]at ha
  have e:=hlow i hi hne
  have ha':alv h' (.op i t [])=true:=by simp only [alv]at ha ⊢; rw [<- e]; exact ha
  have h2:=hx ha'
  obtain rfl:=List.singleton_inj.1 (show [c]= [C.op i (ofP t [])] from h2)
  exact ⟨_,λ_=>rfl, .inr ⟨i,hM i hi,rfl⟩⟩
 case gn.gn=>simp [alv]at ha
theorem ql0(hlow:∀i,i < base->fO h'' i≠none->fO h'' i=fO h' i)(hM:∀i,i < base->M i i){hz:H2}:∀(g0 g:V) (cs:List C),sameG g0 g=true->okV base hz g0->ghR h' g cs->∃cs',ghR h'' g0 cs'/\TrG M cs' cs:=by
 intro g0
 induction g0 with
 | ni=>
  intro g cs hs _ hg
  cases g <;> simp [sameG]at hs
  obtain rfl:=hg
  exact ⟨[],rfl,rfl⟩
 | co x0 y0 _ ih=>
  intro g cs hs hk hg
  cases g with
  | co x y=>
   simp only [sameG,Bool.and_eq_true]at hs
   obtain ⟨c,m,rfl,h1,h2⟩:=hg
   obtain ⟨c',h3,h4⟩:=qjh (M:=M) hlow hM hs.1 hk.1 h1
   obtain ⟨cs',h5,h6⟩:=ih y m hs.2 hk.2 h2
   exact ⟨c' :: cs',⟨c',cs',rfl,h3,h5⟩,c,m,h4,h6,rfl⟩
  | _=>simp [sameG]at hs
 | _=>intro g cs hs; cases g <;> simp [sameG]at hs
theorem rst_g{b:Nat}{a r:JV}{l:List V}{x0 y0 v':V}{r':List V}(h:rstV b (.co a r) true l (.co x0 y0)=some (v',r')):∃v l1 w,rstV b a false l x0=some (v,l1)/\rstV b r true l1 y0=some (w,r')/\v'= .co v w:=by
 simp only [rstV]at h
 split at h
 ·rename_i v l1 h1
  split at h
  ·rename_i w l2 h2
   obtain ⟨rfl,rfl⟩:=Prod.mk.inj (Option.some.inj h)
   exact ⟨v,l1,w,h1,h2,rfl⟩
  ·simp at h
 ·simp at h
theorem qg6(cx:Cx h' h'' base n'' mf M)(hlow:∀i,i < base->fO h'' i≠none->fO h'' i=fO h' i)(hM:∀i,i < base->M i i){hz:H2}(hst:∀v,okV base hz v->okV n'' h'' v):∀(gs:JV) (g0 g:V) (m:List Bd) (l:List V) (m1:List Bd) (rest:List V) (g':V) (r':List V) (cs:List C),
  capG h' gs g0 g m=some (l,m1)->(∀ b∈m1,b∈mf)->okV base hz g0->ghR h' g cs->okV n' h' g->rstV base gs true (l++rest) g0=some (g',r')->r'=rest/\okV n'' h'' g'/\∃cs',ghR h'' g' cs'/\TrG M cs' cs:=by
 intro gs
 induction gs with
 | sm=>
  intro g0 g m l m1 rest g' r' cs hc hm hk0 hg hk hs
  simp only [capG]at hc
  obtain ⟨hsm,hc⟩:=q00 hc
  obtain ⟨rfl,_⟩:=Prod.mk.inj (Option.some.inj hc)
  simp only [rstV,List.nil_append]at hs
  obtain ⟨rfl,rfl⟩:=Prod.mk.inj (Option.some.inj hs)
  exact ⟨rfl,hst _ hk0,ql0 hlow hM g0 g cs hsm hk0 hg⟩
 | ni=>
  intro g0 g m l m1 rest g' r' cs hc hm hk0 hg hk hs
  cases g0 <;> cases g <;> simp [capG]at hc
  obtain ⟨rfl,_⟩:=hc
  simp only [rstV,List.nil_append]at hs
  obtain ⟨rfl,rfl⟩:=Prod.mk.inj (Option.some.inj hs)
  obtain rfl:=hg
  exact ⟨rfl,trivial, [],rfl,rfl⟩
 | co a r _ ih=>
  intro g0 g m l m1 rest g' r' cs hc hm hk0 hg hk hs
  cases g0 with
  | co x0 y0=>
   cases g with
   | co x y=>
    obtain ⟨c,cs,rfl,hx,hg⟩:=hg
    obtain ⟨v,l1,w,e1,e2,rfl⟩:=rst_g hs
    have gen:(bif alv h' x then (match capV a false x m with | some (l,m)=>(match capG h' r y0 y m with | some (l',m)=>some (l++l',m) | none=>none) | none=>none)else none)=some (l,m1)->r'=rest/\okV n'' h'' (.co v w)/\∃cs',ghR h'' (.co v w) cs'/\TrG M cs' (c :: cs):=by
     intro hc
     obtain ⟨ha,hc⟩:=q00 hc
     split at hc
     ·rename_i l2 m2 h1
      split at hc
      ·rename_i l3 m3 h2
       obtain ⟨rfl,rfl⟩:=Prod.mk.inj (Option.some.inj hc)
       rw [List.append_assoc]at e1
       obtain ⟨rfl,g1,_,_,cs1,g2,g3⟩:=q8t cx a false x m l2 m2 _ x0 v l1 [c] h1 (λb hb=>hm b ((qbb _ _ _ _ _ _ h2).1 b hb)) (hx ha) hk.1 e1
       obtain ⟨rfl,k1,cs2,k2,k3⟩:=ih _ _ _ _ _ _ _ _ _ h2 hm hk0.2 hg hk.2 e2
       match cs1,g3 with
       | [],g3=>exact absurd (show [c]= [] from g3) (by simp)
       | c1 :: t,g3=>
        obtain ⟨d,r2,q1,q2,q3⟩:=g3
        obtain ⟨rfl,rfl⟩:=List.cons.inj q3
        cases t with
        | nil=>exact ⟨rfl,⟨g1,k1⟩,c1 :: cs2,⟨c1,cs2,rfl,λ_=>g2,k2⟩,c,cs, .inr q1,k3,rfl⟩
        | cons=>obtain ⟨_,_,_,_,e⟩:=q2; simp at e
      ·simp at hc
     ·simp at hc
    cases a with
    | sm=>
     obtain ⟨hsm,hc⟩:=q00 (show (bif sameH x0 x then capG h' r y0 y m else none)=_ from hc)
     simp only [rstV]at e1
     obtain ⟨rfl,rfl⟩:=Prod.mk.inj (Option.some.inj e1)
     obtain ⟨rfl,k1,cs2,k2,k3⟩:=ih _ _ _ _ _ _ _ _ _ hc hm hk0.2 hg hk.2 e2
     obtain ⟨c',h3,h4⟩:=qjh (M:=M) hlow hM hsm hk0.1 hx
     exact ⟨rfl,⟨hst _ hk0.1,k1⟩,c' :: cs2,⟨c',cs2,rfl,h3,k2⟩,c,cs,h4,k3,rfl⟩
    | gn=>
     have hc:capG h' r y0 y m=some (l,m1):=hc
     simp only [rstV]at e1
     obtain ⟨rfl,rfl⟩:=Prod.mk.inj (Option.some.inj e1)
     obtain ⟨rfl,k1,cs2,k2,k3⟩:=ih _ _ _ _ _ _ _ _ _ hc hm hk0.2 hg hk.2 e2
     exact ⟨rfl,⟨trivial,k1⟩,goneC :: cs2,⟨goneC,cs2,rfl,λh=>by simp [alv]at h,k2⟩,c,cs, .inl rfl,k3,rfl⟩
    | _=>exact gen hc
   | _=>simp [capG]at hc
  | _=>simp [capG]at hc
 | _=>intro g0 g m l m1 rest g' r' cs hc; simp [capG]at hc
end
end Go.Ev

namespace Go.Ev
def lowOb(base:Nat):Ob->Prop
 | .box cs=>∀i∈idsC.idsL cs,i < base
 | .nst _ sl=>∀(k i len:Nat),sl[k]? =some (Slot.out i len)->i < base
 | _=>True
theorem qta{h:H2}{o:O}{base:Nat}{b:Option Ob}{F:Option Ob}(ho:obR h o b)(hk:okO base h o)(hF:(∀ x,b=some x->lowOb base x->F=b)/\(b=none->F=none)):∀g,obR g o b->obR g o F:=by
 intro g hg
 have same:(b=none\/∃x,b=some x/\lowOb base x)->obR g o F:=by
  rintro (e | ⟨x,e,hx⟩)
  ·rw [hF.2 e,<- e]; exact hg
  ·rw [hF.1 x e hx]; exact hg
 cases o with
 | ar t s v=>
  cases s with
  | nil=>exact ⟨hg.1,hg.2.1,λl e=>by cases e⟩
  | mk l=>exact same (.inr ⟨_,ho.2.2 l rfl,trivial⟩)
 | im t s v=>
  cases s with
  | nil=>exact ⟨hg.1,hg.2.1,λl e=>by cases e⟩
  | mk l=>exact same (.inr ⟨_,ho.2.2 l rfl,trivial⟩)
 | bx t c=>
  obtain ⟨cs,h1,h2,_⟩:=ho
  exact same (.inr ⟨_,h1,λi hi=>(qir h2 hk i hi).1⟩)
 | ib t v=>exact same (.inr ⟨_,ho.2,trivial⟩)
 | rw t s ln=>
  cases s with
  | nil=>exact ⟨hg.1,hg.2.1,λl e=>by cases e⟩
  | mk l=>
   refine same (.inr ⟨_,ho.2.2 l rfl,λk i len h=> ?_⟩)
   obtain ⟨m,rfl⟩:=qcw h
   exact hk.2.1
 | mp k v m=>exact same (.inr ⟨_,ho.2.2,trivial⟩)
open Classical in
theorem qv7{s1:St}{base n'':Nat}{mf:List Bd}{e':Env}{h':Heap}{g':List C}(hi:Inj mf)(hn:∀b∈mf,base+b.j < n'')(hbn:base<=n'')
  (he:∀t x',fnd e' t=some x'->∃x,fnd s1.env t=some x/\TrT (λi j=>(i=j/\j < base)\/∃b∈mf,b.id=some j/\i=base+b.j) x' x)
  (hh:∀i o',look h' i=some o'->∃j o,((i=j/\j < base)\/∃b∈mf,b.id=some j/\i=base+b.j)/\look s1.heap j=some o/\TrOb (λi j=>(i=j/\j < base)\/∃b∈mf,b.id=some j/\i=base+b.j) o' o/\∀b∈mf,b.id=some j->i=base+b.j)
  (hg:TrG (λi j=>(i=j/\j < base)\/∃b∈mf,b.id=some j/\i=base+b.j) g' s1.gh):Sub s1 ⟨e',h',n'',g'⟩:=by
 intro S K w0 Kn φ gv nt a w hR
 let Kn':Nat->Prop:=λi=>(i < base/\Kn i)\/∃b∈mf,i=base+b.j/\∃id,b.id=some id/\Kn id
 let φ' : Nat → Loc := fun i => if i < base then φ i else match bdF mf (i - base) with | some ⟨_, some id⟩ => φ id | _ => default
 have hbd:∀b∈mf,bdF mf (base+b.j - base)=some b:=by
  intro b hb
  rw [Nat.add_sub_cancel_left]
  cases h:bdF mf b.j with
  | none=>exact absurd rfl (qi6 h b hb)
  | some c=>
   obtain ⟨h1,h2⟩:=qdc h
   rw [(hi c h1 b hb).1 h2]
 have hM : ∀ i j, ((i = j ∧ j < base) ∨ ∃ b ∈ mf, b.id = some j ∧ i = base + b.j) → Kn j → Kn' i ∧ φ' i = φ j := by
  rintro i j (⟨rfl,hlt⟩ | ⟨b,hb,hid,rfl⟩) hk
  ·exact ⟨.inl ⟨hlt,hk⟩,if_pos hlt⟩
  ·refine ⟨.inr ⟨b,hb,rfl,j,hid,hk⟩, ?_⟩
   show (if base+b.j < base then _ else _)=_
   rw [if_neg (by omega),hbd b hb]
   obtain ⟨bj,bid⟩:=b
   simp only at hid
   subst hid
   rfl
 have hun:∀i j i0,((i=i0/\i0 < base)\/∃b∈mf,b.id=some i0/\i=base+b.j)->(∀ b∈mf,b.id=some i0->i=base+b.j)->((j=i0/\i0 < base)\/∃b∈mf,b.id=some i0/\j=base+b.j)->(∀ b∈mf,b.id=some i0->j=base+b.j)->i=j:=by
  rintro i j i0 (⟨rfl,_⟩ | ⟨b,hb,hid,rfl⟩) hu1 h2 hu2
  ·rcases h2 with ⟨rfl,_⟩ | ⟨b,hb,hid,rfl⟩
   ·rfl
   ·exact hu1 b hb hid
  ·exact (hu2 b hb hid).symm
 refine ⟨S, Kn', φ', Stp.refl S w, ⟨hR.inv.slt, hR.inv.sk, hR.inv.frm, fun i o ho => ?_, fun i j x y hx hy ox oy hne => ?_, hR.inv.glob, ?_⟩, fun t x hx => ?_, hR.size, hR.defers, fun j hj hk => ?_, fun i c v hc hv => ?_⟩
 ·obtain ⟨j,o0,hij,ho0,htr,_⟩:=hh i o ho
  obtain ⟨hk,hro⟩:=hR.inv.obj j o0 ho0
  obtain ⟨hk',e⟩:=hM i j hij hk
  refine ⟨hk', ?_⟩
  rw [e]
  rcases htr with ⟨rfl,hnb⟩ | ⟨a',c',rfl,rfl,htl⟩
  ·cases hro with
   | nst hsz hl hS hK hown hext hfit hr hv=>
    refine .nst hsz hl hS hK hown hext hfit (λq s hs=> ?_) hv
    obtain ⟨v,h1,h2⟩:=hr q s hs
    refine ⟨v,h1, ?_⟩
    cases h2 with
    | nil=>exact .nil
    | own h3 h4 h5=>exact .own h3 h4 h5
    | out h3=>exact .out (TrC.rc hM _ _ v (TrC.same _ λq' hq'=>by
      obtain rfl:q'=_:=by simpa [idsC]using hq'
      exact hnb.2 _ _ _ hs) h3)
   | arr hsz hl hS hK hown hext hfit hr hv=>exact .arr hsz hl hS hK hown hext hfit hr hv
   | imm hsz hl hS hr=>exact .imm hsz hl hS hr
   | ibox hb hS hr=>exact .ibox hb hS hr
   | box=>exact absurd rfl (hnb.1 _)
   | map hS hK hmp hlen hr=>exact .map hS hK hmp hlen hr
   | cap hsz hl hS hK hown hext hfit hr hv hc=>exact .cap hsz hl hS hK hown hext hfit hr hv hc
  ·cases hro with
   | box hb hS hK hown hlen hr=>exact .box hb hS hK hown ((TrL.len htl).trans hlen) (TrL.rc hM a' c' _ htl hr)
 ·obtain ⟨i0,x0,hi0,hx0,htx,huq⟩:=hh i x hx
  obtain ⟨j0,y0,hj0,hy0,hty,huq2⟩:=hh j y hy
  have hox:isOwn x0=true:=by
   rcases htx with ⟨rfl,_⟩ | ⟨a',c',rfl,rfl,_⟩
   ·exact ox
   ·rfl
  have hoy:isOwn y0=true:=by
   rcases hty with ⟨rfl,_⟩ | ⟨a',c',rfl,rfl,_⟩
   ·exact oy
   ·rfl
  rw [(hM i i0 hi0 (hR.inv.obj i0 x0 hx0).1).2,(hM j j0 hj0 (hR.inv.obj j0 y0 hy0).1).2]
  refine hR.inv.dist i0 j0 x0 y0 hx0 hy0 hox hoy λe=>hne ?_
  subst e
  exact hun i j i0 hi0 huq hj0 huq2
 ·intro i sz sl k x hi hp
  obtain ⟨i0,x0,hi0,hx0,htx,huq⟩:=hh i _ hi
  rcases htx with ⟨rfl,_⟩ | ⟨a',c',e,_⟩
  case inr=>cases e
  rw [(hM i i0 hi0 (hR.inv.obj i0 _ hx0).1).2]at hp
  obtain ⟨p1,p2⟩:=hR.inv.prv i0 sz sl k x hx0 hp
  refine ⟨λj b hj hb=> ?_,λj sz' sl' k' hj hp'=> ?_⟩
  ·obtain ⟨j0,y0,hj0,hy0,hty,_⟩:=hh j b hj
   have hoy:isOwn y0=true:=by
    rcases hty with ⟨rfl,_⟩ | ⟨a',c',rfl,rfl,_⟩
    ·exact hb
    ·rfl
   rw [(hM j j0 hj0 (hR.inv.obj j0 y0 hy0).1).2]
   exact p1 j0 y0 hy0 hoy
  ·obtain ⟨j0,y0,hj0,hy0,hty,huq2⟩:=hh j _ hj
   rcases hty with ⟨rfl,_⟩ | ⟨a',c',e,_⟩
   case inr=>cases e
   rw [(hM j j0 hj0 (hR.inv.obj j0 _ hy0).1).2]at hp'
   obtain ⟨e1,e2⟩:=p2 j0 sz' sl' k' hy0 hp'
   subst e1
   exact ⟨hun j i j0 hj0 huq2 hi0 huq,e2⟩
 ·obtain ⟨x0,h1,h2⟩:=he t x hx
  exact TrT.rc hM x x0 _ h2 (hR.env t x0 h1)
 ·have hj:n''<=j:=hj
  rcases hk with ⟨hlt,_⟩ | ⟨b,hb,rfl,_⟩
  ·omega
  ·have:=hn b hb; omega
 ·rcases hg.get i c hc with e | ⟨d,h1,h2⟩
  ·exact .inl e
  ·rcases hR.gh i d v h1 hv with rfl | hr
   ·left
    cases c with
    | ofn f l=>
     obtain ⟨m,h3,h4⟩:=h2
     simp only [goneC,C.ofn.injEq]at h4
     obtain ⟨rfl,rfl⟩:=h4
     cases l with
     | nil=>rfl
     | cons x l=>obtain ⟨_,_,_,_,e⟩:=h3; simp at e
    | d x=>exact absurd (show goneC=C.d x from h2) (by simp [goneC])
    | _=>obtain ⟨_,_,e⟩:=h2; simp [goneC]at e
   ·exact .inr (TrC.rc hM c d v h2 hr)
theorem qgr{α:Type}{l:List (Nat×α)}{t:Nat}(h:∀p∈l,p.1≠t):fnd l t=none:=by
 cases hx:fnd l t with
 | none=>rfl
 | some x=>exact absurd rfl (h _ (qe8 hx))
theorem qvh{ds:List Nat}{t:Nat}:fnd (ds.map λt=>(t,V.gn)) t=if t∈ds then some .gn else none:=by
 induction ds with
 | nil=>rfl
 | cons d ds ih=>
  simp only [List.map_cons,fnd,ih]
  by_cases e:d=t
  ·subst e; simp
  ·have e':(d == t)=false:=by simpa using e
   have:t≠d:=λq=>e q.symm
   simp [e',this]
theorem fO_kl{kl:List Nat}{h:H2}{i:Nat}:fO (kl.map (λi=>(i,none))++h) i=if i∈kl then none else fO h i:=by
 induction kl with
 | nil=>rfl
 | cons k kl ih=>
  rw [List.map_cons,List.cons_append,q0g,ih]
  by_cases e:k=i
  ·subst e; simp
  ·have:i≠k:=λq=>e q.symm
   simp [e,this]
open Classical in
theorem qvo{j:J}{ds w:List Nat}{s1 s1':St}{s0 s' s'':S2}{l:List V}(hr0:R2 s1 s0)(hr:R2 s1' s')(hf:FrW ds w s1 s1' s0 s')(hw:∀i∈w,s0.next<=i\/i∈j.kl)(hc:capJ2 j s0 s'=some l)(hs:rstJ j ds s0 l=some s''):
  ∃s1'' w',Sub s1' s1''/\R2 s1'' s''/\s''.wo=w'++s0.wo/\FrW ds w' s1 s1'' s0 s''/\∀i∈w',s0.next<=i\/i∈j.kl:=by
 unfold capJ2 at hc
 split at hc
 case h_2=>simp at hc
 rename_i l1 m1 hvs
 split at hc
 case h_2=>simp at hc
 rename_i l2 m2 hgs
 split at hc
 case h_2=>simp at hc
 rename_i l3 mf hos
 obtain ⟨hchk,hc⟩:=q00 hc
 obtain rfl:=Option.some.inj hc
 simp only [Bool.and_eq_true,List.all_eq_true]at hchk
 obtain ⟨_,hbm⟩:=hchk
 unfold rstJ at hs
 split at hs
 case h_2=>simp at hs
 rename_i e r1 hev
 split at hs
 case h_2=>simp at hs
 rename_i g' r2 hgv
 split at hs
 case h_2=>simp at hs
 rename_i hl r3 hov
 obtain rfl:=Option.some.inj hs
 -- the bindings
 have hm12:=(qbb _ _ _ _ _ _ hgs).1
 have hm2f:=(q9d _ _ _ _ _ hos).1
 have hinj:Inj mf:=(q9d _ _ _ _ _ hos).2 ((qbb _ _ _ _ _ _ hgs).2 ((qci _ _ _ _ hvs).2 (λb hb=>by simp at hb)))
 have hbj:∀b∈mf,s0.next+b.j < s0.next+j.os.length:=λb hb=>by
  have:=(hbm b hb).1
  have:b.j < j.os.length:=by simpa [Nat.blt_eq]using this
  omega
 have hbid:∀b∈mf,∀i,b.id=some i->s0.next<=i\/i∈j.kl:=λb hb i hid=>by
  have:=(hbm b hb).2
  rw [hid]at this
  simpa [Nat.ble_eq]using this
 -- what is left of the rows
 have hx0:=cx0 (h':=s'.heap) hbj
 obtain ⟨rfl,_⟩:=qc3 hr hx0 j.vs [] l1 m1 (l2++l3) e r1 hvs (λb hb=>hm2f b (hm12 b hb)) hev
 have hle:s0.next<=s0.next+j.os.length:=Nat.le_add_right _ _
 have hst0:HSt s0.next s0.heap []:=⟨λi o _ ho=>by simp [fO,fnd]at ho⟩
 have hrg:r2=l3:=(qg6 (n':=s'.next) (hz:=s0.heap) hx0 (λi _ h=>absurd rfl h) (λ_ _=>trivial) (λv hv=>q1j hle hst0 hv) j.gs s0.gh s'.gh m1 l2 m2 l3 g' r2 s1'.gh hgs hm2f hr0.gh.2 hr.gh.1 hr.gh.2 hgv).1
 subst hrg
 obtain ⟨hap,hge⟩:=qk2 hr.hr hbj j.os 0 m2 r2 mf [] hl r3 hos (λb hb=>hb) (by rw [List.append_nil]; exact hov)
 clear hx0
 -- the heap
 generalize hh2:hl++j.kl.map (λi=>(i,none))++s0.heap=h''
 have hfo:∀i,fO h'' i=match fnd hl i with | some o=>o | none=>if i∈j.kl then none else fO s0.heap i:=λi=>by
  rw [<- hh2,List.append_assoc]
  have:fO (hl++(j.kl.map (λi=>(i,none))++s0.heap)) i=match fnd hl i with | some o=>o | none=>fO (j.kl.map (λi=>(i,none))++s0.heap) i:=by
   simp only [fO,q1d hl]
   cases fnd hl i <;> rfl
  rw [this,fO_kl]
 have hhl:∀i,i < s0.next->fnd hl i=none:=λi hi=>qgr λp hp e=>by have:=hge p hp; omega
 have hfl:∀i,i < s0.next->fO h'' i=if i∈j.kl then none else fO s0.heap i:=λi hi=>by rw [hfo,hhl i hi]
 have hwk:∀i,i < s0.next->i∉j.kl->i∉w:=λi hi hk hm=>by
  rcases hw i hm with h | h
  ·omega
  ·exact hk h
 have hst:HSt s0.next s0.heap h'':=⟨λi o hi ho=>by
  rw [hfl i hi]at ho
  split at ho
  ·simp at ho
  ·exact .inl ⟨o,ho,OSt.refl _⟩⟩
 have hnb:∀i,i < s0.next->fO s0.heap i=none->fO h'' i=none:=λi hi h=>by
  rw [hfl i hi]
  split
  ·rfl
  ·exact h
 have hlow:∀i,i < s0.next->fO h'' i≠none->fO h'' i=fO s'.heap i:=λi hi h=>by
  rw [hfl i hi]at h ⊢
  split at h
  ·exact absurd rfl h
  ·rename_i hk
   rw [if_neg hk,(hf.ob i hi (hwk i hi hk)).1]
 generalize hMd:(λ(i j:Nat)=>(i=j/\j < s0.next)\/∃b∈mf,b.id=some j/\i=s0.next+b.j)=M
 have hM1:∀i,i < s0.next->M i i:=λi hi=>by rw [<- hMd]; exact .inl ⟨rfl,hi⟩
 have hnew:∀b∈mf,∀o,fO h'' (s0.next+b.j)=some o->AP s'.heap s0.next mf b o:=λb hb o ho=>by
  rw [hfo]at ho
  split at ho
  ·rename_i o' hx
   obtain ⟨o2,rfl,b2,hb2,e2,ha⟩:=hap _ _ hx
   obtain rfl:=Option.some.inj ho
   rw [(hinj b hb b2 hb2).1 (by omega)]
   exact ha
  ·split at ho
   ·simp at ho
   ·have:=(hr0.hr.ob _ _ ho).1
    omega
 have cx:Cx s'.heap h'' s0.next (s0.next+j.os.length) mf M:=by
  refine ⟨λb hb i hid=>by rw [<- hMd]; exact .inr ⟨b,hb,hid,rfl⟩,hbj,λb hb i hid c' hc'=> ?_,λb hb i hid c' hc'=> ?_,λb hb hid c' hc'=> ?_⟩
  ·cases ho:fO h'' (s0.next+b.j)with
   | none=>rw [ho]at hc'; simp [soC]at hc'
   | some o=>
    rw [ho]at hc'
    have ha:=hnew b hb o ho
    cases o with
    | ar t s v=>
     obtain ⟨_,⟨h1,_⟩ | ⟨id,ver,h1,h2⟩⟩:=ha
     ·rw [hid]at h1; cases h1
     ·rw [hid]at h1
      obtain rfl:=Option.some.inj h1
      exact ⟨t,s,(Option.some.inj hc').symm,q4l (.inl h2)⟩
    | im=>exact ha.elim
    | _=>simp [soC]at hc'
  ·cases ho:fO h'' (s0.next+b.j)with
   | none=>rw [ho]at hc'; simp [srC]at hc'
   | some o=>
    rw [ho]at hc'
    have ha:=hnew b hb o ho
    cases o with
    | rw t s ln=>
     obtain ⟨_,id,h1,h2⟩:=ha
     rw [hid]at h1
     obtain rfl:=Option.some.inj h1
     exact ⟨t,s,(Option.some.inj hc').symm,q9y h2⟩
    | _=>simp [srC]at hc'
  ·cases ho:fO h'' (s0.next+b.j)with
   | none=>rw [ho]at hc'; simp [soC]at hc'
   | some o=>
    rw [ho]at hc'
    have ha:=hnew b hb o ho
    cases o with
    | ar t s v=>
     obtain ⟨_,⟨_,rfl,_⟩ | ⟨id,ver,h1,_⟩⟩:=ha
     ·rw [<- Option.some.inj hc']; rfl
     ·rw [hid]at h1; cases h1
    | im=>exact ha.elim
    | _=>simp [soC]at hc'
 have hkv:∀v,okV s0.next s0.heap v->okV (s0.next+j.os.length) h'' v:=λv hv=>q1j hle hst hv
 obtain ⟨_,hE0⟩:=qc3 hr cx j.vs [] l1 m1 (l2++r2) e (l2++r2) hvs (λb hb=>hm2f b (hm12 b hb)) hev
 obtain ⟨_,hgk,cs',hgR,hgT⟩:=qg6 (n':=s'.next) cx hlow hM1 hkv j.gs s0.gh s'.gh m1 l2 m2 r2 g' r2 s1'.gh hgs hm2f hr0.gh.2 hr.gh.1 hr.gh.2 hgv
 -- the abstract machine's objects
 have hob0:∀i,∃ob,∀o,fnd hl i=some (some o)->obR h'' o ob/\okO (s0.next+j.os.length) h'' o/\∀o1,ob=some o1->∃b∈mf,i=s0.next+b.j/\∃id o0,b.id=some id/\look s1'.heap id=some o0/\TrOb M o1 o0:=by
  intro i
  cases hx:fnd hl i with
  | none=>exact ⟨none,λo h=>by cases h⟩
  | some o'=>
   obtain ⟨o,rfl,b,hb,e2,ha⟩:=hap i o' hx
   obtain ⟨ob,g1,g2,g3⟩:=ap_ob hr.hr cx ha
   refine ⟨ob,λo2 h=> ?_⟩
   obtain rfl:=Option.some.inj (Option.some.inj h)
   exact ⟨g1,g2,λo1 h1=>⟨b,hb,e2,g3 o1 h1⟩⟩
 obtain ⟨fob,hfob⟩:∃f:Nat->Option Ob,∀i o,fnd hl i=some (some o)->obR h'' o (f i)/\okO (s0.next+j.os.length) h'' o/\∀o1,f i=some o1->∃b∈mf,i=s0.next+b.j/\∃id o0,b.id=some id/\look s1'.heap id=some o0/\TrOb M o1 o0:=
  ⟨λi=>Classical.choose (hob0 i),λi=>Classical.choose_spec (hob0 i)⟩
 have hF:∃H:Heap,∀i,look H i=match fnd hl i with
   | some _=>fob i
   | none=>if i < s0.next/\i∉j.kl then (match look s1'.heap i with | some o=>if lowOb s0.next o then some o else none | none=>none)else none:=by
  refine quq _ (hl.map (·.1)++s1'.heap.map (·.1)) λi hi=> ?_
  cases hx:fnd hl i with
  | some o=>exact List.mem_append_left _ (qek (by rw [hx]; simp))
  | none=>
   rw [hx]at hi
   refine List.mem_append_right _ (qra λe=>hi ?_)
   simp only [e,ite_self]
 obtain ⟨H,hH⟩:=hF
 have hHn:∀i o,fnd hl i=some (some o)->look H i=fob i:=λi o h=>by
  rw [hH i,h]
 have hHl:∀i,i < s0.next->i∉j.kl->(∀ x,look s1'.heap i=some x->lowOb s0.next x->look H i=look s1'.heap i)/\(look s1'.heap i=none->look H i=none):=λi hi hk=>by
  rw [hH i,hhl i hi]
  simp only [hi,hk,not_false_eq_true,and_self,if_true]
  refine ⟨λx hx hlo=>by rw [hx]; simp only [hlo,if_true],λhx=>by rw [hx]⟩
 have hHR:∀i,i < s0.next->i∉j.kl->∀o,fO s0.heap i=some o->∀g,obR g o (look s1.heap i)->obR g o (look H i):=λi hi hk o ho g hg=>by
  have h1:=(hf.ob i hi (hwk i hi hk)).2 o ho
  obtain ⟨_,h2,h3⟩:=hr0.hr.ob i o ho
  exact qta (h1 _ h2) h3 (hHl i hi hk) g (h1 g hg)
 -- its temporaries
 have hE1:∀t,∃x',∀v,fnd e t=some v->okV (s0.next+j.os.length) h'' v/\tvR h'' v x'/\∃x,fnd s1'.env t=some x/\TrT M x' x/\∀l,x'≠ .tup l:=by
  intro t
  cases hx:fnd e t with
  | none=>exact ⟨.tup [],λv h=>by cases h⟩
  | some v=>
   obtain ⟨h1,x,x',h2,h3,h4,h5⟩:=hE0 t v hx
   refine ⟨x',λv2 h=> ?_⟩
   obtain rfl:=Option.some.inj h
   exact ⟨h1,h3,x,h2,h4,h5⟩
 obtain ⟨fe,hfe⟩:∃f:Nat->TV,∀t v,fnd e t=some v->okV (s0.next+j.os.length) h'' v/\tvR h'' v (f t)/\∃x,fnd s1'.env t=some x/\TrT M (f t) x/\∀l,f t≠ .tup l:=
  ⟨λt=>Classical.choose (hE1 t),λt=>Classical.choose_spec (hE1 t)⟩
 have hG:∃E:Env,∀t,fnd E t=match fnd e t with
   | some _=>some (fe t)
   | none=>(match fnd s1'.env t with | some x=>if ∀i∈idsTV x,i < s0.next then some x else none | none=>none):=by
  refine qsx _ (e.map (·.1)++s1'.env.map (·.1)) λt ht=> ?_
  cases hx:fnd e t with
  | some o=>exact List.mem_append_left _ (qek (by rw [hx]; simp))
  | none=>
   rw [hx]at ht
   refine List.mem_append_right _ (qek λe=>ht ?_)
   simp only [e]
 obtain ⟨E,hE⟩:=hG
 have hEn:∀t v,fnd e t=some v->fnd E t=some (fe t):=λt v h=>by rw [hE t,h]
 have hEl:∀t x,fnd e t=none->fnd s1'.env t=some x->(∀ i∈idsTV x,i < s0.next)->fnd E t=some x:=λt x h1 h2 h3=>by
  rw [hE t,h1,h2]
  exact if_pos h3
 have hsub:Sub s1' ⟨E,H,s0.next+j.os.length,cs'⟩:=by
  refine qv7 (base:=s0.next) hinj hbj hle (λt x' hx=> ?_) (λi o' ho=> ?_) (by rw [hMd]; exact hgT)
  ·rw [hMd]
   rw [hE t]at hx
   split at hx
   ·rename_i v hv
    obtain ⟨_,_,x,h3,h4,_⟩:=hfe t v hv
    rw [<- Option.some.inj hx]
    exact ⟨x,h3,h4⟩
   ·split at hx
    ·rename_i x hx1
     split at hx
     ·rename_i hlo
      obtain rfl:=Option.some.inj hx
      exact ⟨x,hx1,TrT.same x λi hi=>hM1 i (hlo i hi)⟩
     ·simp at hx
    ·simp at hx
  ·rw [hMd]
   cases hx:fnd hl i with
   | some o2=>
    obtain ⟨o,rfl,_⟩:=hap i o2 hx
    rw [hHn i o hx]at ho
    obtain ⟨_,_,h3⟩:=hfob i o hx
    obtain ⟨b,hb,e2,id,o0,hid,h4,h5⟩:=h3 o' ho
    refine ⟨id,o0, .inr ⟨b,hb,hid,e2⟩,h4,h5,λb2 hb2 hid2=> ?_⟩
    rw [(hinj b2 hb2 b hb).2 id hid2 hid]; exact e2
   | none=>
    rw [hH i,hx]at ho
    simp only at ho
    split at ho
    ·rename_i hik
     split at ho
     ·rename_i o hlo
      split at ho
      ·rename_i hlow1
       obtain rfl:=Option.some.inj ho
       refine ⟨i,o, .inl ⟨rfl,hik.1⟩,hlo, ?_,λb hb hid=> ?_⟩
       ·cases o with
        | box cs=>exact .inr ⟨cs,cs,rfl,rfl,TrL.same cs λi hi=>hM1 i (hlow1 i hi)⟩
        | nst sz sl=>exact .inl ⟨rfl,by simp,λk q len hk=>hM1 q (hlow1 k q len hk)⟩
        | _=>exact .inl ⟨rfl,by simp,trivial⟩
       ·rcases hbid b hb i hid with h | h
        ·have:=hik.1; omega
        ·exact absurd h hik.2
      ·simp at ho
     ·simp at ho
    ·simp at ho
 refine ⟨⟨E,H,s0.next+j.os.length,cs'⟩,hl.map (·.1)++j.kl,hsub,⟨λt v ht=> ?_,⟨λi o ho=> ?_⟩,Nat.le_refl _,hgR,hgk⟩,rfl,⟨hle,hst, ?_,λi hi hi2=> ?_,λt x ht hx hk=> ?_⟩,λi hi=> ?_⟩
 ·have ht:fnd (e++ds.map (λt=>(t,V.gn))++s0.env) t=some v:=ht
  rw [List.append_assoc,q1d]at ht
  cases hx:fnd e t with
  | some v2=>
   rw [hx]at ht
   obtain rfl:=Option.some.inj ht
   obtain ⟨h1,h2,_⟩:=hfe t v2 hx
   exact ⟨h1,λ_=>⟨_,hEn t v2 hx,h2⟩⟩
  | none=>
   rw [hx]at ht
   simp only at ht
   rw [q1d,qvh]at ht
   by_cases hds:t∈ds
   ·rw [if_pos hds]at ht
    obtain rfl:=Option.some.inj ht
    exact ⟨trivial,λh=>by rcases h with h | h <;> simp [alv]at h⟩
   ·rw [if_neg hds]at ht
    obtain ⟨h1,h2⟩:=hr0.env t v ht
    refine ⟨hkv v h1,λha=> ?_⟩
    obtain ⟨x,h3,h4⟩:=h2 (ha.imp (qae hst hnb h1) λq=>q)
    have h5:=qai hst h1 h4
    have hids:∀i∈idsTV x,i < s0.next/\i∉j.kl/\fO s0.heap i≠none:=λi hi=>by
     rcases ha with ha | rfl
     ·have i1:=(qm2 h4 h1 i hi).1
      have i2:=(qm2 h5 (hkv v h1) i hi).2 ha
      rw [hfl i i1]at i2
      split at i2
      ·exact absurd rfl i2
      ·exact ⟨i1,by assumption,i2⟩
     ·obtain rfl:x= .tup []:=h4
      simp [idsTV,idsTV.idsT]at hi
    have h6:=hf.env t x hds h3 λi hi=>⟨(hids i hi).1,hwk i (hids i hi).1 (hids i hi).2.1,(hids i hi).2.2⟩
    exact ⟨x,hEl t x hx h6 λi hi=>(hids i hi).1,h5⟩
 ·have ho:fO h'' i=some o:=ho
  show i < s0.next+j.os.length/\obR h'' o (look H i)/\okO (s0.next+j.os.length) h'' o
  have ho2:=ho
  rw [hfo i]at ho
  split at ho
  ·rename_i o2 hx
   subst ho
   obtain ⟨h1,h2,_⟩:=hfob i o hx
   obtain ⟨_,_,b,hb,e2,_⟩:=hap i _ hx
   rw [hHn i o hx]
   exact ⟨by have:=hbj b hb; omega,h1,h2⟩
  ·split at ho
   ·simp at ho
   ·rename_i hk
    obtain ⟨h1,h2,h3⟩:=hr0.hr.ob i o ho
    exact ⟨by omega,hHR i h1 hk o ho _ (q5v hst h3 h2),q5c hle hst h3⟩
 ·show cs'.length=_
  rw [hgT.len]; exact hf.gl
 ·simp only [List.mem_append,not_or]at hi2
  refine ⟨?_,hHR i hi hi2.2⟩
  show fO h'' i=_
  rw [hfl i hi,if_neg hi2.2]
 ·have h6:=hf.env t x ht hx λi hi=>by
   obtain ⟨i1,i2,i3⟩:=hk i hi
   simp only [List.mem_append,not_or]at i2
   exact ⟨i1,hwk i i1 i2.2,i3⟩
  cases he:fnd e t with
  | none=>exact hEl t x he h6 λi hi=>(hk i hi).1
  | some v=>
   show fnd E t=some x
   rw [hEn t v he]
   obtain ⟨_,_,x0,h3,h4,h5⟩:=hfe t v he
   rw [h6]at h3
   obtain rfl:=Option.some.inj h3
   refine congrArg some (TrT.eq1 (λi=>s0.next<=i\/i∈j.kl) (λa b hab=> ?_) h4 h5 λi hi hB=> ?_)
   ·rw [<- hMd]at hab
    rcases hab with ⟨rfl,_⟩ | ⟨bb,hb,hid,_⟩
    ·exact .inl rfl
    ·exact .inr (hbid bb hb b hid)
   ·obtain ⟨i1,i2,_⟩:=hk i hi
    simp only [List.mem_append,not_or]at i2
    rcases hB with h | h
    ·omega
    ·exact i2.2 h
 ·rcases List.mem_append.1 hi with hi | hi
  ·obtain ⟨p,hp,rfl⟩:=List.mem_map.1 hi
   exact .inl (hge p hp)
  ·exact .inr hi
end Go.Ev
