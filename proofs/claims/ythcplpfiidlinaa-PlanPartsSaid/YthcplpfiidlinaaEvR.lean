/- Calls: what a callee's answer means, and that a caller may use it. Conditions: the relation of XEvC. -/
import Derived.Test.YthcplpfiidlinaaEvLa
namespace Go.Ev
def RA(S:Nat->Prop)(w:World):A->Value->List Nat->Prop
 | .d x,v,fp=>RD S w x v/\fp= []
 | .agg xs,v,fp=>∃arr,v= .agg arr/\xs.length=arr.size/\(∀ (i:Nat) (x:D),xs[i]? =some x->RD S w x (arr.getD i undef))/\fp= []
 | .mt t,v,fp=>RT S w t v fp
def RAs(S:Nat->Prop)(w:World):List A->List Value->List Nat->Prop
 | [], [],fp=>fp= []
 | a :: as,v :: vs,fp=>∃f1 f2,fp=f1++f2/\RA S w a v f1/\RAs S w as vs f2
 | _,_,_=>False
def RR(S:Nat->Prop)(w:World):R->Value->List Nat->Prop
 | .c t,v,fp=>RT S w t v fp
 | .agg ts,v,fp=>∃(arr:Array Value) (fps:List (List Nat)),v= .agg arr/\ts.length=arr.size/\fps.length=ts.length/\fps.flatten=fp/\∀(i:Nat) (t:T) (f:List Nat),ts[i]? =some t->fps[i]? =some f->RT S w t (arr.getD i undef) f
def RRs(S:Nat->Prop)(w:World):List R->List Value->List Nat->Prop
 | [], [],fp=>fp= []
 | r :: rs,v :: vs,fp=>∃f1 f2,fp=f1++f2/\RR S w r v f1/\RRs S w rs vs f2
 | _,_,_=>False
def RTs(S:Nat->Prop)(w:World):List T->List Value->List Nat->Prop
 | [], [],fp=>fp= []
 | t :: ts,v :: vs,fp=>∃f1 f2,fp=f1++f2/\((t= .gone/\f1= [])\/RT S w t v f1)/\RTs S w ts vs f2
 | _,_,_=>False
def lentV:List A->List Value->List Value
 | .mt _ :: as,v :: vs=>v :: lentV as vs
 | _ :: as,_ :: vs=>lentV as vs
 | _,_=> []
def qeu:List Value->Value
 | [v]=>v
 | vs=> .tuple vs.toArray
def qva(P:Program)(f:FuncId)(args:Array Value)(w:World)(R:Value->World->Prop):Prop:=
 (∃ g as,(callFunc f args).run P w= .ok (.enter g as) w/\Calls P g as w λe w'=>∃v,e= .returned v/\R v w')\/
 (∃ v,(callFunc f args).run P w= .ok (.value v) w/\R v w)
def Left(S:Nat->Prop)(w:World)(fp:List Nat)(rs:List R)(outs:List T)(lent:List Value)(v:Value)(w':World):Prop:=
 ∃(S':Nat->Prop) (rvs:List Value) (fp1 fp2:List Nat),v=qeu rvs/\Stp S w S' w'/\(∀ b,S' b->S b\/b∈fp\/w.heap.size<=b)/\(∀ b,S' b->b < w'.heap.size)/\
  RRs S' w' rs rvs fp1/\RTs S' w' outs lent fp2/\(fp1++fp2).Nodup/\(∀ b∈fp1++fp2,¬S' b/\(b∈fp\/w.heap.size<=b))/\Frm (λb=>b < w.heap.size/\b∉fp) w w'
def Good(P:Program)(f:FuncId)(as:List A)(rs:List R)(outs:List T):Prop:=
 ∀(S:Nat->Prop) (w:World) (vs:List Value) (fp:List Nat),(∀ b,S b->b < w.heap.size)->RAs S w as vs fp->fp.Nodup->(∀ b∈fp,¬S b)->Glob S w->
  qva P f vs.toArray w (Left S w fp rs outs (lentV as vs))
def q5b(P:Program)(call:Call):Prop:=∀f as rs outs,call f as=some (rs,outs)->Good P f as rs outs
theorem RAs.stp{S S':Nat->Prop}{w:World}(hs:Stp S w S' w){as:List A}:∀ {vs:List Value} {fp:List Nat},RAs S w as vs fp->RAs S' w as vs fp:=by
 induction as with
 | nil=>intro vs fp h; cases vs <;> exact h
 | cons x as ih=>
  intro vs fp h
  cases vs with
  | nil=>exact h
  | cons v vs=>
   obtain ⟨f1,f2,h1,h2,h3⟩:=h
   refine ⟨f1,f2,h1, ?_,ih h3⟩
   cases x with
   | d y=>exact ⟨h2.1.mono hs,h2.2⟩
   | agg xs=>
    obtain ⟨arr,q1,q2,q3,q4⟩:=h2
    exact ⟨arr,q1,q2,λi x hi=>(q3 i x hi).mono hs,q4⟩
   | mt t=>exact RT.mono hs h2 λ_ _=>rfl
section
variable {P:Program}{S K:Nat->Prop}{w0 w:World}{Kn:Nat->Prop}{φ:Nat->Loc}{H:Heap}{e:Env}{ρ:Operand->Value}{o:Oper}{call:Call}
 {nxt n':Nat} {v:TV} {u:Upd} {ids:List Nat}
inductive Lent (Kn:Nat->Prop) (φ:Nat->Loc) (S:Nat->Prop) (w:World):List (C×List Nat×List Nat)->List Value->Prop
 | nil:Lent Kn φ S w [] []
 | cons {c:C} {own rd:List Nat} {l:List (C×List Nat×List Nat)} {v:Value} {vs:List Value} (h:RC S w Kn φ c v) (hl:Lent Kn φ S w l vs):Lent Kn φ S w ((c,own,rd) :: l) (v :: vs)
theorem qlf{H:Heap}(hI:Inv S K w0 Kn φ (look H) w):∀(tvs:List TV) (ms:List Bool) (as:List A) (ids:List Nat) (lent:List (C×List Nat×List Nat)) (vs:List Value),
  q1p H tvs ms=some (as,ids,lent)->tvs.length=vs.length->(∀ (i:Nat) (t:TV) (v:Value),tvs[i]? =some t->vs[i]? =some v->RTV S w Kn φ t v)->
  RAs (SB S w φ (look H) ids) w as vs ((lent.flatMap (·.2.1)).flatMap (blks w φ (look H)))/\(∀ i∈lent.flatMap (·.2.1),∃o,look H i=some o/\isOwn o=true)/\Lent Kn φ S w lent (lentV as vs):=by
 intro tvs
 induction tvs with
 | nil=>
  intro ms as ids lent vs h hl hr
  obtain ⟨rfl,rfl,rfl⟩: []=as/\ []=ids/\ []=lent:=by simpa [q1p]using h
  obtain rfl:vs= []:=List.length_eq_zero_iff.1 hl.symm
  exact ⟨rfl,λi hi=>by simp at hi, .nil⟩
 | cons t tvs ih=>
  intro ms as ids lent vs h hl hr
  cases vs with
  | nil=>simp at hl
  | cons v vs=>
   have h0:=hr 0 t v rfl rfl
   simp only [q1p]at h
   split at h
   ·simp at h
   ·rename_i as1 ids1 lent1 hrec
    obtain ⟨i1,i2,i3⟩:=ih ms.tail as1 ids1 lent1 vs hrec (by simpa using hl) (λi t v hi hv=>hr (i+1) t v (by simpa using hi) (by simpa using hv))
    split at h
    ·split at h
     ·rename_i c
      split at h
      ·rename_i t0 own rd hp
       obtain ⟨rfl,rfl,rfl⟩:A.mt t0 :: as1=as/\ids1=ids/\(c,own,rd) :: lent1=lent:=by simpa using h
       cases h0 with
       | c h0=>
        obtain ⟨p1,p2⟩:=(q7p hI 300).1 c t0 own rd v hp h0
        refine ⟨⟨own.flatMap (blks w φ (look H)),_,by simp,p1.mono (SB.stp0 _) (λ_ _=>rfl),i1⟩,λi hi=> ?_, .cons h0 i3⟩
        rcases List.mem_append.1 (by simpa using hi:i∈own++lent1.flatMap (·.2.1))with hi | hi
        ·exact p2 i hi
        ·exact i2 i hi
      ·simp at h
     ·simp at h
    ·split at h
     ·rename_i c
      split at h
      ·rename_i x i hp
       obtain ⟨rfl,rfl,rfl⟩:A.d x :: as1=as/\i++ids1=ids/\lent1=lent:=by simpa using h
       cases h0 with
       | c h0=>
        have p1:=(q9o hI 300).1 c x i v hp h0
        refine ⟨⟨[],_,rfl,⟨p1.mono (SB.stp _ _ λj hj=>by simp [hj]),rfl⟩, ?_⟩,i2,i3⟩
        exact i1.stp (SB.stp _ _ λj hj=>by simp [hj])
      ·simp at h
     ·rename_i cs
      split at h
      ·rename_i xs i hp
       obtain ⟨rfl,rfl,rfl⟩:A.agg xs :: as1=as/\i++ids1=ids/\lent1=lent:=by simpa using h
       cases h0 with
       | @agg _ arr hlen h0=>
        obtain ⟨q1,q2⟩:=q6w hI cs xs i hp (λi=>arr[i]?) (λi c hi=>by
         have hlt:i < arr.size:=by rw [<- hlen]; exact (List.getElem?_eq_some_iff.1 hi).1
         exact ⟨arr.getD i undef,by simp [hlt],h0 i c hi⟩)
        refine ⟨⟨[],_,rfl,⟨arr,rfl,q1.trans hlen,λj x hj=> ?_,rfl⟩, ?_⟩,i2,i3⟩
        ·obtain ⟨y,hy,hd⟩:=q2 j x hj
         have hy':arr[j]? =some y:=hy
         have e1:arr.getD j undef=y:=by simp [hy']
         rw [e1]; exact hd.mono (SB.stp _ _ λk hk=>by simp [hk])
        ·exact i1.stp (SB.stp _ _ λj hj=>by simp [hj])
      ·simp at h
     ·simp at h
end
end Go.Ev

namespace Go.Ev
section
variable {P:Program}{S K:Nat->Prop}{w0 w:World}{Kn:Nat->Prop}{φ:Nat->Loc}{hf:Nat->Option Ob}{H:Heap}{e:Env}{ρ:Operand->Value}{o:Oper}{call:Call}
 {nxt n':Nat} {v:TV} {u:Upd} {ids:List Nat}
theorem Laid.away{fa fb:List Nat}{n m:Nat}{φ1:Nat->Loc}(hI:Inv S K w0 Kn φ hf w)(h:Laid S K w0 w Kn φ hf fa n m u φ1)(ha:Away w φ hf fb)(hd:∀x∈fa,x∉fb):Away w φ1 (updF u hf) fb:=by
 intro j o hj hown x hx hm
 by_cases hu:∃p∈u,p.1=j
 ·obtain ⟨p,hp,rfl⟩:=hu
  exact hd _ (h.blk p hp x hx) hm
 ·have hfn:fnd u j=none:=q3k λp hp e=>hu ⟨p,hp,e⟩
  have hj':=hj
  simp only [updF,hfn]at hj'
  have hk:=(hI.obj j o hj').1
  rw [q16 (h.ren.same j hk) (hj.trans hj'.symm)]at hx
  exact ha j o hj' hown x hx hm
theorem qoy(r:R)(nxt:Nat)(v:Value)(fp:List Nat)(hI:Inv S K w0 Kn φ hf w)(hfr:∀j,nxt<=j->j < (unR nxt r).2.2->¬Kn j)(h:RR S w r v fp)(hn:fp.Nodup)(hSK:∀b∈fp,¬S b/\¬K b)(ha:Away w φ hf fp):
  ∃ φ', Laid S K w0 w Kn φ hf fp nxt (unR nxt r).2.2 (unR nxt r).2.1 φ' ∧ RTV S w (KnU Kn nxt (unR nxt r).2.2) φ' (unR nxt r).1 v := by
 cases r with
 | c t=>
  obtain ⟨φ', h1, h2⟩ := qbv t nxt v fp hI hfr h hn hSK ha
  exact ⟨φ', h1, .c h2⟩
 | agg ts=>
  obtain ⟨arr,fps,rfl,h1,h2,rfl,h3⟩:=h
  obtain ⟨φ', h4, h5, h6⟩ := q8m ts nxt (fun i => arr.getD i undef) fps hI hfr h2 h3 hn hSK ha
  exact ⟨φ', h4, .agg (h5.trans h1) h6⟩
theorem qvv(r:R)(nxt:Nat):nxt<=(unR nxt r).2.2:=by
 cases r with
 | c t=>exact qsq t nxt
 | agg ts=>exact qd2 ts nxt
theorem q4y(nxt:Nat)(r:R)(rs:List R):unRs nxt (r :: rs)=((unR nxt r).1 :: (unRs (unR nxt r).2.2 rs).1,(unR nxt r).2.1++(unRs (unR nxt r).2.2 rs).2.1,(unRs (unR nxt r).2.2 rs).2.2):=rfl
theorem qp7:∀(rs:List R) (nxt:Nat),nxt<=(unRs nxt rs).2.2:=by
 intro rs
 induction rs with
 | nil=>intro nxt; exact Nat.le_refl _
 | cons r rs ih=>intro nxt; rw [q4y]; exact Nat.le_trans (qvv r nxt) (ih _)
theorem qc6:∀(rs:List R) {Kn:Nat->Prop} {φ:Nat->Loc} {hf:Nat->Option Ob} (nxt:Nat) (vs:List Value) (fp:List Nat),Inv S K w0 Kn φ hf w->(∀ j,nxt<=j->j < (unRs nxt rs).2.2->¬Kn j)->RRs S w rs vs fp->fp.Nodup->
  (∀ b∈fp,¬S b/\¬K b)->Away w φ hf fp->
  ∃ φ', Laid S K w0 w Kn φ hf fp nxt (unRs nxt rs).2.2 (unRs nxt rs).2.1 φ' ∧ (unRs nxt rs).1.length = vs.length ∧
   ∀ (i : Nat) (t : TV) (v : Value), (unRs nxt rs).1[i]? = some t → vs[i]? = some v → RTV S w (KnU Kn nxt (unRs nxt rs).2.2) φ' t v := by
 intro rs
 induction rs with
 | nil=>
  intro Kn φ hf nxt vs fp hI hfr h hn hSK ha
  cases vs with
  | cons v vs=>exact h.elim
  | nil=>
   obtain rfl:fp= []:=h
   exact ⟨φ,Laid.nil hI _ _,rfl,λi t v hi=>by simp [unRs]at hi⟩
 | cons r rs ih=>
  intro Kn φ hf nxt vs fp hI hfr h hn hSK ha
  cases vs with
  | nil=>exact h.elim
  | cons v vs=>
   obtain ⟨f1,f2,rfl,h1,h2⟩:=h
   rw [List.nodup_append]at hn
   obtain ⟨hn1,hn2,hn3⟩:=hn
   simp only [List.mem_append]at hSK
   obtain ⟨φ1,hL1,hr1⟩:=qoy r nxt v f1 hI (λj hj hj2=>hfr j hj (by rw [q4y]; exact Nat.lt_of_lt_of_le hj2 (qp7 rs _))) h1 hn1 (λb hb=>hSK b (.inl hb)) (λj o hj hown x hx hm=>ha j o hj hown x hx (by simp [hm]))
   obtain ⟨φ2,hL2,hlen,hr2⟩:=ih (Kn:=KnU Kn nxt (unR nxt r).2.2) (φ:=φ1) (hf:=updF (unR nxt r).2.1 hf) (unR nxt r).2.2 vs f2 hL1.inv (λj hj hj2 hk=>by
    rcases hk with hk | hk
    ·have:=hL1.le; exact hfr j (by omega) (by rw [q4y]; exact hj2) hk
    ·omega) h2 hn2 (λb hb=>hSK b (.inr hb)) (hL1.away hI (λj o hj hown x hx hm=>ha j o hj hown x hx (by simp [hm])) λx hx hx2=>hn3 x hx x hx2 rfl)
   have hcomp:=hL1.comp hL2
   have hcm:updF ((unRs (unR nxt r).2.2 rs).2.1++(unR nxt r).2.1) hf=updF ((unR nxt r).2.1++(unRs (unR nxt r).2.2 rs).2.1) hf:=
    q3z λp hp q hq e=>by
     have h1:=hL2.fresh p hp
     have h2:=hL1.fresh q hq
     omega
   have hsub:∀i,KnU (KnU Kn nxt (unR nxt r).2.2) (unR nxt r).2.2 (unRs (unR nxt r).2.2 rs).2.2 i->KnU Kn nxt (unRs (unR nxt r).2.2 rs).2.2 i:=λi=>(q8b hL1.le hL2.le i).1
   refine ⟨φ2, ?_,by simp [q4y,hlen],λi t v' hi hv=> ?_⟩
   ·simp only [q4y]
    have hsw:∀ {p:Nat×Option Ob} {a b:Upd},p∈a++b->p∈b++a:=λhp=>List.mem_append.2 (List.mem_append.1 hp).symm
    exact ⟨hcomp.le,hcomp.ren,hcm▸hcomp.inv,λp hp=>hcomp.fresh p (hsw hp),λp hp x hx=>hcomp.blk p (hsw hp) x (hcm.symm▸hx)⟩
   ·cases i with
    | zero=>
     obtain rfl:(unR nxt r).1=t:=by simpa [q4y]using hi
     obtain rfl:v=v':=by simpa using hv
     exact (hr1.mono (Stp.refl _ _) hL2.ren).kn hsub
    | succ i=>exact (hr2 i t v' (by simpa [q4y]using hi) (by simpa using hv)).kn hsub
theorem Inv.put(h:Inv S K w0 Kn φ hf w){i:Nat}(hi:Kn i)(o:Ob)(hfree:isOwn o=true->∀j b,hf j=some b->isOwn b=true->j≠i->(φ i).blk∉blks w φ hf j)
  (hro:RO S K w Kn φ (φ i) o)
  (hp:∀sz sl k x,o= .nst sz sl->PAt w (φ i) sl k x->x≠(φ i).blk/\(∀ j b,hf j=some b->isOwn b=true->j≠i->x∉blks w φ hf j)/\∀k',PAt w (φ i) sl k' x->k'=k:=by intro _ _ _ _ e; cases e):
  Inv S K w0 Kn φ (updF [(i,some o)] hf) w:=by
 have hold:∀j b,updF [(i,some o)] hf j=some b->(j=i/\b=o)\/(j≠i/\hf j=some b):=by
  intro j b hj
  rw [q06]at hj
  by_cases e:i=j
  ·rw [if_pos e]at hj; exact .inl ⟨e.symm,(Option.some.inj hj).symm⟩
  ·rw [if_neg e,q0x]at hj; exact .inr ⟨λq=>e q.symm,hj⟩
 refine h.stepG (Stp.refl _ _) (Ren.refl _ _) h.slt h.sk h.frm ?_ ?_ ?_
 ·intro id o' ho
  rcases hold id o' ho with ⟨rfl,rfl⟩ | ⟨_,ho'⟩
  ·exact .inr ⟨hi,hro⟩
  ·exact .inl ⟨ho',λhown=>⟨rfl,((h.obj id o' ho').2.own hown).1⟩,h.kept ho' λ_ _=>rfl⟩
 ·intro a b oa ob ha hb hoa hob hne
  rcases hold a oa ha with ⟨e1,e2⟩ | ⟨n1,ha'⟩ <;> rcases hold b ob hb with ⟨e3,e4⟩ | ⟨n2,hb'⟩
  ·exact absurd (e1.trans e3.symm) hne
  ·rw [e1]; exact λe=>hfree (e2▸hoa) b ob hb' hob n2 (q0m.2 (.inl e))
  ·rw [e3]; exact λe=>hfree (e4▸hob) a oa ha' hoa n1 (q0m.2 (.inl e.symm))
  ·exact h.dist a b oa ob ha' hb' hoa hob hne
 ·intro a sz sl k x ha hpa
  rcases hold a _ ha with ⟨ea,eo⟩ | ⟨na,ha'⟩
  ·rw [ea]at hpa
   obtain ⟨p1,p2,p3⟩:=hp sz sl k x eo.symm hpa
   refine ⟨λj b hj hown=> ?_,λj sz' sl' k' hj hpj=> ?_⟩
   ·rcases hold j b hj with ⟨ej,_⟩ | ⟨nj,hj'⟩
    ·rw [ej]; exact λe=>p1 e.symm
    ·exact λe=>p2 j b hj' hown nj (q0m.2 (.inl e.symm))
   ·rcases hold j _ hj with ⟨ej,eo2⟩ | ⟨nj,hj'⟩
    ·rw [ej]at hpj
     rw [<- eo]at eo2; cases eo2; exact ⟨ej.trans ea.symm,p3 k' hpj⟩
    ·exact absurd (q0m.2 (.inr ⟨sz',sl',k',hj',hpj⟩)) (p2 j _ hj' rfl nj)
  ·obtain ⟨p1,p2⟩:=h.prv a sz sl k x ha' hpa
   refine ⟨λj b hj hown=> ?_,λj sz' sl' k' hj hpj=> ?_⟩
   ·rcases hold j b hj with ⟨ej,eo⟩ | ⟨_,hj'⟩
    ·rw [ej]; exact λe=>hfree (eo▸hown) a _ ha' rfl na (q0m.2 (.inr ⟨sz,sl,k,ha',e▸hpa⟩))
    ·exact p1 j b hj' hown
   ·rcases hold j _ hj with ⟨ej,eo⟩ | ⟨_,hj'⟩
    ·rw [ej]at hpj
     exact absurd (q0m.2 (.inr ⟨sz,sl,k,ha',hpa⟩)) ((hp sz' sl' k' x eo.symm hpj).2.1 a _ ha' rfl na)
    ·exact p2 j sz' sl' k' hj' hpj
structure Back (S K : Nat → Prop) (w0 w : World) (Kn : Nat → Prop) (φ : Nat → Loc) (hf : Nat → Option Ob) (fp : List Nat) (owns : List Nat) (nxt m : Nat) (u : Upd) (φ' : Nat → Loc) : Prop where
 le:nxt<=m
 ren : Ren Kn φ (KnU Kn nxt m) φ'
 inv : Inv S K w0 (KnU Kn nxt m) φ' (updF u hf) w
 keys:∀p∈u,p.1∈owns\/(nxt<=p.1/\p.1 < m)
 has:∀i∈owns,(fnd u i).isSome=true
 blk : ∀ i o, updF u hf i = some o → isOwn o = true → (i ∈ owns ∨ (nxt ≤ i ∧ i < m)) → ∀ x ∈ blks w φ' (updF u hf) i, x ∈ fp
def q35(l:List (C×List Nat×List Nat)):List Nat:=l.flatMap (·.2.1)
theorem q6n(own:List Nat)(j:Nat):fnd (own.map λi=>((i,none):Nat×Option Ob)) j=if j∈own then some none else none:=by
 induction own with
 | nil=>rfl
 | cons a l ih=>
  simp only [List.map_cons,fnd]
  by_cases e:a=j
  ·simp [e]
  ·have e':(a == j)=false:=by simpa using e
   have e2:¬j=a:=λh=>e h.symm
   simp [e',ih,e2]
theorem RC.op_inv{id off:Nat}{v:Value}(h:RC S w Kn φ (.op id off) v):v= .pointer (some ⟨(φ id).blk,(φ id).base+off,none⟩)/\Kn id:=by
 cases h with
 | op hk=>exact ⟨rfl,hk⟩
theorem Own.unique{w:World}{b:Nat}{a a':Array Value}(h:Own w b a)(h':Own w b a'):a=a':=by
 obtain ⟨t,h⟩:=h
 obtain ⟨t',h'⟩:=h'
 rw [h]at h'
 simp at h'
 exact h'.1
theorem q7d{α:Type}{u:List (Nat×α)}{id:Nat}{x:α}(h:fnd u id=some x):∃p∈u,p.1=id:=by
 induction u with
 | nil=>simp [fnd]at h
 | cons p r ih=>
  obtain ⟨i,y⟩:=p
  by_cases e:i=id
  ·exact ⟨(i,y),by simp,e⟩
  ·have e2:(i == id)=false:=by simpa using e
   simp only [fnd,e2,cond_false]at h
   obtain ⟨p,hp,hpe⟩:=ih h
   exact ⟨p,by simp [hp],hpe⟩
theorem qf2:∀(l:List (C×List Nat×List Nat)) (outs:List T) (nxt:Nat) (bu:Upd) (m:Nat),q12 nxt l outs=some (bu,m)->nxt<=m:=by
 intro l
 induction l with
 | nil=>
  intro outs nxt bu m h
  cases outs with
  | nil=>obtain ⟨_,rfl⟩: []=bu/\nxt=m:=by simpa [q12]using h
         exact Nat.le_refl _
  | cons t ts=>simp [q12]at h
 | cons p l ih=>
  obtain ⟨c,own,rd⟩:=p
  intro outs nxt bu m h
  cases outs with
  | nil=>unfold q12 at h; simp at h
  | cons t outs=>
   unfold q12 at h
   split at h
   ·simp at *
   ·rename_i heq1 heq2
    simp only [List.cons.injEq,Prod.mk.injEq]at heq1 heq2
    obtain ⟨_,rfl⟩:=heq1
    exact ih _ _ _ _ h
   ·rename_i heq1 heq2
    simp only [List.cons.injEq,Prod.mk.injEq]at heq1 heq2
    obtain ⟨_,rfl⟩:=heq1
    split at h
    ·rename_i w2 k hrec
     split at h
     ·obtain ⟨_,rfl⟩:=Prod.mk.inj (Option.some.inj h)
      exact Nat.le_trans (qd2 _ _) (ih _ _ _ _ hrec)
     ·simp at h
    ·simp at h
   ·rename_i heq1 heq2
    simp only [List.cons.injEq,Prod.mk.injEq]at heq1 heq2
    obtain ⟨_,rfl⟩:=heq1
    split at h
    ·split at h
     ·rename_i w2 k hrec
      obtain ⟨_,rfl⟩:=Prod.mk.inj (Option.some.inj h)
      exact ih _ _ _ _ hrec
     ·simp at h
    ·simp at h
   ·rename_i heq1 heq2
    simp only [List.cons.injEq,Prod.mk.injEq]at heq1 heq2
    obtain ⟨_,rfl⟩:=heq1
    split at h
    ·split at h
     ·rename_i w2 k hrec
      obtain ⟨_,rfl⟩:=Prod.mk.inj (Option.some.inj h)
      exact ih _ _ _ _ hrec
     ·simp at h
    ·simp at h
   ·rename_i heq1 heq2
    simp only [List.cons.injEq,Prod.mk.injEq]at heq1 heq2
    obtain ⟨_,rfl⟩:=heq1
    split at h
    ·rename_i w2 k hrec
     obtain ⟨_,rfl⟩:=Prod.mk.inj (Option.some.inj h)
     exact ih _ _ _ _ hrec
    ·simp at h
   ·simp at h
theorem qjm{H0:Heap}{S0 K0:Nat->Prop}{wp wz:World}{Kn0:Nat->Prop}{φ0:Nat->Loc}(hI0:Inv S0 K0 wz Kn0 φ0 (look H0) wp){id len:Nat}
  (hw:(match look H0 id with | some (.arr _ rows)=>(0 == 0) && len == rows.length | some (.nst _ slots)=>(0 == 0) && len == slots.length | _=>false)=true):
  ∃arr,Own wp (φ0 id).blk arr/\arr.size=(φ0 id).ext/\(φ0 id).base+len * (φ0 id).sz<=(φ0 id).ext/\len<=(φ0 id).cap:=by
 split at hw
 ·rename_i sz rows ho
  obtain ⟨_,h0⟩:=hI0.obj _ _ ho
  have hl:len=rows.length:=by simpa using hw
  subst hl
  cases h0 with
  | arr hsz hl hS hK hown hext hfit hr hv=>exact ⟨_,hown,hext,by rw [hl]; exact hfit,hv⟩
 ·rename_i sz slots ho
  obtain ⟨_,h0⟩:=hI0.obj _ _ ho
  have hl:len=slots.length:=by simpa using hw
  subst hl
  cases h0 with
  | nst hsz hl hS hK hown hext hfit hr hv=>exact ⟨_,hown,hext,by rw [hl,Nat.mul_one]; exact hfit,hv⟩
 ·cases hw
theorem ql9{H0:Heap}{S0:Nat->Prop}{wp:World}{Kn0:Nat->Prop}{φ0:Nat->Loc}{K0:Nat->Prop}{wz:World}(hI0:Inv S0 K0 wz Kn0 φ0 (look H0) wp)(hgrow:∀b arr,Own wp b arr->∃arr',Own w b arr'/\arr'.size=arr.size):
  ∀(l:List (C×List Nat×List Nat)) (vs:List Value) (outs:List T) (fp:List Nat) {Kn:Nat->Prop} {φ:Nat->Loc} {hf:Nat->Option Ob} (nxt:Nat) (bu:Upd) (m:Nat),
  Lent Kn0 φ0 S0 wp l vs->q0s H0 l=true->RTs S w outs vs fp->Inv S K w0 Kn φ hf w->(∀ j,nxt<=j->j < m->¬Kn j)->Ren Kn0 φ0 Kn φ->fp.Nodup->(∀ b∈fp,¬S b/\¬K b)->Away w φ hf fp->
  (∀ i ∈ q35 l, hf i = none ∧ Kn0 i) → (q35 l).Nodup → q12 nxt l outs = some (bu, m) → ∃ φ', Back S K w0 w Kn φ hf fp (q35 l) nxt m bu φ' := by
 intro l
 induction l with
 | nil=>
  intro vs outs fp Kn φ hf nxt bu m hl hw hr hI hfr hren hn hSK ha hown hon h
  cases hl
  cases outs with
  | cons t ts=>exact hr.elim
  | nil=>
   obtain ⟨rfl,rfl⟩: []=bu/\nxt=m:=by simpa [q12]using h
   exact ⟨φ,Nat.le_refl _,q9a _ _,hI.kn λ_ hi=> .inl hi,λp hp=>by simp at hp,λi hi=>by simp [q35]at hi,λi o _ _ hx=>by
    rcases hx with hx | hx
    ·simp [q35]at hx
    ·omega⟩
 | cons p l ih=>
  obtain ⟨c,own,rd⟩:=p
  intro vs outs fp Kn φ hf nxt bu m hl hw hr hI hfr hren hn hSK ha hown hon h
  cases hl with
  | @cons _ _ _ _ v vs hc hl=>
  cases outs with
  | nil=>exact hr.elim
  | cons t outs=>
   obtain ⟨f1,f2,rfl,hr1,hr2⟩:=hr
   rw [List.nodup_append]at hn
   obtain ⟨hn1,hn2,hn3⟩:=hn
   simp only [List.mem_append]at hSK
   have ha1:Away w φ hf f1:=λj o hj hown x hx hm=>ha j o hj hown x hx (by simp [hm])
   have ha2:Away w φ hf f2:=λj o hj hown x hx hm=>ha j o hj hown x hx (by simp [hm])
   have ho1:∀i∈own,hf i=none/\Kn0 i:=λi hi=>hown i (by simp [q35,hi])
   have ho2:∀i∈q35 l,hf i=none/\Kn0 i:=λi hi=>hown i (by simp only [q35,List.flatMap_cons,List.mem_append]; exact .inr hi)
   have hoc:q35 ((c,own,rd) :: l)=own++q35 l:=rfl
   rw [hoc,List.nodup_append]at hon
   obtain ⟨hon1,hon2,hon3⟩:=hon
   have hw2:q0s H0 l=true:=by
    cases c <;> simp only [q0s,Bool.and_eq_true]at hw <;> first | exact hw | exact hw.2
   have fin:∀(id:Nat) (ob:Ob) (w2:Upd) (k:Nat),own= [id]->(bu,m)=((id,some ob) :: w2,k)->q12 nxt l outs=some (w2,k)->Inv S K w0 Kn φ (updF [(id,some ob)] hf) w->(∀ x∈blks w φ (updF [(id,some ob)] hf) id,x∈f1)->
     ∃ φ', Back S K w0 w Kn φ hf (f1 ++ f2) (q35 ((c, own, rd) :: l)) nxt m bu φ' := by
    intro id ob w2 k hownid hbm hrec hput hblk
    subst hownid
    obtain ⟨rfl,rfl⟩:=Prod.mk.inj hbm
    obtain ⟨hidn,hidk0⟩:=ho1 id (by simp)
    have hidk:=hren.sub id hidk0
    have hφ:=hren.same id hidk0
    have hidlt:¬(nxt<=id/\id < m):=λh=>hfr id h.1 h.2 hidk
    obtain ⟨φ2,hB⟩:=ih vs outs f2 nxt w2 m hl hw2 hr2 hput hfr hren hn2 (λb hb=>hSK b (.inr hb))
     (λj o hj hown x hx hm=>by
      have hj':=hj
      rw [q06]at hj'
      split at hj'
      ·rename_i e
       subst e
       exact hn3 x (hblk x hx) x hm rfl
      ·rw [q16 rfl (hj.trans hj'.symm)]at hx
       exact ha2 j o hj' hown x hx hm)
     (λi hi=>by
      obtain ⟨h1,h2⟩:=ho2 i hi
      refine ⟨?_,h2⟩
      have hne:¬id=i:=λe=>hon3 id (by simp) i hi e
      rw [q06,if_neg hne]; exact h1) hon2 hrec
    have hkeys:=hB.keys
    have hm2:=hB.le
    have hdis:∀q∈w2,id≠q.1:=λq hq e=>by
     rcases hkeys q hq with h | h
     ·exact hon3 id (by simp) q.1 h e
     ·omega
    have heq:updF ((id,some ob) :: w2) hf=updF w2 (updF [(id,some ob)] hf):=by
     rw [<- q0n]
     exact q3z (u:= [(id,some ob)]) λp hp q hq e=>by
      rw [List.mem_singleton.1 hp]at e
      exact hdis q hq e
    refine ⟨φ2,hB.le,hB.ren,heq▸hB.inv,λp hp=> ?_,λi hi=> ?_,λi o hio hownio hi=> ?_⟩
    ·rw [hoc]
     rcases List.mem_cons.1 hp with rfl | hp
     ·exact .inl (by simp)
     ·rcases hkeys p hp with h | h
      ·exact .inl (by simp [h])
      ·exact .inr h
    ·rw [hoc]at hi
     simp only [fnd]
     by_cases e:id=i
     ·simp [e]
     ·have e':(id == i)=false:=by simpa using e
      simp only [e',cond_false]
      rcases List.mem_append.1 hi with hi | hi
      ·exact absurd (List.mem_singleton.1 hi).symm e
      ·exact hB.has i hi
    ·rw [heq]at hio ⊢
     intro x hx
     by_cases hrest:i∈q35 l\/(nxt<=i/\i < m)
     ·exact List.mem_append_right _ (hB.blk i o hio hownio hrest x hx)
     ·have hi2:i=id:=by
       rcases hi with hi | hi
       ·rw [hoc]at hi
        rcases List.mem_append.1 hi with h | h
        ·exact List.mem_singleton.1 h
        ·exact absurd (.inl h) hrest
       ·exact absurd (.inr hi) hrest
      subst hi2
      have hwn:fnd w2 i=none:=q3k λq hq e=>hdis q hq e.symm
      have hwi:updF w2 (updF [(i,some ob)] hf) i=updF [(i,some ob)] hf i:=by
       conv=>lhs; unfold updF
       rw [hwn]; rfl
      rw [q16 (hB.ren.same i hidk) hwi]at hx
      exact List.mem_append_left _ (hblk x hx)
   unfold q12 at h
   split at h
   ·simp at *
   ·-- nothing was owned
    rename_i heq1 heq2
    simp only [List.cons.injEq,Prod.mk.injEq]at heq1 heq2
    obtain ⟨⟨rfl,rfl,rfl⟩,rfl⟩:=heq1
    obtain ⟨rfl,rfl⟩:=heq2
    have hr1:=hr1.resolve_left λh=>by cases h.1
    have e0:f1= []:=by cases hr1; rfl
    subst e0
    obtain ⟨φ', hB⟩ := ih vs outs f2 nxt bu m hl hw2 hr2 hI hfr hren hn2 (fun b hb => hSK b (.inr hb)) ha2 ho2 hon2 h
    exact ⟨φ', hB.le, hB.ren, hB.inv, hB.keys, hB.has, hB.blk⟩
   ·-- a box
    rename_i id own' rd' r ts' ts heq1 heq2
    simp only [List.cons.injEq,Prod.mk.injEq]at heq1 heq2
    obtain ⟨⟨rfl,rfl,rfl⟩,rfl⟩:=heq1
    obtain ⟨rfl,rfl⟩:=heq2
    split at h
    ·rename_i w2 k hrec
     split at h
     ·rename_i hcon
      obtain ⟨rfl,rfl⟩:(id,some (Ob.box (unL nxt ts').1)) :: (unL nxt ts').2.1++own.map (λi=>((i,none):Nat×Option Ob))++w2=bu/\k=m:=by simpa using h
      have hid:id∈own:=by simpa using hcon
      obtain ⟨hidn,hidk0⟩:=ho1 id hid
      have hidk:=hren.sub id hidk0
      have hφ:=hren.same id hidk0
      obtain ⟨hv,_⟩:=hc.op_inv
      have hr1:=hr1.resolve_left λh=>by cases h.1
      cases hr1 with
      | @pt _ b arr fps hown0 hlen hfl hrec2=>
      simp only [Value.pointer.injEq,Option.some.injEq,Addr.mk.injEq]at hv
      obtain ⟨hb,hbase,_⟩:=hv
      rw [<- hφ]at hb hbase
      have hbase0:(φ id).base=0:=by omega
      rw [List.nodup_cons]at hn1
      have hmk:=qf2 _ _ _ _ _ hrec
      have hidlt:¬(nxt<=id/\id < k):=λh=>hfr id h.1 h.2 hidk
      obtain ⟨φ1,hL,hcl,hcr⟩:=q8m ts' nxt (λi=>arr.getD i undef) fps hI (λj hj hj2=>hfr j hj (by omega)) hfl hrec2 hn1.2 (λb' hb'=>hSK b' (.inl (List.mem_cons_of_mem _ hb')))
       (λj o hj hown x hx hm=>ha1 j o hj hown x hx (List.mem_cons_of_mem _ hm))
      have hm1:=hL.le
      have hφ1:φ1 id=φ id:=hL.ren.same id hidk
      have hul:fnd (unL nxt ts').2.1 id=none:=q3k λp hp e=>by have:=hL.fresh p hp; omega
      have hdead:updF (unL nxt ts').2.1 hf id=none:=by simp only [updF,hul,hidn]
      have hawb:Away w φ1 (updF (unL nxt ts').2.1 hf) [b]:=hL.away hI (λj o hj hown x hx hm=>ha1 j o hj hown x hx (by rw [List.mem_singleton.1 hm]; simp)) λx hx hx2=>hn1.1 (by rw [<- List.mem_singleton.1 hx2]; exact hx)
      have hput:=hL.inv.put (i:=id) (.inl hidk) (.box (unL nxt ts').1) (λ_ j o hj hown hne hm=>by
        rw [hφ1,<- hb]at hm
        exact hawb j o hj hown b hm (by simp))
       (.box (by rw [hφ1]; exact hbase0) (by rw [hφ1,<- hb]; exact (hSK b (.inl (by simp))).1) (by rw [hφ1,<- hb]; exact (hSK b (.inl (by simp))).2) (by rw [hφ1,<- hb]; exact hown0) (hcl.trans hlen) hcr)
      have hav2:Away w φ1 (updF (unL nxt ts').2.1 hf) f2:=hL.away hI ha2 λx hx hx2=>hn3 x (List.mem_cons_of_mem _ hx) x hx2 rfl
      have hult:∀i,¬(nxt<=i/\i < k)->fnd (unL nxt ts').2.1 i=none:=λi hi=>q3k λp hp e=>by have:=hL.fresh p hp; omega
      have hownlt:∀i,Kn0 i->¬(nxt<=i/\i < k):=λi hi h=>hfr i h.1 h.2 (hren.sub i hi)
      rw [<- q0n]at hput
      obtain ⟨φ2,hB⟩:=ih vs outs f2 (unL nxt ts').2.2 w2 k hl hw2 hr2 hput (λj hj hj2 hk=>by
        rcases hk with hk | hk
        ·exact hfr j (by omega) hj2 hk
        ·omega) ⟨λi hi=> .inl (hren.sub i hi),λi hi=>(hL.ren.same i (hren.sub i hi)).trans (hren.same i hi)⟩ hn2 (λb hb=>hSK b (.inr hb))
       (λj o hj hown x hx hm=>by
        have hj':=hj
        rw [List.singleton_append,q06]at hj'
        split at hj'
        ·rename_i e
         subst e
         rw [q60 (λ_ _ e=>by rw [List.singleton_append,q06,if_pos rfl]at e; cases e),hφ1,<- hb]at hx
         rw [List.mem_singleton.1 hx]at hm
         exact hn3 b (by simp) b hm rfl
        ·rw [q16 rfl (hj.trans hj'.symm)]at hx
         exact hav2 j o hj' hown x hx hm)
       (λi hi=>by
        obtain ⟨h1,h2⟩:=ho2 i hi
        refine ⟨?_,h2⟩
        have hne:¬id=i:=λe=>hon3 id hid i hi e
        rw [List.singleton_append,q06,if_neg hne]
        simp only [updF,hult i (hownlt i h2),h1]) hon2 hrec
      have hkeys:=hB.keys
      have hm2:=hB.le
      have hdis:∀j x,fnd w2 j=some x->j≠id/\j∉own/\fnd (unL nxt ts').2.1 j=none:=by
       intro j x hx
       obtain ⟨p,hp,rfl⟩:=q7d hx
       rcases hkeys p hp with h | h
       ·exact ⟨λe=>hon3 id hid p.1 h e.symm,λe=>hon3 p.1 e p.1 h rfl,hult _ (hownlt _ (ho2 _ h).2)⟩
       ·refine ⟨λe=>by omega,λe=>by have:=hownlt _ (ho1 _ e).2; omega,q3k λq hq e=> ?_⟩
        have:=hL.fresh q hq; omega
      have heq:updF ((id,some (Ob.box (unL nxt ts').1)) :: (unL nxt ts').2.1++own.map (λi=>((i,none):Nat×Option Ob))++w2) hf=updF w2 (updF ([(id,some (Ob.box (unL nxt ts').1))]++(unL nxt ts').2.1) hf):=by
       have hno:updF (own.map (λi=>((i,none):Nat×Option Ob))) (updF w2 hf)=updF w2 hf:=by
        funext j
        conv=>lhs; unfold updF
        rw [q6n]
        by_cases hjo:j∈own
        ·rw [if_pos hjo]
         have hwj:fnd w2 j=none:=by
          cases hx:fnd w2 j with
          | none=>rfl
          | some x=>exact absurd hjo (hdis j x hx).2.1
         simp only [updF,hwj,(ho1 j hjo).1]
        ·rw [if_neg hjo]; rfl
       rw [q0n,q0n,hno,<- q0n,<- q0n]
       refine q3z λp hp q hq e=> ?_
       rcases hkeys q hq with h | h
       ·rcases List.mem_cons.1 hp with rfl | hp
        ·exact hon3 id hid q.1 h e
        ·have:=hL.fresh p hp
         have:=hownlt _ (ho2 _ h).2
         omega
       ·rcases List.mem_cons.1 hp with rfl | hp
        ·simp only at e; omega
        ·have:=hL.fresh p hp
         omega
      refine ⟨φ2,by omega,⟨λi h=> .inl h,λi h=>(hB.ren.same i (.inl h)).trans (hL.ren.same i h)⟩, ?_,λp hp=> ?_,λi hi=> ?_,λi o hio hownio hi=> ?_⟩
      ·rw [heq]
       exact hB.inv.knEq λi=>q8b hm1 hm2 i
      ·rw [hoc]
       simp only [List.cons_append,List.append_assoc,List.mem_cons,List.mem_append,List.mem_map]at hp
       rcases hp with rfl | hp | ⟨i,hi,rfl⟩ | hp
       ·exact .inl (by simp [hid])
       ·have:=hL.fresh p hp; exact .inr (by omega)
       ·exact .inl (by simp [hi])
       ·rcases hkeys p hp with h | h
        ·exact .inl (by simp [h])
        ·exact .inr (by omega)
      ·rw [hoc]at hi
       simp only [List.cons_append,List.append_assoc,fnd,q1d,q6n]
       rcases List.mem_append.1 hi with hi | hi
       ·by_cases e:id=i
        ·simp [e]
        ·have e':(id == i)=false:=by simpa using e
         simp only [e',cond_false,if_pos hi]
         cases fnd (unL nxt ts').2.1 i <;> rfl
       ·have hs:=hB.has i hi
        obtain ⟨x,hx⟩:=Option.isSome_iff_exists.1 hs
        obtain ⟨h1,h2,h3⟩:=hdis i x hx
        have e':(id == i)=false:=by simpa using λe=>h1 e.symm
        simp only [e',cond_false,h3,if_neg h2,hx,Option.isSome_some]
      ·rw [heq]at hio ⊢
       intro x hx
       by_cases hrest:i∈q35 l\/((unL nxt ts').2.2<=i/\i < k)
       ·exact List.mem_append_right _ (hB.blk i o hio hownio hrest x hx)
       ·refine List.mem_append_left _ ?_
        have hw2n:fnd w2 i=none:=q3k λq hq e=>by
         rcases hkeys q hq with h | h
         ·exact hrest (.inl (e▸h))
         ·exact hrest (.inr (e▸h))
        have hi2:i∈own\/(nxt<=i/\i < (unL nxt ts').2.2):=by
         rcases hi with hi | hi
         ·rw [hoc]at hi
          rcases List.mem_append.1 hi with h | h
          ·exact .inl h
          ·exact absurd (.inl h) hrest
         ·exact .inr ⟨hi.1,by
           rcases Nat.lt_or_ge i (unL nxt ts').2.2 with h | h
           ·exact h
           ·exact absurd (.inr ⟨h,hi.2⟩) hrest⟩
        have hkn:KnU Kn nxt (unL nxt ts').2.2 i:=by
         rcases hi2 with h | h
         ·exact .inl (hren.sub i (ho1 i h).2)
         ·exact .inr h
        have hwi:updF w2 (updF ([(id,some (Ob.box (unL nxt ts').1))]++(unL nxt ts').2.1) hf) i=updF ([(id,some (Ob.box (unL nxt ts').1))]++(unL nxt ts').2.1) hf i:=by
         conv=>lhs; unfold updF
         rw [hw2n]; rfl
        rw [q16 (hB.ren.same i hkn) hwi]at hx
        by_cases e:id=i
        ·subst e
         rw [q60 (λ_ _ e=>by rw [List.singleton_append,q06,if_pos rfl]at e; cases e),hφ1,<- hb]at hx
         rw [List.mem_singleton.1 hx]; simp
        ·rcases hi2 with h | h
         ·exfalso
          have h1:updF w2 (updF ([(id,some (Ob.box (unL nxt ts').1))]++(unL nxt ts').2.1) hf) i=hf i:=by
           simp only [updF,hw2n,List.singleton_append,fnd]
           have e':(id == i)=false:=by simpa using e
           simp only [e',cond_false,hult i (hownlt i (ho1 i h).2)]
          rw [h1,(ho1 i h).1]at hio
          simp at hio
         ·have e':(id == i)=false:=by simpa using e
          cases hfu:fnd (unL nxt ts').2.1 i with
          | none=>
           exfalso
           have h1:updF w2 (updF ([(id,some (Ob.box (unL nxt ts').1))]++(unL nxt ts').2.1) hf) i=hf i:=by
            simp only [updF,hw2n,List.singleton_append,fnd,e',cond_false,hfu]
           rw [h1]at hio
           exact hfr i h.1 (by omega) (hI.obj i o hio).1
          | some x'=>
           obtain ⟨p,hp,rfl⟩:=q7d hfu
           have hwp:updF ([(id,some (Ob.box (unL nxt ts').1))]++(unL nxt ts').2.1) hf p.1=updF (unL nxt ts').2.1 hf p.1:=by rw [List.singleton_append,q06,if_neg e]
           rw [q16 rfl hwp]at hx
           exact List.mem_cons_of_mem _ (hL.blk p hp x hx)
     ·simp at h
    ·simp at h
   ·-- an array
    rename_i sz id len own' rd' r sz' rows ts heq1 heq2
    simp only [List.cons.injEq,Prod.mk.injEq]at heq1 heq2
    obtain ⟨⟨rfl,rfl,rfl⟩,rfl⟩:=heq1
    obtain ⟨rfl,rfl⟩:=heq2
    split at h
    ·rename_i hcond
     obtain ⟨hrl,hszz,hownid⟩:=hcond
     subst hownid
     split at h
     ·rename_i w2 k hrec
      obtain ⟨rfl,rfl⟩:(id,some (Ob.arr sz rows)) :: w2=bu/\k=m:=by simpa using h
      obtain ⟨hidn,hidk0⟩:=ho1 id (by simp)
      have hφ:=hren.same id hidk0
      obtain ⟨cap,addr,hv,hszl,hk0,hcap,haddr,hextc,hcl⟩:=hc.osl_inv
      have hr1:=hr1.resolve_left λh=>by cases h.1
      cases hr1 with
      | @sl _ _ b off len1 cap1 arr hsz0 hown0 hlen1 hcap1 hext1 hrr=>
      simp only [Value.slice.injEq,Option.some.injEq,Addr.mk.injEq]at hv
      obtain ⟨⟨hb,hoff,_⟩,hlen2,hcap2⟩:=hv
      subst hszz
      simp only [q0s,Bool.and_eq_true]at hw
      obtain ⟨arr0,hown1,hext0,hfit0,hv0⟩:=qjm hI0 hw.1
      obtain ⟨arr1,hown2,hsize2⟩:=hgrow _ _ hown1
      rw [hb]at hown0
      obtain rfl:=hown0.unique hown2
      have hb1:=hSK (φ0 id).blk (.inl (by simp [hb]))
      refine fin id (.arr sz' rows) w2 k rfl rfl hrec (hI.put (i:=id) (hren.sub id hidk0) (.arr sz' rows) (λ_ j o hj hown hne hm=>by
        rw [hφ,<- hb]at hm
        exact ha1 j o hj hown b hm (by simp))
       (.arr hsz0 (by rw [hφ]; exact hszl) (by rw [hφ]; exact hb1.1) (by rw [hφ]; exact hb1.2) (by rw [hφ]; exact hown2) (by rw [hφ,<- hext0]; exact hsize2)
        (by rw [hφ,hrl,<- hszl]; exact hfit0) (by
         rw [hφ]
         cases rows with
         | nil=>exact ⟨λi r hi=>by simp at hi,λi r hi=>by simp at hi⟩
         | cons q rows=>
          have:off=(φ0 id).base:=by
           rw [hoff,haddr (by simp only [List.length_cons]at hrl; omega)]; simp
          rw [<- this]; exact hrr) (by rw [hφ,hrl]; exact hv0))) λx hx=> ?_
      rw [q60 (λ_ _ e=>by rw [q06,if_pos rfl]at e; cases e),hφ,<- hb]at hx
      exact hx
     ·simp at h
    ·simp at h
   ·-- a row of rows
    rename_i sz id len own' rd' r szi rows ts heq1 heq2
    simp only [List.cons.injEq,Prod.mk.injEq]at heq1 heq2
    obtain ⟨⟨rfl,rfl,rfl⟩,rfl⟩:=heq1
    obtain ⟨rfl,rfl⟩:=heq2
    split at h
    ·rename_i hcond
     obtain ⟨hrl,hszz,hownid⟩:=hcond
     subst hownid
     split at h
     ·rename_i w2 k hrec
      obtain ⟨rfl,rfl⟩:(id,some (Ob.nst szi (rows.map q51))) :: w2=bu/\k=m:=by simpa using h
      obtain ⟨hidn,hidk0⟩:=ho1 id (by simp)
      have hφ:=hren.same id hidk0
      obtain ⟨cap,addr,hv,hszl,hk0,hcap,haddr,hextc,hcl⟩:=hc.osl_inv
      have hr1:=hr1.resolve_left λh=>by cases h.1
      cases hr1 with
      | @sls _ _ b off cap1 arr fps hsz0 hown0 hcap1 hext1 hfl hrr=>
      simp only [Value.slice.injEq,Option.some.injEq,Addr.mk.injEq]at hv
      obtain ⟨⟨hb,hoff,_⟩,hlen2,hcap2⟩:=hv
      subst hszz
      simp only [q0s,Bool.and_eq_true]at hw
      obtain ⟨arr0,hown1,hext0,hfit0,hv0⟩:=qjm hI0 hw.1
      obtain ⟨arr1,hown2,hsize2⟩:=hgrow _ _ hown1
      rw [hb]at hown0
      obtain rfl:=hown0.unique hown2
      rw [List.nodup_cons]at hn1
      have hb1:=hSK b (.inl (by simp))
      have hbase:∀i,i < rows.length->off+i=(φ0 id).base+i:=λi hi=>by rw [hoff,haddr (by omega)]; simp
      have hget:∀i,w.cell? ⟨(φ id).blk,i,none⟩=arr[i]? :=by rw [hφ]; exact hown2.cell
      have hpat:∀k x,PAt w (φ id) (rows.map q51) k x->∃fp,fps[k]? =some fp/\fp= [x]:=by
       rintro k x ⟨rs,v,h1,h2,h3⟩
       rw [List.getElem?_map]at h1
       obtain ⟨r,hr1,hr2⟩:=Option.map_eq_some_iff.1 h1
       have hlt:=(List.getElem?_eq_some_iff.1 hr1).1
       have hf:fps[k]? =some fps[k]:=List.getElem?_eq_getElem (by omega)
       obtain ⟨v',q1,q2⟩:=hrr k r fps[k] hr1 hf
       rw [hget,hφ,<- hbase k hlt,q1]at h2
       obtain rfl:=Option.some.inj h2
       cases r with
       | none=>cases hr2
       | some rows'=>
        obtain ⟨b',q3,q4⟩:=q2
        rw [q4.blk]at h3
        obtain rfl:=Option.some.inj h3
        exact ⟨_,hf,q3⟩
      have hmem:∀k x,PAt w (φ id) (rows.map q51) k x->x∈fps.flatten:=λk x hp=>by
       obtain ⟨fp,h1,rfl⟩:=hpat k x hp
       exact List.mem_flatten.2 ⟨[x],List.mem_of_getElem? h1,by simp⟩
      have hbl:(φ id).blk=b:=by rw [hφ,<- hb]
      rw [hszl,Nat.mul_one]at hfit0
      refine fin id (.nst szi (rows.map q51)) w2 k rfl rfl hrec (hI.put (i:=id) (hren.sub id hidk0) (.nst szi (rows.map q51)) (λ_ j o hj hown hne hm=>by
        rw [hbl]at hm
        exact ha1 j o hj hown b hm (by simp))
       (.nst hsz0 (by rw [hφ]; exact hszl) (by rw [hbl]; exact hb1.1) (by rw [hbl]; exact hb1.2) (by rw [hφ]; exact hown2) (by rw [hφ,<- hext0]; exact hsize2)
        (by rw [hφ,List.length_map,hrl]; exact hfit0) (λi s hi=>by
         rw [List.getElem?_map]at hi
         obtain ⟨r,hr1,rfl⟩:=Option.map_eq_some_iff.1 hi
         have hlt:=(List.getElem?_eq_some_iff.1 hr1).1
         have hf:fps[i]? =some fps[i]:=List.getElem?_eq_getElem (by omega)
         obtain ⟨v,q1,q2⟩:=hrr i r fps[i] hr1 hf
         refine ⟨v,by rw [hφ,<- hbase i hlt]; exact q1, ?_⟩
         cases r with
         | none=>obtain ⟨rfl,_⟩:=q2; exact .nil
         | some rows'=>
          obtain ⟨b',q3,q4⟩:=q2
          have hm:b'∈fps.flatten:=List.mem_flatten.2 ⟨fps[i],List.getElem_mem _,by rw [q3]; simp⟩
          exact .own q4 (hSK b' (.inl (List.mem_cons_of_mem _ hm))).1 (hSK b' (.inl (List.mem_cons_of_mem _ hm))).2) (by rw [hφ,List.length_map,hrl]; exact hv0))
       λsz' sl' k x eo hp=>by
        cases eo
        have hm:=hmem k x hp
        refine ⟨λe=>hn1.1 (by rw [<- hbl,<- e]; exact hm),λj o hj hown hne hx=>ha1 j o hj hown x hx (List.mem_cons_of_mem _ hm),λk' hp'=> ?_⟩
        obtain ⟨fp,h1,rfl⟩:=hpat k x hp
        obtain ⟨fp',h2,rfl⟩:=hpat k' x hp'
        exact qj5 hn1.2 h2 h1) λx hx=> ?_
      rcases q0m.1 hx with rfl | ⟨sz',sl',k',h1,h2⟩
      ·rw [hbl]; simp
      ·rw [q06,if_pos rfl]at h1
       cases h1
       exact List.mem_cons_of_mem _ (hmem k' x h2)
     ·simp at h
    ·simp at h
   ·-- it is gone
    rename_i heq1 heq2
    simp only [List.cons.injEq,Prod.mk.injEq]at heq1 heq2
    obtain ⟨⟨rfl,rfl,rfl⟩,rfl⟩:=heq1
    obtain ⟨rfl,rfl⟩:=heq2
    split at h
    ·rename_i w2 k hrec
     obtain ⟨rfl,rfl⟩:own.map (λi=>((i,none):Nat×Option Ob))++w2=bu/\k=m:=by simpa using h
     have e0:f1= []:=by
      rcases hr1 with h | h
      ·exact h.2
      ·cases h
     subst e0
     obtain ⟨φ', hB⟩ := ih vs outs f2 nxt w2 k hl hw2 hr2 hI hfr hren hn2 (fun b hb => hSK b (.inr hb)) ha2 ho2 hon2 hrec
     have hmk:=hB.le
     have hkeys:=hB.keys
     have hwn:∀j∈own,fnd w2 j=none:=λj hj=>by
      cases hx:fnd w2 j with
      | none=>rfl
      | some x=>
       obtain ⟨p,hp,rfl⟩:=q7d hx
       rcases hkeys p hp with h | h
       ·exact absurd rfl (hon3 p.1 hj p.1 h)
       ·exact absurd (hren.sub _ (ho1 _ hj).2) (hfr p.1 h.1 h.2)
     have heq:updF (own.map (λi=>((i,none):Nat×Option Ob))++w2) hf=updF w2 hf:=by
      rw [q0n]
      funext j
      conv=>lhs; unfold updF
      rw [q6n]
      by_cases hjo:j∈own
      ·rw [if_pos hjo]; simp only [updF,hwn j hjo,(ho1 j hjo).1]
      ·rw [if_neg hjo]; rfl
     refine ⟨φ', hB.le, hB.ren, heq ▸ hB.inv, fun p hp => ?_, fun i hi => ?_, fun i o hio hownio hi => ?_⟩
     ·rw [hoc]
      rcases List.mem_append.1 hp with hp | hp
      ·obtain ⟨j,hj,rfl⟩:=List.mem_map.1 hp
       exact .inl (List.mem_append_left _ hj)
      ·rcases hkeys p hp with h | h
       ·exact .inl (List.mem_append_right _ h)
       ·exact .inr h
     ·rw [hoc]at hi
      rw [q1d,q6n]
      by_cases hjo:i∈own
      ·rw [if_pos hjo]; rfl
      ·rw [if_neg hjo]
       exact hB.has i ((List.mem_append.1 hi).resolve_left hjo)
     ·rw [heq]at hio ⊢
      refine hB.blk i o hio hownio (hi.imp (λh=> ?_) id)
      rw [hoc]at h
      refine (List.mem_append.1 h).resolve_left λhjo=> ?_
      simp only [updF,hwn i hjo,(ho1 i hjo).1]at hio
      cases hio
    ·simp at h
   ·simp at h
end
end Go.Ev

namespace Go.Ev
section
variable {P:Program}{S K:Nat->Prop}{w0 w:World}{Kn:Nat->Prop}{φ:Nat->Loc}{hf:Nat->Option Ob}{H:Heap}{e:Env}{ρ:Operand->Value}{o:Oper}{call:Call}{a:Act}
 {nxt n':Nat} {v:TV} {u:Upd} {ids:List Nat}
def Goes(P:Program)(o:Oper)(a:Act)(S K:Nat->Prop)(w0 w:World)(Kn:Nat->Prop)(φ:Nat->Loc)(hf:Nat->Option Ob)(nxt n':Nat)(v:TV)(u:Upd):Prop:=
 ∀(next:Act->World->Prop) (Q:Exit->Act->World->Prop),(∀ val w',Done S K w0 w Kn φ hf nxt n' v u val w'->next (a.put o.dst val) w')->o.wp P a w next Q
theorem Runs.goes(h:Runs P o a.eval S K w0 w Kn φ hf nxt n' v u):Goes P o a S K w0 w Kn φ hf nxt n' v u:=by
 intro next Q hn
 obtain ⟨nx,val,w',hr,hx,hd⟩:=h
 unfold Oper.wp
 rw [hr]
 rcases hx with rfl | ⟨rfl,rfl⟩
 ·exact hn _ _ hd
 ·exact hn _ _ hd
theorem qcl{tvs:List TV}{vs:List Value}(hl:tvs.length=vs.length)(h:∀(i:Nat) (t:TV) (v:Value),tvs[i]? =some t->vs[i]? =some v->RTV S w Kn φ t v):RTV S w Kn φ (retV tvs) (qeu vs):=by
 have gen:RTV S w Kn φ (.tup tvs) (.tuple vs.toArray):=by
  refine .tup (by simpa using hl) λi x hi=> ?_
  have hlt:i < vs.length:=by rw [<- hl]; exact (List.getElem?_eq_some_iff.1 hi).1
  have:=h i x vs[i] hi (List.getElem?_eq_getElem hlt)
  simpa [hlt]using this
 match tvs,vs,hl,h,gen with
 | [], [],_,_,gen=>exact gen
 | [t], [v],_,h,_=>exact h 0 t v rfl rfl
 | _ :: _ :: _,_ :: _ :: _,_,_,gen=>exact gen
theorem RD.lit_any{S':Nat->Prop}{w':World}{v x:Value}(h:RD S w (.lit v) x):RD S' w' (.lit v) x:=by
 cases h with
 | lit h=>exact .lit h
theorem RRs.lits{S':Nat->Prop}:∀ {rs:List R} {vs:List Value} {fp:List Nat},rs.all litR=true->RRs S w rs vs fp->RRs S' w rs vs []:=by
 intro rs
 induction rs with
 | nil=>
  intro vs fp _ h
  cases vs with
  | nil=>rfl
  | cons v vs=>exact h.elim
 | cons r rs ih=>
  intro vs fp hl h
  cases vs with
  | nil=>exact h.elim
  | cons v vs=>
   simp only [List.all_cons,Bool.and_eq_true]at hl
   obtain ⟨f1,f2,_,h1,h2⟩:=h
   refine ⟨[], [],rfl, ?_,ih hl.2 h2⟩
   have hl1:=hl.1
   cases r with
   | c t=>
    cases t with
    | d x=>
     cases x with
     | lit y=>
      have h1:RT S w (.d (.lit y)) v f1:=h1
      cases h1 with
      | d hd=>exact RT.d hd.lit_any
     | _=>simp [litR]at hl1
    | _=>simp [litR]at hl1
   | agg ts=>
    obtain ⟨arr,fps,rfl,q1,q2,q3,q4⟩:=h1
    refine ⟨arr,fps.map λ_=> [],rfl,q1,by simpa using q2,by simp,λi t f hi hfi=> ?_⟩
    simp only [litR,List.all_eq_true]at hl1
    have ht:=hl1 t (List.mem_of_getElem? hi)
    obtain rfl:f= []:=by
     rw [List.getElem?_map]at hfi
     obtain ⟨_,_,rfl⟩:=Option.map_eq_some_iff.1 hfi
     rfl
    have hlt:i < fps.length:=by rw [q2]; exact (List.getElem?_eq_some_iff.1 hi).1
    have:=q4 i t fps[i] hi (List.getElem?_eq_getElem hlt)
    generalize fps[i]=g at this
    cases t with
    | d x=>
     cases x with
     | lit y=>
      cases this with
      | d hd=>exact RT.d hd.lit_any
     | _=>simp at ht
    | _=>simp at ht
theorem Inv.after{S':Nat->Prop}{w':World}{fp:List Nat}(hI:Inv S K w0 Kn φ hf w)(hs:Stp S w S' w')(hsub:∀b,S' b->S b\/b∈fp\/w.heap.size<=b)(hlt:∀b,S' b->b < w'.heap.size)
  (hfp:∀b∈fp,¬K b) (haw:Away w φ hf fp) (hfrm:Frm (λb=>b < w.heap.size/\b∉fp) w w'):Inv S' K w0 Kn φ hf w':=by
 refine hI.step hs (Ren.refl _ _) hlt (λb hb hK=> ?_) ⟨hI.frm.klt,λb hb=> ?_,Nat.le_trans hI.frm.grow hfrm.grow,λa ha=>(hfrm.frz a (Nat.lt_of_lt_of_le ha hI.frm.grow)).trans (hI.frm.frz a ha),λb arr ho=> ?_,hI.frm.io.trans hfrm.io⟩ (λid o ho=> .inl ⟨ho,λhown=> ?_⟩) hI.dist ?_
 ·have h1:b < w.heap.size:=Nat.lt_of_lt_of_le (hI.frm.klt b hK) hI.frm.grow
  rcases hsub b hb with h | h | h
  ·exact hI.sk b h hK
  ·exact hfp b h hK
  ·omega
 ·have h1:b < w.heap.size:=Nat.lt_of_lt_of_le (hI.frm.klt b hb) hI.frm.grow
  exact (hfrm.keep b ⟨h1,λh=>hfp b h hb⟩).trans (hI.frm.keep b hb)
 ·obtain ⟨a1,h1,h2⟩:=hI.frm.own b arr ho
  obtain ⟨a2,h3,h4⟩:=hfrm.own b a1 h1
  exact ⟨a2,h3,h4.trans h2⟩
 ·obtain ⟨h1,h2,h3⟩:=(hI.obj id o ho).2.own hown
  have h4:=haw id o ho hown _ (q3f id)
  refine ⟨hfrm.keep _ ⟨h3,h4⟩,λh=> ?_⟩
  rcases hsub _ h with h | h | h
  ·exact h1 h
  ·exact h4 h
  ·omega
 ·intro id sz sl ho
  have h4:=haw id _ ho rfl
  have key:∀x∈blks w φ hf id,w'.heap[x]? =w.heap[x]? /\¬S' x:=λx hx=>by
   obtain ⟨h1,_,h3⟩:=q54 hI ho rfl hx
   refine ⟨hfrm.keep _ ⟨h3,h4 x hx⟩,λh=> ?_⟩
   rcases hsub _ h with h | h | h
   ·exact h1 h
   ·exact h4 x hx h
   ·omega
  refine ⟨ho,(key _ (q3f id)).1,λk x hp=> ?_⟩
  obtain ⟨q1,q2⟩:=key x (q0m.2 (.inr ⟨sz,sl,k,ho,hp⟩))
  exact ⟨q1,q2,(hI.prv id sz sl k x ho hp).1⟩
theorem qmt{as:List A}{ids:List Nat}{lent:List (C×List Nat×List Nat)}{vs:List Value}{rs:List R}{outs:List T}{ro:Bool}{val:Value}{w':World}{rd:List Nat}
  (hI:Inv S K w0 Kn φ (look H) w) (hfr:∀j,nxt<=j->j < n'->¬Kn j)
  (hargs:RAs (SB S w φ (look H) ids) w as vs ((lent.flatMap (·.2.1)).flatMap (blks w φ (look H)))) (hown:∀i∈lent.flatMap (·.2.1),∃o,look H i=some o/\isOwn o=true) (hlent:Lent Kn φ S w lent (lentV as vs))
  (hwhole:q0s H lent=true) (hnd:(lent.flatMap (·.2.1)).Nodup)
  (hleft:Left (SB S w φ (look H) ids) w ((lent.flatMap (·.2.1)).flatMap (blks w φ (look H))) rs outs (lentV as vs) val w')
  (h:(if ro then
      if rs.all litR/\lent.isEmpty/\outs.isEmpty then some (retV (unRs nxt rs).1,(unRs nxt rs).2.1,ids,(unRs nxt rs).2.2)else none
     else
      match q0o H ids ids with
      | none=>none
      | some fu=>
       match q12 nxt lent outs with
       | none=>none
       | some (bu,m)=>some (retV (unRs m rs).1,(unRs m rs).2.1++bu++fu,ids++lent.flatMap (·.2.2),(unRs m rs).2.2))=some (v,u,rd,n')):
  Done S K w0 w Kn φ (look H) nxt n' v u val w':=by
 obtain ⟨S',rvs,fp1,fp2,rfl,hs,hsub,hlt,hrr,hrt,hnd2,hb,hfrm⟩:=hleft
 split at h
 ·-- nothing is kept
  split at h
  ·rename_i hcond
   obtain ⟨hl,hle,hoe⟩:=hcond
   have hle':lent= []:=by simpa using hle
   subst hle'
   obtain ⟨rfl,rfl,_,rfl⟩:retV (unRs nxt rs).1=v/\(unRs nxt rs).2.1=u/\ids=rd/\(unRs nxt rs).2.2=n':=by simpa using h
   have hI':Inv S K w0 Kn φ (look H) w':=hI.after (fp:= []) ⟨λ_ h=>h,λb hb=>hs.same b (.inl hb)⟩ (λb hb=> .inl hb) (λb hb=>Nat.lt_of_lt_of_le (hI.slt b hb) hfrm.grow) (λb hb=>by simp at hb)
    (λj o _ _ x _ h=>by simp at h) hfrm
   obtain ⟨φ', hL, hlen, hr⟩ := qc6 rs nxt rvs [] hI' hfr (hrr.lits hl) List.nodup_nil (fun b hb => by simp at hb) (fun j o _ _ x _ h => by simp at h)
   exact ⟨hL.le, S, φ', ⟨fun _ h => h, fun b hb => hs.same b (.inl hb)⟩, hL.ren, qcl hlen hr, hL.inv⟩
  ·simp at h
 ·split at h
  ·simp at h
  ·rename_i fu hfz
   split at h
   ·simp at h
   ·rename_i bu m hbk
    obtain ⟨rfl,rfl,_,rfl⟩:retV (unRs m rs).1=v/\(unRs m rs).2.1++bu++fu=u/\ids++lent.flatMap (·.2.2)=rd/\(unRs m rs).2.2=n':=by simpa using h
    have hI1:=hI.freeze hfz
    have hmn:=qp7 rs m
    have hnm:=qf2 _ _ _ _ _ hbk
    -- what was lent is out of the heap
    let kills:Upd:=(q35 lent).map λi=>(i,none)
    have hkn:∀j,fnd kills j=if j∈q35 lent then some none else none:=q6n (q35 lent)
    have hf2:∀id o,updF kills (updF fu (look H)) id=some o->id∉q35 lent/\updF fu (look H) id=some o:=by
     intro id o ho
     have:updF kills (updF fu (look H)) id=(match fnd kills id with | some o=>o | none=>updF fu (look H) id):=rfl
     rw [this,hkn]at ho
     by_cases hm:id∈q35 lent
     ·rw [if_pos hm]at ho; simp at ho
     ·rw [if_neg hm]at ho; exact ⟨hm,ho⟩
    have hIk:Inv (SB S w φ (look H) ids) K w0 Kn φ (updF kills (updF fu (look H))) w:=hI1.kill λid o ho=>(hf2 id o ho).2
    -- the frozen part agrees with the heap q11, where a thing is owned
    have hold:∀id o,updF fu (look H) id=some o->isOwn o=true->look H id=some o:=by
     intro id o ho hown
     by_cases hm:id∈ids
     ·obtain ⟨o',ho',hfn⟩:=(q39 ids fu hfz id).1 hm
      simp only [updF,hfn]at ho
      obtain rfl:=Option.some.inj ho
      have:=(qfc hI hm ho').1
      rw [this]at hown; simp at hown
     ·simpa only [updF,(q39 ids fu hfz id).2 hm]using ho
    have hbk2:∀j o,updF kills (updF fu (look H)) j=some o->isOwn o=true->look H j=some o/\blks w φ (updF kills (updF fu (look H))) j=blks w φ (look H) j:=λj o hj hjo=>by
     have h3:=hold j o (hf2 j o hj).2 hjo
     exact ⟨h3,q16 rfl (hj.trans h3.symm)⟩
    have haw:Away w φ (updF kills (updF fu (look H))) ((lent.flatMap (·.2.1)).flatMap (blks w φ (look H))):=by
     intro j o hj hjo x hx hm
     obtain ⟨h1,h2⟩:=hf2 j o hj
     obtain ⟨i,hi,hie⟩:=List.mem_flatMap.1 hm
     obtain ⟨oi,hoi,hoio⟩:=hown i hi
     obtain ⟨h3,h4⟩:=hbk2 j o hj hjo
     rw [h4]at hx
     exact q4e hI hoi h3 hoio hjo (λe=>h1 (e▸hi)) hie hx
    have hfpK:∀b∈((lent.flatMap (·.2.1)).flatMap (blks w φ (look H))),¬K b/\b < w.heap.size:=by
     intro b hbm
     obtain ⟨i,hi,hie⟩:=List.mem_flatMap.1 hbm
     obtain ⟨oi,hoi,hoio⟩:=hown i hi
     exact (q54 hI hoi hoio hie).2
    have hI2:Inv S' K w0 Kn φ (updF kills (updF fu (look H))) w':=hIk.after hs hsub hlt (λb hb=>(hfpK b hb).1) haw hfrm
    have hK12:∀b∈fp1++fp2,¬S' b/\¬K b:=λb hbm=>by
     obtain ⟨h1,h2⟩:=hb b hbm
     refine ⟨h1,λhk=> ?_⟩
     rcases h2 with h2 | h2
     ·exact (hfpK b h2).1 hk
     ·have:=hI.frm.klt b hk; have:=hI.frm.grow; omega
    have haw12:Away w' φ (updF kills (updF fu (look H))) (fp1++fp2):=λj o hj hjo x hx hm=>by
     rw [qf6 (hfrm.keep _ ⟨((hIk.obj j o hj).2.own hjo).2.2,haw j o hj hjo _ (q3f j)⟩)]at hx
     rcases (hb _ hm).2 with h2 | h2
     ·exact haw j o hj hjo x hx h2
     ·have:=(q54 hIk hj hjo hx).2.2; omega
    rw [List.nodup_append]at hnd2
    obtain ⟨hn1,hn2,hn3⟩:=hnd2
    simp only [List.mem_append]at hK12
    obtain ⟨φ1,hB⟩:=ql9 hI hfrm.own lent (lentV as vs) outs fp2 nxt bu m hlent hwhole hrt hI2 (λj h1 h2=>hfr j h1 (by omega)) (Ren.refl _ _) hn2 (λb hb=>hK12 b (.inr hb))
     (λj o hj hjo x hx hm=>haw12 j o hj hjo x hx (by simp [hm]))
     (λi hi=>by
      obtain ⟨oi,hoi,_⟩:=hown i hi
      refine ⟨?_,(hI.obj i oi hoi).1⟩
      show (match fnd kills i with | some o=>o | none=>updF fu (look H) i)=none
      rw [hkn,if_pos hi]) hnd hbk
    have hkk:updF bu (updF kills (updF fu (look H)))=updF bu (updF fu (look H)):=by
     funext j
     by_cases hm:j∈q35 lent
     ·obtain ⟨x,hx⟩:=Option.isSome_iff_exists.1 (hB.has j hm)
      simp only [updF,hx]
     ·have h1:updF kills (updF fu (look H)) j=updF fu (look H) j:=by
       show (match fnd kills j with | some o=>o | none=>updF fu (look H) j)=_
       rw [hkn,if_neg hm]
      have h2:∀g:Nat->Option Ob,updF bu g j=(match fnd bu j with | some o=>o | none=>g j):=λ_=>rfl
      rw [h2,h2,h1]
    have hIB:=hB.inv
    rw [hkk]at hIB
    have haw1:Away w' φ1 (updF bu (updF fu (look H))) fp1:=by
     intro j o hj hjo x hx hm
     by_cases hk:j∈q35 lent\/(nxt<=j/\j < m)
     ·have:=hB.blk j o (by rw [hkk]; exact hj) hjo hk x (by rw [hkk]; exact hx)
      exact hn3 _ hm _ this rfl
     ·have hfn:fnd bu j=none:=q3k λp hp e=>by
       rcases hB.keys p hp with h | h
       ·exact hk (.inl (e▸h))
       ·exact hk (.inr (e▸h))
      have hj2:updF kills (updF fu (look H)) j=some o:=by
       rw [<- hkk]at hj
       simpa only [updF,hfn]using hj
      have hknj:=(hI2.obj j o hj2).1
      rw [q16 (hB.ren.same j hknj) (hj.trans hj2.symm)]at hx
      exact haw12 j o hj2 hjo x hx (by simp [hm])
    obtain ⟨φ2,hL,hlen,hr⟩:=qc6 rs m rvs fp1 hIB (λj h1 h2 hk=>by
      rcases hk with hk | hk
      ·exact hfr j (by omega) h2 hk
      ·omega) hrr hn1 (λb hb=>hK12 b (.inl hb)) haw1
    refine ⟨by omega,S',φ2,(SB.stp0 ids).trans hs,⟨λi h=> .inl h,λi h=>(hL.ren.same i (.inl h)).trans (hB.ren.same i h)⟩, ?_, ?_⟩
    ·exact (qcl hlen hr).kn λi=>(q8b hnm hmn i).1
    ·rw [q0n,q0n]
     exact hL.inv.knEq λi=>q8b hnm hmn i
theorem qg1:∀n,(∀ c x ids,viewC H n c=some (x,ids)->∀i∈ids,∃o,look H i=some o)/\(∀ cs xs ids,viewL H n cs=some (xs,ids)->∀i∈ids,∃o,look H i=some o):=by
 have leaf:∀n c x ids,(match c with | .op _ _ | .ofn _ _=>False | _=>True)->viewC H n c=some (x,ids)->∀i∈ids,∃o,look H i=some o:=by
  intro n c x ids hl h i hi
  cases c with
  | d y=>
   simp only [viewC,Option.some.injEq,Prod.mk.injEq]at h
   obtain ⟨_,rfl⟩:=h
   simp at hi
  | osl sz id off len=>
   simp only [viewC]at h
   split at h
   all_goals first
    | (split at h
       ·obtain ⟨_,rfl⟩:=Prod.mk.inj (Option.some.inj h)
        obtain rfl:=List.mem_singleton.1 hi
        exact ⟨_,by assumption⟩
       ·simp at h)
    | (split at h
       ·split at h
        ·obtain ⟨_,rfl⟩:=Prod.mk.inj (Option.some.inj h)
         obtain rfl:=List.mem_singleton.1 hi
         exact ⟨_,by assumption⟩
        ·simp at h
       ·simp at h)
    | simp at h
  | ep id row off=>
   simp only [viewC]at h
   split at h
   all_goals first
    | (split at h
       ·split at h
        ·obtain ⟨_,rfl⟩:=Prod.mk.inj (Option.some.inj h)
         obtain rfl:=List.mem_singleton.1 hi
         exact ⟨_,by assumption⟩
        ·simp at h
       ·simp at h)
    | simp at h
  | op id off=>exact hl.elim
  | ofn f caps=>exact hl.elim
  | om id=>cases n <;> simp [viewC]at h
 intro n
 induction n with
 | zero=>
  refine ⟨λc x ids h=> ?_,λcs xs ids h=> ?_⟩
  ·cases c with
   | op id off=>simp [viewC]at h
   | ofn f caps=>simp [viewC]at h
   | _=>exact leaf 0 _ x ids trivial h
  ·cases cs with
   | nil=>
    obtain ⟨_,rfl⟩: []=xs/\ []=ids:=by simpa [viewL]using h
    intro i hi; simp at hi
   | cons c cs=>simp [viewL]at h
 | succ n ih=>
  refine ⟨λc x ids h=> ?_,λcs xs ids h=> ?_⟩
  ·cases c with
   | op id off=>
    simp only [viewC]at h
    split at h
    ·split at h
     ·obtain ⟨_,rfl⟩:=Prod.mk.inj (Option.some.inj h)
      intro i hi
      obtain rfl:=List.mem_singleton.1 hi
      exact ⟨_,by assumption⟩
     ·simp at h
    ·split at h
     ·rename_i hv
      split at h
      ·obtain ⟨_,rfl⟩:=Prod.mk.inj (Option.some.inj h)
       intro i hi
       rcases List.mem_cons.1 hi with rfl | hi
       ·exact ⟨_,by assumption⟩
       ·exact ih.2 _ _ _ hv i hi
      ·simp at h
     ·simp at h
    ·simp at h
   | ofn f caps=>
    simp only [viewC]at h
    split at h
    ·rename_i hv
     obtain ⟨_,rfl⟩:=Prod.mk.inj (Option.some.inj h)
     exact ih.2 _ _ _ hv
    ·simp at h
   | _=>exact leaf _ _ x ids trivial h
  ·cases cs with
   | nil=>
    obtain ⟨_,rfl⟩: []=xs/\ []=ids:=by simpa [viewL]using h
    intro i hi; simp at hi
   | cons c cs=>
    simp only [viewL]at h
    split at h
    ·rename_i h1 h2
     obtain ⟨_,rfl⟩:=Prod.mk.inj (Option.some.inj h)
     intro i hi
     rcases List.mem_append.1 hi with hi | hi
     ·exact ih.1 _ _ _ h1 i hi
     ·exact ih.2 _ _ _ h2 i hi
    ·simp at h
theorem qi2:∀cs xs ids,q0r H cs=some (xs,ids)->∀i∈ids,∃o,look H i=some o:=by
 intro cs
 induction cs with
 | nil=>
  intro xs ids h i hi
  obtain ⟨_,rfl⟩: []=xs/\ []=ids:=by simpa [q0r]using h
  simp at hi
 | cons c cs ih=>
  intro xs ids h i hi
  simp only [q0r]at h
  split at h
  ·rename_i h1 h2
   obtain ⟨_,rfl⟩:=Prod.mk.inj (Option.some.inj h)
   rcases List.mem_append.1 hi with hi | hi
   ·exact (qg1 300).1 _ _ _ h1 i hi
   ·exact ih _ _ h2 i hi
  ·simp at h
theorem qft:∀(tvs:List TV) (ms:List Bool) (as:List A) (ids:List Nat) (lent:List (C×List Nat×List Nat)),q1p H tvs ms=some (as,ids,lent)->∀i∈ids,∃o,look H i=some o:=by
 intro tvs
 induction tvs with
 | nil=>
  intro ms as ids lent h i hi
  obtain ⟨_,rfl,_⟩: []=as/\ []=ids/\ []=lent:=by simpa [q1p]using h
  simp at hi
 | cons t tvs ih=>
  intro ms as ids lent h i hi
  simp only [q1p]at h
  split at h
  ·simp at h
  ·rename_i hrec
   split at h
   ·split at h
    ·split at h
     ·obtain ⟨_,rfl,_⟩:=(by simpa using h:_/\_/\_)
      exact ih _ _ _ _ hrec i hi
     ·simp at h
    ·simp at h
   ·split at h
    ·split at h
     ·rename_i hv
      obtain ⟨_,rfl,_⟩:=(by simpa using h:_/\_/\_)
      rcases List.mem_append.1 hi with hi | hi
      ·exact (qg1 300).1 _ _ _ hv i hi
      ·exact ih _ _ _ _ hrec i hi
     ·simp at h
    ·split at h
     ·rename_i hv
      obtain ⟨_,rfl,_⟩:=(by simpa using h:_/\_/\_)
      rcases List.mem_append.1 hi with hi | hi
      ·exact qi2 _ _ _ hv i hi
      ·exact ih _ _ _ _ hrec i hi
     ·simp at h
    ·simp at h
theorem RO.blk_lt{l:Loc}{o:Ob}(h:RO S K w Kn φ l o)(hs:∀b,S b->b < w.heap.size):l.blk < w.heap.size:=by
 cases h with
 | arr hsz hl hS hK hown=>exact hown.lt
 | box hb hS hK hown=>exact hown.lt
 | map hS hK hmp=>exact (Array.getElem?_eq_some_iff.1 hmp).1
 | cap hsz hl hS hK hown=>exact hown.lt
 | nst hsz hl hS hK hown=>exact hown.lt
 | imm hsz hl hS=>exact hs _ hS
 | ibox hb hS=>exact hs _ hS
theorem RO.froz{l:Loc}{o:Ob}(h:RO S K w Kn φ l o)(hs:isOwn o=false):S l.blk:=by
 cases h with
 | imm hsz hl hS=>exact hS
 | ibox hb hS=>exact hS
 | _=>simp [isOwn]at hs
theorem qp0{c:Go.Call}{fop:Operand}{ro:Bool}{muts:List Bool}(ho:o.op= .call c)(hcal:c.callee= .value fop)(hok:q5b P call)(hI:Inv S K w0 Kn φ (look H) w)
  (hfr:∀j,nxt<=j->j < n'->¬Kn j) (hρ:∀x tv,opv e x=some tv->RTV S w Kn φ tv (a.eval x))
  (h:ev1 call (.call ro muts) ((fop :: c.args.toList).map (opv e)) H nxt=some (v,u,ids,n')):Goes P o a S K w0 w Kn φ (look H) nxt n' v u:=by
 rw [List.map_cons]at h
 change qap call ro muts (opv e fop) (c.args.toList.map (opv e)) H nxt=_ at h
 unfold qap at h
 split at h
 ·rename_i f caps vs hf hvs
  split at h
  ·simp at h
  ·rename_i as ids1 lent hargs
   split at h
   ·rename_i hcond
    obtain ⟨hwhole,hnd,hapart⟩:=hcond
    split at h
    ·simp at h
    ·rename_i rs outs hcall
     -- the callee
     have hfv:∃cvs:Array Value,a.eval fop= .func (.func f) #[] cvs/\caps.length=cvs.size/\∀(i:Nat) (x:C),caps[i]? =some x->RC S w Kn φ x (cvs.getD i undef):=by
      split at hf
      ·rename_i g capsD hop
       obtain ⟨rfl,rfl⟩:g=f/\capsD.map C.d=caps:=by simpa using hf
       have hr:=hρ _ _ hop
       generalize a.eval fop=fv at hr ⊢
       cases hr with
       | c hr=>cases hr with
        | d hd=>cases hd with
         | @fn _ _ cvs hlen hrd=>
          refine ⟨cvs,rfl,by simpa using hlen,λi x hi=> ?_⟩
          rw [List.getElem?_map]at hi
          obtain ⟨y,hy,rfl⟩:=Option.map_eq_some_iff.1 hi
          exact .d (hrd i y hy)
      ·rename_i g caps' hop
       obtain ⟨rfl,rfl⟩:g=f/\caps'=caps:=by simpa using hf
       have hr:=hρ _ _ hop
       generalize a.eval fop=fv at hr ⊢
       cases hr with
       | c hr=>cases hr with
        | @ofn _ _ cvs hlen hrc=>exact ⟨cvs,rfl,hlen,hrc⟩
      ·simp at hf
     obtain ⟨cvs,hfe,hcl,hcr⟩:=hfv
     obtain ⟨hal,har⟩:=qaj hρ hvs
     let rvs:List Value:=c.args.toList.map a.eval++cvs.toList
     obtain ⟨p1,p2,p3⟩:=qlf hI (vs++caps.map TV.c) muts as ids1 lent rvs hargs (by simp [rvs,hal,hcl]) (λi t val hi hv=>by
      by_cases hlt:i < vs.length
      ·rw [List.getElem?_append_left hlt]at hi
       simp only [rvs]at hv
       rw [List.getElem?_append_left (by simp only [List.length_map]; omega),List.getElem?_map]at hv
       obtain ⟨x,hx,rfl⟩:=Option.map_eq_some_iff.1 hv
       exact har i x t hx hi
      ·rw [List.getElem?_append_right (by omega),List.getElem?_map]at hi
       obtain ⟨x,hx,rfl⟩:=Option.map_eq_some_iff.1 hi
       simp only [rvs]at hv
       rw [List.getElem?_append_right (by simp only [List.length_map]; omega)]at hv
       simp only [List.length_map,<- hal]at hv
       have:=hcr _ x hx
       rw [Array.getElem?_toList]at hv
       have e1:cvs.getD (i - vs.length) undef=val:=by simp [hv]
       rw [e1]at this
       exact .c this)
     have hSlt:∀b,SB S w φ (look H) ids1 b->b < w.heap.size:=by
      rintro b (hb | ⟨i,hi,hb⟩)
      ·exact hI.slt b hb
      ·obtain ⟨oi,hoi⟩:=qft _ _ _ _ _ hargs i hi
       rcases q0m.1 hb with rfl | ⟨sz,sl,k,h1,h2⟩
       ·exact (hI.obj i oi hoi).2.blk_lt hI.slt
       ·exact (hI.pat h1 h2).2.2.1
     have hnS:∀b∈((lent.flatMap (·.2.1)).flatMap (blks w φ (look H))),¬SB S w φ (look H) ids1 b:=by
      intro b hb hS
      obtain ⟨i,hi,hb⟩:=List.mem_flatMap.1 hb
      obtain ⟨oi,hoi,hoio⟩:=p2 i hi
      have hb1:=(q54 hI hoi hoio hb).1
      rcases hS with hS | ⟨j,hj,hje⟩
      ·exact hb1 hS
      ·obtain ⟨oj,hoj⟩:=qft _ _ _ _ _ hargs j hj
       cases hjo:isOwn oj with
       | true=>
        refine q4e hI hoi hoj hoio hjo (λe=> ?_) hb hje
        have:=List.all_eq_true.1 hapart i hi
        rw [e]at this
        simp [hj]at this
       | false=>
        rcases q0m.1 hje with rfl | ⟨sz,sl,k,h1,_⟩
        ·exact hb1 ((hI.obj j oj hoj).2.froz hjo)
        ·rw [hoj]at h1; cases h1; cases hjo
     have hgood:=hok f as rs outs hcall (SB S w φ (look H) ids1) w rvs _ hSlt p1 (qg4 hI hnd p2) hnS (hI.glob.mono (SB.stp0 _))
     intro next Q hn
     have hfin:∀val w',Left (SB S w φ (look H) ids1) w ((lent.flatMap (·.2.1)).flatMap (blks w φ (look H))) rs outs (lentV as rvs) val w'->next (a.put o.dst val) w':=by
      intro val w' hleft
      refine hn val w' (qmt hI hfr p1 p2 p3 hwhole hnd hleft (ro:=ro) (v:=v) (u:=u) (rd:=ids) ?_)
      exact h
     have hrun:∀r,(callFunc f rvs.toArray).run P w=r->(execOp a.eval o).run P w=r:=by
      intro r hr
      have e1:(#[]++c.args.map a.eval)++cvs=rvs.toArray:=by
       apply Array.ext'
       simp [rvs]
      simp only [execOp,ho,Sem.run_bind,resolve,hcal,hfe,Deferred.ofValue,Sem.run_pure,Result.andThen_ok,invoke,e1]
      exact hr
     rcases hgood with ⟨g,as',hr,hc⟩ | ⟨val,hr,hleft⟩
     ·unfold Oper.wp
      rw [hrun _ hr,Oper.upon_enter]
      refine hc.mono λen w' hR=> ?_
      obtain ⟨val,rfl,hleft⟩:=hR
      exact hfin val w' hleft
     ·unfold Oper.wp
      rw [hrun _ hr]
      exact hfin val w hleft
   ·simp at h
 ·simp at h
end
end Go.Ev

namespace Go.Ev
section
variable {P:Program}{S K:Nat->Prop}{w0 w:World}{Kn:Nat->Prop}{φ:Nat->Loc}{H:Heap}{e:Env}{o:Oper}{call:Call}{a:Act}{sig:Sig}{k:Ev.K}{args:List Operand}
 {nxt n':Nat} {v:TV} {u:Upd} {ids:List Nat}
theorem q0y{vs:List (Option TV)}:ev1 call .bad vs H nxt=none:=by
 unfold ev1; split <;> first | rfl | simp_all
theorem qnr{op:BinOp}{t ty:TypeId}{x y:Operand}(ho:o.op= .binOp op t x y ty)(hk:qo7 P op t x y=(k,args))(hI:Inv S K w0 Kn φ (look H) w)(hE:Env.ok S w Kn φ e a.tmps)
  (h:ev1 call k (args.map (opv e)) H nxt=some (v,u,ids,n')):Runs P o a.eval S K w0 w Kn φ (look H) nxt n' v u:=by
 have hρ:∀x tv,opv e x=some tv->RTV S w Kn φ tv (a.eval x):=λx tv h=>q8z hI.glob hE h
 have plainBin:(k,args)=(Ev.K.bin op, [x,y])->Runs P o a.eval S K w0 w Kn φ (look H) nxt n' v u:=by
  intro hk
  obtain ⟨rfl,rfl⟩:=Prod.mk.inj hk
  exact qws ho hI (λz hz=>hρ x z hz) (λz hz=>hρ y z hz) h
 have nilBin:∀kind,(op= .eql\/op= .neq)->nilTy P t kind->(k,args)=q75 kind (op == .neq) x y->Runs P o a.eval S K w0 w Kn φ (look H) nxt n' v u:=by
  intro kind hop hu hk
  unfold q75 at hk
  split at hk
  ·rename_i hy
   obtain ⟨rfl,rfl⟩:=Prod.mk.inj hk
   exact qj9 ho hop hu hI (λ_=>rfl) (.inl ⟨rfl,hy⟩) (λz hz=>hρ x z hz) h
  ·split at hk
   ·rename_i hx
    obtain ⟨rfl,rfl⟩:=Prod.mk.inj hk
    exact qj9 ho hop hu hI (λ_=>rfl) (.inr ⟨rfl,hx⟩) (λz hz=>hρ y z hz) h
   ·obtain ⟨rfl,rfl⟩:=Prod.mk.inj hk
    rw [q0y]at h; simp at h
 have eqs:(op= .eql\/op= .neq)->(match P.underlying t with
  | some .bool=>(Ev.K.eqBool (op == .neq), [x,y])
  | some (.int _) | some (.float _) | some .string=>(Ev.K.bin op, [x,y])
  | some (.slice _)=>q75 0 (op == .neq) x y
  | some (.pointer _)=>q75 1 (op == .neq) x y
  | some (.func _ _ _)=>q75 2 (op == .neq) x y
  | some (.struct _) | some (.array _ _)=>
   match tyK P 8 t with
   | some ks=>if P.eqGuardType P.depth t=false then (Ev.K.eqAgg (op == .neq) ks, [x,y])else (Ev.K.bad, [])
   | none=>(Ev.K.bad, [])
  | _=>(Ev.K.bad, []))=(k,args)->Runs P o a.eval S K w0 w Kn φ (look H) nxt n' v u:=by
  intro hop hk
  split at hk
  ·rename_i hu
   obtain ⟨rfl,rfl⟩:=Prod.mk.inj hk
   exact qpa ho hop hu hI (λz hz=>hρ x z hz) (λz hz=>hρ y z hz) h
  ·exact plainBin hk.symm
  ·exact plainBin hk.symm
  ·exact plainBin hk.symm
  ·rename_i hu; exact nilBin 0 hop ⟨_,hu⟩ hk.symm
  ·rename_i hu; exact nilBin 1 hop ⟨_,hu⟩ hk.symm
  ·rename_i hu; exact nilBin 2 hop ⟨_,_,_,hu⟩ hk.symm
  ·rename_i hu
   split at hk
   ·rename_i hks
    split at hk
    ·rename_i hg
     obtain ⟨rfl,rfl⟩:=Prod.mk.inj hk
     exact qjo ho hop hks (by simp [aggOf,hu]) hg hI (λz hz=>hρ x z hz) (λz hz=>hρ y z hz) h
    ·obtain ⟨rfl,rfl⟩:=Prod.mk.inj hk
     rw [q0y]at h; simp at h
   ·obtain ⟨rfl,rfl⟩:=Prod.mk.inj hk
    rw [q0y]at h; simp at h
  ·rename_i hu
   split at hk
   ·rename_i hks
    split at hk
    ·rename_i hg
     obtain ⟨rfl,rfl⟩:=Prod.mk.inj hk
     exact qjo ho hop hks (by simp [aggOf,hu]) hg hI (λz hz=>hρ x z hz) (λz hz=>hρ y z hz) h
    ·obtain ⟨rfl,rfl⟩:=Prod.mk.inj hk
     rw [q0y]at h; simp at h
   ·obtain ⟨rfl,rfl⟩:=Prod.mk.inj hk
    rw [q0y]at h; simp at h
  ·obtain ⟨rfl,rfl⟩:=Prod.mk.inj hk
   rw [q0y]at h; simp at h
 cases op with
 | eql=>exact eqs (.inl rfl) hk
 | neq=>exact eqs (.inr rfl) hk
 | _=>exact plainBin hk.symm
theorem q6z{α:Type}{x:Array α}{y:α}(h:x.toList= [y]):x=#[y]:=by rw [<- Array.toArray_toList (xs:=x),h]
theorem q6f{α:Type}{x:Array α}{y z:α}(h:x.toList= [y,z]):x=#[y,z]:=by rw [<- Array.toArray_toList (xs:=x),h]
theorem qdb{b:Builtin}{c:Go.Call}(ho:o.op= .call c)(hcal:c.callee= .builtin b)(hk:q8f P b c.args.toList c.argTypes.toList=(k,args))(hI:Inv S K w0 Kn φ (look H) w)
  (hE:Env.ok S w Kn φ e a.tmps) (hn0:nxt < n'->¬Kn nxt) (h:ev1 call k (args.map (opv e)) H nxt=some (v,u,ids,n')):Runs P o a.eval S K w0 w Kn φ (look H) nxt n' v u:=by
 have hρ:∀x tv,opv e x=some tv->RTV S w Kn φ tv (a.eval x):=λx tv h=>q8z hI.glob hE h
 have lenArgs:∀str,k= .len str->args=c.args.toList->∃x,c.args.toList= [x]:=by
  intro str hk ha
  subst hk ha
  generalize c.args.toList=l at h
  match l,h with
  | [x],_=>exact ⟨x,rfl⟩
  | [],h=>simp [ev1]at h
  | x :: y :: r,h=>simp [ev1]at h
 unfold q8f at hk
 split at hk
 ·rename_i t hts
  split at hk
  ·rename_i hu
   obtain ⟨rfl,rfl⟩:=Prod.mk.inj hk
   obtain ⟨x,hx⟩:=lenArgs true rfl rfl
   rw [hx]at h
   exact qs4 (str:=true) ho hcal (q6z hx) (q6z hts) hu hI (λz hz=>hρ x z hz) h
  ·rename_i hu
   obtain ⟨rfl,rfl⟩:=Prod.mk.inj hk
   obtain ⟨x,hx⟩:=lenArgs false rfl rfl
   rw [hx]at h
   exact qs4 (str:=false) ho hcal (q6z hx) (q6z hts) ⟨_,hu⟩ hI (λz hz=>hρ x z hz) h
  ·obtain ⟨rfl,rfl⟩:=Prod.mk.inj hk
   rw [q0y]at h; simp at h
 ·obtain ⟨rfl,rfl⟩:=Prod.mk.inj hk
  exact qf3 (m:=true) ho hcal hI hρ h
 ·obtain ⟨rfl,rfl⟩:=Prod.mk.inj hk
  exact qf3 (m:=false) ho hcal hI hρ h
 ·rename_i s x hts
  split at hk
  ·rename_i el el2 hus hux
   split at hk
   ·rename_i n z hsz hz
    split at hk
    ·rename_i hb
     obtain ⟨rfl,rfl⟩:=Prod.mk.inj hk
     have:∃p q,c.args.toList= [p,q]:=by
      generalize c.args.toList=l at h
      match l,h with
      | [p,q],_=>exact ⟨p,q,rfl⟩
      | [],h=>simp [ev1]at h
      | [p],h=>simp [ev1]at h
      | p :: q :: r :: t,h=>simp [ev1]at h
     obtain ⟨p,q,hpq⟩:=this
     rw [hpq]at h
     exact qon ho hcal (q6f hpq) (q6f hts) hus hux hsz hz hb.2 hb.1 hI hn0 (λz hz=>hρ p z hz) (λz hz=>hρ q z hz) h
    ·obtain ⟨rfl,rfl⟩:=Prod.mk.inj hk
     rw [q0y]at h; simp at h
   ·obtain ⟨rfl,rfl⟩:=Prod.mk.inj hk
    rw [q0y]at h; simp at h
  ·rename_i el kd hus hux
   split at hk
   ·rename_i n z hsz hz
    split at hk
    ·rename_i hb
     obtain ⟨rfl,rfl⟩:=Prod.mk.inj hk
     have:∃p q,c.args.toList= [p,q]:=by
      generalize c.args.toList=l at h
      match l,h with
      | [p,q],_=>exact ⟨p,q,rfl⟩
      | [],h=>simp [ev1]at h
      | [p],h=>simp [ev1]at h
      | p :: q :: r :: t,h=>simp [ev1]at h
     obtain ⟨p,q,hpq⟩:=this
     rw [hpq]at h
     exact qwd ho hcal (q6f hpq) (q6f hts) hus hux hsz hz hb.2 hb.1 hI hn0 (λz hz=>hρ p z hz) (λz hz=>hρ q z hz) h
    ·obtain ⟨rfl,rfl⟩:=Prod.mk.inj hk
     rw [q0y]at h; simp at h
   ·obtain ⟨rfl,rfl⟩:=Prod.mk.inj hk
    rw [q0y]at h; simp at h
  ·obtain ⟨rfl,rfl⟩:=Prod.mk.inj hk
   rw [q0y]at h; simp at h
 ·rename_i t hts
  split at hk
  ·rename_i el hu
   obtain ⟨rfl,rfl⟩:=Prod.mk.inj hk
   have:∃p,c.args.toList= [p]:=by
    generalize c.args.toList=l at h
    match l,h with
    | [p],_=>exact ⟨p,rfl⟩
    | [],h=>simp [ev1]at h
    | p :: q :: r,h=>simp [ev1]at h
   obtain ⟨p,hp⟩:=this
   rw [hp]at h
   exact qw2 ho hcal (q6z hp) (q6z hts) hu hI (λz hz=>hρ p z hz) h
  ·obtain ⟨rfl,rfl⟩:=Prod.mk.inj hk
   rw [q0y]at h; simp at h
 ·rename_i d x hts
  split at hk
  ·rename_i el hud
   split at hk
   ·rename_i n hsz
    obtain ⟨rfl,rfl⟩:=Prod.mk.inj hk
    have:∃p q,c.args.toList= [p,q]:=by
     generalize c.args.toList=l at h
     match l,h with
     | [p,q],_=>exact ⟨p,q,rfl⟩
     | [],h=>simp [ev1]at h
     | [p],h=>simp [ev1]at h
     | p :: q :: r :: t,h=>simp [ev1]at h
    obtain ⟨p,q,hpq⟩:=this
    rw [hpq]at h
    exact qtl ho hcal (q6f hpq) (q6f hts) hud hsz hI (λz hz=>hρ p z hz) (λz hz=>hρ q z hz) h
   ·obtain ⟨rfl,rfl⟩:=Prod.mk.inj hk
    rw [q0y]at h; simp at h
  ·obtain ⟨rfl,rfl⟩:=Prod.mk.inj hk
   rw [q0y]at h; simp at h
 ·rename_i d hts
  split at hk
  ·rename_i el hud
   split at hk
   ·rename_i n z hsz hz
    split at hk
    ·rename_i hzl
     obtain ⟨rfl,rfl⟩:=Prod.mk.inj hk
     have:∃p,c.args.toList= [p]:=by
      generalize c.args.toList=l at h
      match l,h with
      | [p],_=>exact ⟨p,rfl⟩
      | [],h=>simp [ev1]at h
      | p :: q :: r,h=>simp [ev1]at h
     obtain ⟨p,hp⟩:=this
     rw [hp]at h
     exact qqu ho hcal (q6z hp) (q6z hts) hud hsz hz hzl hI (λz hz=>hρ p z hz) h
    ·obtain ⟨rfl,rfl⟩:=Prod.mk.inj hk
     rw [q0y]at h; simp at h
   ·obtain ⟨rfl,rfl⟩:=Prod.mk.inj hk
    rw [q0y]at h; simp at h
  ·obtain ⟨rfl,rfl⟩:=Prod.mk.inj hk
   rw [q0y]at h; simp at h
 ·obtain ⟨rfl,rfl⟩:=Prod.mk.inj hk
  rw [q0y]at h; simp at h
theorem qjg(hok:q5b P call)(hk:compK P sig o.op=(k,args))(hI:Inv S K w0 Kn φ (look H) w)(hE:Env.ok S w Kn φ e a.tmps)(hfr:∀j,nxt<=j->j < n'->¬Kn j)
  (h:ev1 call k (args.map (opv e)) H nxt=some (v,u,ids,n')):Goes P o a S K w0 w Kn φ (look H) nxt n' v u:=by
 have hρ:∀x tv,opv e x=some tv->RTV S w Kn φ tv (a.eval x):=λx tv h=>q8z hI.glob hE h
 have hn0:nxt < n'->¬Kn nxt:=λh=>hfr nxt (Nat.le_refl _) h
 have bad:(k,args)=(Ev.K.bad, [])->Goes P o a S K w0 w Kn φ (look H) nxt n' v u:=by
  intro hk
  obtain ⟨rfl,rfl⟩:=Prod.mk.inj hk
  rw [q0y]at h; simp at h
 generalize hop:o.op=op at hk
 unfold compK at hk
 split at hk
 ·obtain ⟨rfl,rfl⟩:=Prod.mk.inj hk
  exact (op_mv (.inl hop) hI (λz hz=>hρ _ z hz) h).goes
 ·obtain ⟨rfl,rfl⟩:=Prod.mk.inj hk
  exact (op_mv (.inr hop) hI (λz hz=>hρ _ z hz) h).goes
 ·obtain ⟨rfl,rfl⟩:=Prod.mk.inj hk
  exact (quf hop hI (λz hz=>hρ _ z hz) (λz hz=>hρ _ z hz) (λz hz=>hρ _ z hz) h).goes
 ·-- alloc
  split at hk
  ·rename_i hz
   obtain ⟨rfl,rfl⟩:=Prod.mk.inj hk
   exact (qry hop hz hI hn0 h).goes
  ·exact bad hk.symm
 ·obtain ⟨rfl,rfl⟩:=Prod.mk.inj hk
  exact (qvk hop hI hn0 (λz hz=>hρ _ z hz) h).goes
 ·-- build
  split at hk
  ·rename_i hu hz
   split at hk
   ·rename_i hpl
    split at hk
    ·rename_i hall
     obtain ⟨rfl,rfl⟩:=Prod.mk.inj hk
     exact (qip hop hz (.inl ⟨_,hu,hpl,hall⟩) hI hρ h).goes
    ·exact bad hk.symm
   ·exact bad hk.symm
  ·rename_i hu hz
   split at hk
   ·rename_i hs
    obtain ⟨rfl,rfl⟩:=Prod.mk.inj hk
    exact (qip hop hz (.inr ⟨_,_,_,hu,hs,rfl⟩) hI hρ h).goes
   ·exact bad hk.symm
  ·exact bad hk.symm
 ·-- buildSlice
  split at hk
  ·rename_i hu
   split at hk
   ·rename_i hs hz
    split at hk
    ·rename_i hl
     obtain ⟨rfl,rfl⟩:=Prod.mk.inj hk
     exact (qds hop hu hs hz hl hI hn0 hρ h).goes
    ·exact bad hk.symm
   ·exact bad hk.symm
  ·exact bad hk.symm
 ·-- load
  split at hk
  ·rename_i ha hs
   obtain ⟨rfl,rfl⟩:=Prod.mk.inj hk
   split at h
   ·rename_i hc
    obtain ⟨_,_,rfl,rfl⟩:=hc
    exact (qqj hop ha hs hI hn0 (λz hz=>hρ _ z hz) h).goes
   ·exact (qnk hop ha hs hI (λz hz=>hρ _ z hz) h).goes
  ·exact bad hk.symm
 ·-- store
  split at hk
  ·rename_i hs
   obtain ⟨rfl,rfl⟩:=Prod.mk.inj hk
   exact (qrs hop hs hI (λz hz=>hρ _ z hz) (λz hz=>hρ _ z hz) h).goes
  ·exact bad hk.symm
 ·obtain ⟨rfl,rfl⟩:=Prod.mk.inj hk
  exact (qgn hop hI (λz hz=>hρ _ z hz) h).goes
 ·exact (qnr hop hk hI hE h).goes
 ·obtain ⟨rfl,rfl⟩:=Prod.mk.inj hk
  exact (op_un hop hI (λz hz=>hρ _ z hz) h).goes
 ·-- convert
  split at hk
  ·rename_i hs hd
   obtain ⟨rfl,rfl⟩:=Prod.mk.inj hk
   exact (ql6 hop hs hd hI (λz hz=>hρ _ z hz) h).goes
  ·rename_i hs hd
   obtain ⟨rfl,rfl⟩:=Prod.mk.inj hk
   exact (qgq hop hs hd hI (λz hz=>hρ _ z hz) h).goes
  ·exact bad hk.symm
 ·-- makeFunc
  split at hk
  ·rename_i hf
   obtain ⟨rfl,rfl⟩:=Prod.mk.inj hk
   exact (qtq hop hf hI hρ h).goes
  ·exact bad hk.symm
 ·-- makeSlice
  split at hk
  ·rename_i hu
   split at hk
   ·rename_i hs hz
    split at hk
    ·rename_i hl
     obtain ⟨rfl,rfl⟩:=Prod.mk.inj hk
     split at h
     ·rename_i m hm
      unfold nstOf at hm
      split at hm
      ·rename_i hc
       split at hm
       ·split at hm
        ·obtain rfl:=Option.some.inj hm
         exact (qpk hop hu hs hz hl.1 hl.2 hc.2 (Nat.succ_pos _) hI hn0 (λz hz=>hρ _ z hz) (λz hz=>hρ _ z hz) h).goes
        ·cases hm
       ·cases hm
      ·cases hm
     ·exact (q9q hop hu hs hz hl.1 hl.2 hI hn0 (λz hz=>hρ _ z hz) (λz hz=>hρ _ z hz) h).goes
    ·exact bad hk.symm
   ·exact bad hk.symm
  ·exact bad hk.symm
 ·-- slice
  split at hk
  ·rename_i hu
   obtain ⟨rfl,rfl⟩:=Prod.mk.inj hk
   exact (qiv (str:=true) hop hu hI hρ h).goes
  ·rename_i hu
   split at hk
   ·rename_i hs
    obtain ⟨rfl,rfl⟩:=Prod.mk.inj hk
    exact (qiv (str:=false) hop ⟨_,hu,hs⟩ hI hρ h).goes
   ·exact bad hk.symm
  ·exact bad hk.symm
 ·-- slice3
  split at hk
  ·rename_i hu
   split at hk
   ·rename_i hs
    obtain ⟨rfl,rfl⟩:=Prod.mk.inj hk
    exact (qns hop hu hs hI hn0 hρ h).goes
   ·exact bad hk.symm
  ·exact bad hk.symm
 ·-- fieldAddr
  split at hk
  ·rename_i hu
   split at hk
   ·rename_i hf
    split at hk
    ·rename_i hs
     obtain ⟨rfl,rfl⟩:=Prod.mk.inj hk
     exact (qga hop hu hf hs hI (λz hz=>hρ _ z hz) h).goes
    ·exact bad hk.symm
   ·exact bad hk.symm
  ·exact bad hk.symm
 ·-- field
  split at hk
  ·rename_i hu
   split at hk
   ·rename_i hf
    split at hk
    ·rename_i ha hs
     obtain ⟨rfl,rfl⟩:=Prod.mk.inj hk
     exact (qr8 hop hu hf ha hs hI (λz hz=>hρ _ z hz) h).goes
    ·exact bad hk.symm
   ·exact bad hk.symm
  ·exact bad hk.symm
 ·-- indexAddr
  split at hk
  ·rename_i hu
   split at hk
   ·rename_i hs
    obtain ⟨rfl,rfl⟩:=Prod.mk.inj hk
    exact (qa2 (arr:=none) hop ⟨_,hu,hs⟩ hI (λz hz=>hρ _ z hz) (λz hz=>hρ _ z hz) h).goes
   ·exact bad hk.symm
  ·rename_i hu
   split at hk
   ·rename_i hs
    obtain ⟨rfl,rfl⟩:=Prod.mk.inj hk
    exact (qa2 (arr:=some _) hop ⟨_,hu,hs⟩ hI (λz hz=>hρ _ z hz) (λz hz=>hρ _ z hz) h).goes
   ·exact bad hk.symm
  ·exact bad hk.symm
 ·-- index
  split at hk
  ·rename_i hu
   obtain ⟨rfl,rfl⟩:=Prod.mk.inj hk
   exact (qhw hop hu hI (λz hz=>hρ _ z hz) (λz hz=>hρ _ z hz) h).goes
  ·rename_i hu
   split at hk
   ·rename_i ha hs
    obtain ⟨rfl,rfl⟩:=Prod.mk.inj hk
    exact (qqz hop hu ha hs hI (λz hz=>hρ _ z hz) (λz hz=>hρ _ z hz) h).goes
   ·exact bad hk.symm
  ·exact bad hk.symm
 ·obtain ⟨rfl,rfl⟩:=Prod.mk.inj hk
  exact (qkb hop hI (λz hz=>hρ _ z hz) h).goes
 ·-- makeMap
  split at hk
  ·split at hk
   ·obtain ⟨rfl,rfl⟩:=Prod.mk.inj hk
    exact (qjx hop hI hn0 h).goes
   ·exact bad hk.symm
  ·exact bad hk.symm
 ·-- lookup
  split at hk
  ·rename_i hu
   split at hk
   ·rename_i hm
    obtain ⟨rfl,rfl⟩:=Prod.mk.inj hk
    exact (qp4 hop hu hm hI (λz hz=>hρ _ z hz) (λz hz=>hρ _ z hz) h).goes
   ·exact bad hk.symm
  ·exact bad hk.symm
 ·-- mapEntry
  split at hk
  ·rename_i hu
   split at hk
   ·rename_i hm
    obtain ⟨rfl,rfl⟩:=Prod.mk.inj hk
    exact (qgm hop hu hm hI (λz hz=>hρ _ z hz) (λz hz=>hρ _ z hz) h).goes
   ·exact bad hk.symm
  ·exact bad hk.symm
 ·-- entryStore
  split at hk
  ·split at hk
   ·obtain ⟨rfl,rfl⟩:=Prod.mk.inj hk
    exact (qdu hop hI (λz hz=>hρ _ z hz) (λz hz=>hρ _ z hz) (λz hz=>hρ _ z hz) h).goes
   ·exact bad hk.symm
  ·exact bad hk.symm
 ·-- call
  rename_i c
  split at hk
  ·rename_i hcal
   exact (qdb hop hcal hk hI hE hn0 h).goes
  ·rename_i f hcal
   split at hk
   ·split at hk
    ·rename_i hf
     obtain ⟨rfl,rfl⟩:=Prod.mk.inj hk
     have:∃p q,c.args.toList= [p,q]:=by
      generalize c.args.toList=l at h
      match l,h with
      | [p,q],_=>exact ⟨p,q,rfl⟩
      | [],h=>simp [ev1]at h
      | [p],h=>simp [ev1]at h
      | p :: q :: r :: t,h=>simp [ev1]at h
     obtain ⟨p,q,hpq⟩:=this
     rw [hpq]at h
     exact (qvp hop hcal (q6f hpq) hf rfl hI (λz hz=>hρ p z hz) (λz hz=>hρ q z hz) h).goes
    ·exact bad hk.symm
   ·obtain ⟨rfl,rfl⟩:=Prod.mk.inj hk
    exact qp0 hop hcal hok hI hfr hρ h
  ·rename_i hcal
   obtain ⟨rfl,rfl⟩:=Prod.mk.inj hk
   exact qp0 hop hcal hok hI hfr hρ h
  ·exact bad hk.symm
 ·exact bad hk.symm
end
end Go.Ev

namespace Go.Ev
def q1n(P:Program)(sig:Sig)(nt:Nat)(all:Array Oper)(o:Oper):COp:=
 {dst:=o.dst
  k:=if (match o.dst with | some d=>decide (d < nt) | none=>true)then (compK P sig o.op).1 else .bad
  args:=(compK P sig o.op).2
  guard:=match o.guard with | none=>none | some (j,b)=>some (((all[j]?).bind (·.dst)).getD 1000000000,b) }
def goneC:C:= .ofn 0 []
def RG(S:Nat->Prop)(w:World)(Kn:Nat->Prop)(φ:Nat->Loc)(c:C)(v:Value):Prop:=c=goneC\/RC S w Kn φ c v
theorem RG.mono {S S' : Nat → Prop} {w w' : World} {Kn Kn' : Nat → Prop} {φ φ' : Nat → Loc} (hs : Stp S w S' w') (hr : Ren Kn φ Kn' φ') {x : C} {v : Value} (h : RG S w Kn φ x v) : RG S' w' Kn' φ' x v := h.imp id fun h => h.mono hs hr
structure Rel (S K:Nat->Prop) (w0:World) (Kn:Nat->Prop) (φ:Nat->Loc) (gv:List Value) (nt:Nat) (s:St) (a:Act) (w:World):Prop where
 inv:Inv S K w0 Kn φ (look s.heap) w
 env:Env.ok S w Kn φ s.env a.tmps
 size:a.tmps.size=nt
 defers:a.defers= []
 fresh:∀j,s.next<=j->¬Kn j
 gh:∀(i:Nat) (c:C) (v:Value),s.gh[i]? =some c->gv[i]? =some v->RG S w Kn φ c v
section
variable {P:Program}{S K:Nat->Prop}{w0 w:World}{Kn:Nat->Prop}{φ:Nat->Loc}{gv:List Value}{nt:Nat}{a:Act}{call:Call}{sig:Sig}{s s':St}
theorem qut{a:Act}{d:Nat}{v:Value}(h:d < a.tmps.size)(t:Nat):(a.put (some d) v).tmps.getD t undef=if t=d then v else a.tmps.getD t undef:=by
 simp only [Act.put,Array.getD_eq_getD_getElem?,Array.getElem?_setIfInBounds]
 by_cases e:d=t
 ·subst e; simp [h]
 ·have e2:¬t=d:=λh=>e h.symm
  simp [e,e2]
theorem qam{a:Act}(d:Option Nat)(v:Value):(a.put d v).tmps.size=a.tmps.size:=by
 cases d <;> simp [Act.put]
theorem q7n{a:Act}(d:Option Nat)(v:Value):(a.put d v).defers=a.defers:=by
 cases d <;> simp [Act.put]
theorem q3v(e:Env)(d:Option Nat)(v:TV)(t:Nat):fnd (put e d v) t=if d=some t then some v else fnd e t:=by
 cases d with
 | none=>simp [put]
 | some d=>
  simp only [put,fnd]
  by_cases h:d=t
  ·simp [h]
  ·have h':(d == t)=false:=by simpa using h
   simp [h,h']
theorem qe0(e:Env)(d:Option Nat)(t:Nat):fnd (drop e d) t=if d=some t then some (.tup [])else fnd e t:=q3v e d (.tup []) t
theorem Env.put_ok {e : Env} {S' : Nat → Prop} {w' : World} {Kn' : Nat → Prop} {φ' : Nat → Loc} (hE : Env.ok S w Kn φ e a.tmps) (hs : Stp S w S' w') (hr : Ren Kn φ Kn' φ') {d : Option Nat} {v : TV} {val : Value}
  (hd : ∀ x, d = some x → x < a.tmps.size) (hv : RTV S' w' Kn' φ' v val) : Env.ok S' w' Kn' φ' (Ev.put e d v) (a.put d val).tmps := by
 intro t x hx
 rw [q3v]at hx
 cases d with
 | none=>
  simp only [reduceCtorEq,if_false]at hx
  exact (hE t x hx).mono hs hr
 | some d=>
  rw [qut (hd d rfl)]
  by_cases h:t=d
  ·subst h
   simp only [if_true]at hx
   rw [if_pos rfl,<- Option.some.inj hx]; exact hv
  ·have h2:¬(some d=some t):=λe=>h (Option.some.inj e).symm
   rw [if_neg h2]at hx
   rw [if_neg h]; exact (hE t x hx).mono hs hr
theorem Env.drop_ok{e:Env}(hE:Env.ok S w Kn φ e a.tmps){d:Option Nat}:Env.ok S w Kn φ (Ev.drop e d) (a.put d undef).tmps:=by
 intro t x hx
 rw [qe0]at hx
 have hu:RTV S w Kn φ (.tup []) undef:= .tup rfl λi x hi=>by simp at hi
 split at hx
 ·rename_i h
  subst h
  obtain rfl:=Option.some.inj hx
  have:(a.put (some t) undef).tmps.getD t undef=undef:=by
   simp only [Act.put,Array.getD_eq_getD_getElem?,Array.getElem?_setIfInBounds,if_true]
   split <;> rfl
  rw [this]; exact hu
 ·rename_i h
  have:=hE t x hx
  cases d with
  | none=>exact this
  | some d=>
   have h2:¬d=t:=λe=>h (by rw [e])
   simp only [Act.put,Array.getD_eq_getD_getElem?,Array.getElem?_setIfInBounds,if_neg h2]
   rw [Array.getD_eq_getD_getElem?]at this
   exact this
theorem q68{e:Env}(hE:Env.ok S w Kn φ e a.tmps)(hsz:a.tmps.size < 1000000000){all:Array Oper}{o:Oper}{b:Bool}(h:wants e (q1n P sig nt all o).guard=some b):
  Region.wanted o (yielded all a.tmps)=b:=by
 unfold q1n at h
 simp only at h
 unfold Region.wanted
 cases hg:o.guard with
 | none=>
  rw [hg]at h
  simpa [wants]using h
 | some p=>
  obtain ⟨j,want⟩:=p
  rw [hg]at h
  simp only [wants]at h
  split at h
  ·rename_i x hx
   have hr:=hE _ _ hx
   obtain ⟨hv,_⟩:=hr.lit
   cases hd:(all[j]?).bind (·.dst)with
   | none=>
    rw [hd]at hv
    simp only [Option.getD_none]at hv
    rw [Array.getD_eq_getD_getElem?,Array.getElem?_eq_none (by omega)]at hv
    simp [undef]at hv
   | some t=>
    rw [hd]at hv
    simp only [Option.getD_some]at hv
    have ht:a.tmps[t]? =some (.bool x):=by
     rw [Array.getD_eq_getD_getElem?]at hv
     cases ht:a.tmps[t]? with
     | none=>rw [ht]at hv; simp [undef]at hv
     | some y=>rw [ht]at hv; simpa using hv
    obtain rfl:=Option.some.inj h
    simp only [yielded,hd,Option.bind_some,ht]
    cases x <;> cases want <;> rfl
  ·rename_i hx
   have hr:=hE _ _ hx
   obtain rfl:=Option.some.inj h
   cases hd:(all[j]?).bind (·.dst)with
   | none=>simp only [yielded,hd,Option.bind_none]; rfl
   | some t=>
    rw [hd]at hr
    simp only [Option.getD_some]at hr
    generalize hv:a.tmps.getD t undef=v at hr
    cases hr with
    | @tup _ arr hlen _=>
     rw [Array.getD_eq_getD_getElem?]at hv
     simp only [yielded,hd,Option.bind_some]
     cases ht:a.tmps[t]? with
     | none=>rfl
     | some y=>
      rw [ht]at hv
      simp only [Option.getD_some]at hv
      subst hv; rfl
  ·simp at h
end
end Go.Ev

namespace Go.Ev
section
variable {H H':Heap}
def Agree(H H':Heap)(ids:List Nat):Prop:=∀i∈ids,look H' i=look H i
theorem Agree.left{a b:List Nat}(h:Agree H H' (a++b)):Agree H H' a:=λi hi=>h i (List.mem_append_left _ hi)
theorem Agree.right{a b:List Nat}(h:Agree H H' (a++b)):Agree H H' b:=λi hi=>h i (List.mem_append_right _ hi)
theorem q9k:∀n,(∀ c x ids,viewC H n c=some (x,ids)->Agree H H' ids->viewC H' n c=some (x,ids))/\
  (∀ cs xs ids,viewL H n cs=some (xs,ids)->Agree H H' ids->viewL H' n cs=some (xs,ids)):=by
 have leaf:∀n c x ids,(match c with | .op _ _ | .ofn _ _=>False | _=>True)->viewC H n c=some (x,ids)->Agree H H' ids->viewC H' n c=some (x,ids):=by
  intro n c x ids hl h ha
  cases c with
  | d y=>simpa only [viewC]using h
  | osl sz id off len=>
   have:look H' id=look H id:=ha id (by
    simp only [viewC]at h
    split at h
    all_goals first
     | (split at h
        ·obtain ⟨_,rfl⟩:=Prod.mk.inj (Option.some.inj h); simp
        ·simp at h)
     | (split at h
        ·split at h
         ·obtain ⟨_,rfl⟩:=Prod.mk.inj (Option.some.inj h); simp
         ·simp at h
        ·simp at h)
     | simp at h)
   simp only [viewC]at h ⊢
   rw [this]; exact h
  | ep id row off=>
   have:look H' id=look H id:=ha id (by
    simp only [viewC]at h
    split at h
    all_goals first
     | (split at h
        ·split at h
         ·obtain ⟨_,rfl⟩:=Prod.mk.inj (Option.some.inj h); simp
         ·simp at h
        ·simp at h)
     | simp at h)
   simp only [viewC]at h ⊢
   rw [this]; exact h
  | op id off=>exact hl.elim
  | ofn f caps=>exact hl.elim
  | om id=>cases n <;> simp [viewC]at h
 intro n
 induction n with
 | zero=>
  refine ⟨λc x ids h ha=> ?_,λcs xs ids h ha=> ?_⟩
  ·cases c with
   | op id off=>simp [viewC]at h
   | ofn f caps=>simp [viewC]at h
   | _=>exact leaf 0 _ x ids trivial h ha
  ·cases cs with
   | nil=>simpa only [viewL]using h
   | cons c cs=>simp [viewL]at h
 | succ n ih=>
  refine ⟨λc x ids h ha=> ?_,λcs xs ids h ha=> ?_⟩
  ·cases c with
   | op id off=>
    simp only [viewC]at h ⊢
    split at h
    ·rename_i ho
     split at h
     ·rename_i hle
      obtain ⟨rfl,rfl⟩:=Prod.mk.inj (Option.some.inj h)
      rw [ha id (by simp),ho]
      simp only [hle,if_true]
     ·simp at h
    ·rename_i ho
     split at h
     ·rename_i hv
      split at h
      ·rename_i hle
       obtain ⟨rfl,rfl⟩:=Prod.mk.inj (Option.some.inj h)
       rw [ha id (by simp),ho]
       simp only [ih.2 _ _ _ hv (λi hi=>ha i (by simp [hi])),hle,if_true]
      ·simp at h
     ·simp at h
    ·simp at h
   | ofn f caps=>
    simp only [viewC]at h ⊢
    split at h
    ·rename_i hv
     obtain ⟨rfl,rfl⟩:=Prod.mk.inj (Option.some.inj h)
     simp only [ih.2 _ _ _ hv ha]
    ·simp at h
   | _=>exact leaf _ _ x ids trivial h ha
  ·cases cs with
   | nil=>simpa only [viewL]using h
   | cons c cs=>
    simp only [viewL]at h ⊢
    split at h
    ·rename_i h1 h2
     obtain ⟨rfl,rfl⟩:=Prod.mk.inj (Option.some.inj h)
     simp only [ih.1 _ _ _ h1 ha.left,ih.2 _ _ _ h2 ha.right]
    ·simp at h
theorem q7e:∀cs xs ids,q0r H cs=some (xs,ids)->Agree H H' ids->q0r H' cs=some (xs,ids):=by
 intro cs
 induction cs with
 | nil=>intro xs ids h _; simpa only [q0r]using h
 | cons c cs ih=>
  intro xs ids h ha
  simp only [q0r]at h ⊢
  split at h
  ·rename_i h1 h2
   obtain ⟨rfl,rfl⟩:=Prod.mk.inj (Option.some.inj h)
   simp only [(q9k 300).1 _ _ _ h1 ha.left,ih _ _ h2 ha.right]
  ·simp at h
theorem q7b{all:List Nat}(ha:Agree H H' all):∀(l:List Nat) (u:Upd),(∀ i∈l,i∈all)->q0o H all l=some u->q0o H' all l=some u:=by
 intro l
 induction l with
 | nil=>intro u _ h; simpa only [q0o]using h
 | cons a l ih=>
  intro u hl h
  simp only [q0o]at h ⊢
  split at h
  ·rename_i o u' ho hu
   have hob:q2s H' all a=some o:=by
    unfold q2s at ho ⊢
    rw [ha a (hl a (by simp))]
    split at ho
    ·exact ho
    ·exact ho
    ·exact ho
    ·split at ho
     ·rename_i hv
      split at ho
      ·rename_i hall
       simp only [(q9k 300).2 _ _ _ hv (λi hi=>ha i (by simpa using List.all_eq_true.1 hall i hi)),hall,if_true]
       exact ho
      ·simp at ho
     ·simp at ho
    ·simp at ho
    ·simp at ho
    ·exact ho
    ·simp at ho
   simp only [hob,ih u' (λi hi=>hl i (by simp [hi])) hu]
   exact h
  ·simp at h
theorem qcd{agg:Bool}{n:Nat}{p:C}{v:TV}{ids:List Nat}(h:q20 agg n p H=some (v,ids))(ha:Agree H H' ids):q20 agg n p H'=some (v,ids):=by
 unfold q20 at h ⊢
 split at h
 ·exact h
 ·rename_i id row off
  have:look H' id=look H id:=ha id (by
   split at h
   all_goals first
    | (split at h
       ·split at h
        ·obtain ⟨_,rfl⟩:=Prod.mk.inj (Option.some.inj h); simp
        ·simp at h
       ·simp at h)
    | simp at h)
  simp only [this]; exact h
 ·rename_i id off
  have:look H' id=look H id:=ha id (by
   split at h
   all_goals first
    | (split at h
       ·obtain ⟨_,rfl⟩:=Prod.mk.inj (Option.some.inj h); simp
       ·simp at h)
    | simp at h)
  simp only [this]; exact h
 ·simp at h
theorem qk1{id row sz:Nat}{slots:List Slot}{cs:List C}{u:Upd}{ids:List Nat}(h:q8p id row sz slots cs H=some (u,ids))(ha:Agree H H' ids):q8p id row sz slots cs H'=some (u,ids):=by
 unfold q8p at h ⊢
 split at h
 ·exact h
 ·rename_i sz' id2 len
  have hid:id2∈ids:=by
   repeat' split at h
   all_goals first
    | (simp at h; done)
    | (obtain ⟨_,h2⟩:=Prod.mk.inj (Option.some.inj h); rw [<- h2]; simp)
  simp only [ha id2 hid]; exact h
 ·simp at h
theorem qhx{agg:Bool}{n nxt n':Nat}{p:C}{v:TV}{u:Upd}{ids:List Nat}(h:q3o agg n p H nxt=some (v,u,ids,n'))(ha:Agree H H' ids):q20 agg n p H'=none/\q3o agg n p H' nxt=some (v,u,ids,n'):=by
 unfold q3o at h
 split at h
 case h_2=>simp at h
 rename_i id row
 split at h
 case h_2=>simp at h
 rename_i sz slots ho
 have hid:id∈ids:=by
  repeat' split at h
  all_goals first
   | (simp at h; done)
   | (obtain ⟨_,_,h2,_⟩:=(by simpa using h:_/\_/\ [id]=ids/\_); rw [<- h2]; simp)
 have ho':look H' id=some (.nst sz slots):=by rw [ha id hid]; exact ho
 refine ⟨by simp only [q20,ho'], ?_⟩
 simp only [q3o,ho']
 exact h
theorem qh9{n:Nat}{p:C}{v:TV}{u:Upd}{ids:List Nat}(h:q44 n p v H=some (u,ids))(ha:Agree H H' ids):q44 n p v H'=some (u,ids):=by
 unfold q44 at h ⊢
 split at h
 ·simp at h
 ·rename_i cs hcs
  split at h
  ·rename_i hlen
   simp only [hlen,if_true]
   split at h
   ·rename_i id row off
    split at h
    ·rename_i sz rows ho
     split at h
     ·rename_i r ds ids1 hr hv
      split at h
      ·rename_i u1 hfz
       split at h
       ·rename_i hb
        obtain ⟨rfl,rfl⟩:=Prod.mk.inj (Option.some.inj h)
        have ha1:Agree H H' ids1:=λi hi=>ha i (by simp [hi])
        simp only [ha id (by simp),ho,hr,q7e _ _ _ hv ha1,q7b ha1 _ _ (λi hi=>hi) hfz,hb.1,hb.2,and_self,if_true]
       ·simp at h
      ·simp at h
     ·simp at h
    ·rename_i sz slots ho
     split at h
     ·rename_i hc
      have hid:id∈ids/\∀i,cs= [.osl sz i 0 0]->True:=by
       refine ⟨?_,λ_ _=>trivial⟩
       unfold q8p at h
       repeat' split at h
       all_goals first
        | (simp at h; done)
        | (obtain ⟨_,h2⟩:=Prod.mk.inj (Option.some.inj h); rw [<- h2]; simp)
      simp only [ha id hid.1,ho,if_pos hc]
      exact qk1 h ha
     ·simp at h
    ·simp at h
   ·rename_i id off
    split at h
    ·rename_i cells ho
     split at h
     ·rename_i hb
      obtain ⟨rfl,rfl⟩:=Prod.mk.inj (Option.some.inj h)
      simp only [ha id (by simp),ho,hb,if_true]
     ·simp at h
    ·simp at h
   ·simp at h
  ·simp at h
theorem q53{sz:Nat}{x:C}{new:List (List D)}{ids:List Nat}(h:q2u sz H x=some (new,ids))(ha:Agree H H' ids):q2u sz H' x=some (new,ids):=by
 unfold q2u at h ⊢
 split at h
 ·exact h
 ·exact h
 ·rename_i sz' id off len
  have:look H' id=look H id:=ha id (by
   split at h
   all_goals first
    | (split at h
       ·obtain ⟨_,rfl⟩:=Prod.mk.inj (Option.some.inj h); simp
       ·simp at h)
    | simp at h)
  simp only [this]; exact h
 ·simp at h
theorem qla{sz:Nat}{d x:C}{i:Int}{u:Upd}{ids:List Nat}(h:q4z sz d x H=some (i,u,ids))(ha:Agree H H' ids):q4z sz d x H'=some (i,u,ids):=by
 unfold q4z at h ⊢
 split at h
 ·rename_i new ids1 hr
  obtain ⟨_,_,rfl⟩:_/\_/\ids1=ids:=by simpa using h
  rw [q53 hr ha]; exact h
 ·rename_i new ids1 sz' id off len hr
  split at h
  ·rename_i szo rows ho
   split at h
   ·rename_i hb
    obtain ⟨_,_,rfl⟩:_/\_/\id :: ids1=ids:=by simpa using h
    rw [q53 hr λj hj=>ha j (List.mem_cons_of_mem _ hj)]
    simp only [ha id (by simp),ho,if_pos hb]
    exact h
   ·simp at h
  ·simp at h
 ·simp at h
theorem qhl{sz:Nat}{d x:C}{i:Int}{u:Upd}{ids:List Nat}(h:q6g sz d x H=some (i,u,ids))(ha:Agree H H' ids):q6g sz d x H'=some (i,u,ids)/\q4z sz d x H'=none:=by
 unfold q6g at h ⊢
 split at h
 case h_2=>simp at h
 rename_i sz' id off len sz2 id2 off2 len2
 have hids:ids= [id,id2]:=by
  repeat' split at h
  all_goals first
   | (simp at h; done)
   | (obtain ⟨_,_,h2⟩:=(by simpa using h:_/\_/\ [id,id2]=ids); exact h2.symm)
 subst hids
 have a1:=ha id (by simp)
 have a2:=ha id2 (by simp)
 refine ⟨by simp only [a1,a2]; exact h, ?_⟩
 have:∃szo rows cp,look H' id=some (.cap szo rows cp):=by
  rw [a1]
  split at h
  ·exact ⟨_,_,_,by assumption⟩
  ·exact ⟨_,_,_,by assumption⟩
  ·simp at h
 obtain ⟨szo,rows,cp,ho⟩:=this
 unfold q4z
 split
 ·rename_i hd; simp at hd
 ·rename_i hd
  obtain ⟨rfl,rfl,rfl,rfl⟩:=(by simpa using hd:_/\_/\_/\_)
  rw [ho]
 ·rfl
theorem qfd{sz nxt n':Nat}{s x:C}{v:TV}{u:Upd}{ids:List Nat}(h:q52 sz s x H nxt=some (v,u,ids,n'))(ha:Agree H H' ids):q52 sz s x H' nxt=some (v,u,ids,n'):=by
 unfold q52 at h ⊢
 split at h
 ·simp at h
 ·rename_i new ids1 hr
  split at h
  ·have e1:ids1=ids:=by
    split at h
    ·split at h
     ·obtain ⟨_,_,h3,_⟩:=(by simpa using h:_/\_/\ids1=ids/\_); exact h3
     ·obtain ⟨_,_,h3,_⟩:=(by simpa using h:_/\_/\ids1=ids/\_); exact h3
    ·simp at h
   subst e1
   simp only [q53 hr ha]
   exact h
  ·rename_i sz' id off len
   split at h
   ·rename_i szo rows ho
    split at h
    ·rename_i hb
     have e1:id :: ids1=ids:=by obtain ⟨_,_,h3,_⟩:=(by simpa using h:_/\_/\id :: ids1=ids/\_); exact h3
     subst e1
     simp only [q53 hr (λi hi=>ha i (by simp [hi])),ha id (by simp),ho]
     rw [if_pos hb]
     exact h
    ·simp at h
   ·simp at h
  ·simp at h
theorem qki:∀n,(∀ c t own rd,packC H n c=some (t,own,rd)->Agree H H' rd->packC H' n c=some (t,own,rd))/\
  (∀ cs ts own rd,packL H n cs=some (ts,own,rd)->Agree H H' rd->packL H' n cs=some (ts,own,rd)):=by
 have leaf:∀n c t own rd,(match c with | .op _ _=>False | _=>True)->packC H n c=some (t,own,rd)->Agree H H' rd->packC H' n c=some (t,own,rd):=by
  intro n c t own rd hl h ha
  cases c with
  | d y=>cases n <;> simpa only [packC]using h
  | osl sz id off len=>
   have hm:id∈rd:=by
    cases n <;>
    ·simp only [packC]at h
     split at h
     all_goals first
      | (split at h
         ·split at h
          ·obtain ⟨_,_,h3⟩:=(by simpa using h:_/\_/\ [id]=rd); rw [<- h3]; simp
          ·simp at h
         ·simp at h)
      | (split at h
         ·obtain ⟨_,_,h3⟩:=(by simpa using h:_/\_/\ [id]=rd); rw [<- h3]; simp
         ·simp at h)
      | simp at h
   have:look H' id=look H id:=ha id hm
   cases n <;>
   ·simp only [packC]at h ⊢
    rw [this]; exact h
  | ep id row off=>cases n <;> simp [packC]at h
  | ofn f caps=>cases n <;> simp [packC]at h
  | om id=>cases n <;> simp [packC]at h
  | op id off=>exact hl.elim
 intro n
 induction n with
 | zero=>
  refine ⟨λc t own rd h ha=> ?_,λcs ts own rd h ha=> ?_⟩
  ·cases c with
   | op id off=>simp [packC]at h
   | _=>exact leaf 0 _ t own rd trivial h ha
  ·cases cs with
   | nil=>simpa only [packL]using h
   | cons c cs=>simp [packL]at h
 | succ n ih=>
  refine ⟨λc t own rd h ha=> ?_,λcs ts own rd h ha=> ?_⟩
  ·cases c with
   | op id off=>
    cases off with
    | succ off=>simp [packC]at h
    | zero=>
     simp only [packC]at h ⊢
     split at h
     ·rename_i ho
      split at h
      ·rename_i ts own' rd' hp
       obtain ⟨h1,h2,h3⟩:=(by simpa using h:T.pt ts=t/\id :: own'=own/\id :: rd'=rd)
       subst h1 h2 h3
       rw [ha id (by simp),ho]
       simp only [ih.2 _ _ _ _ hp (λi hi=>ha i (by simp [hi]))]
      ·simp at h
     ·rename_i cells ho
      obtain ⟨h1,h2,h3⟩:=(by simpa using h:T.d (.pt cells)=t/\ []=own/\ [id]=rd)
      subst h1 h2 h3
      rw [ha id (by simp),ho]
     ·simp at h
   | _=>exact leaf _ _ t own rd trivial h ha
  ·cases cs with
   | nil=>simpa only [packL]using h
   | cons c cs=>
    simp only [packL]at h ⊢
    split at h
    ·rename_i t0 a i0 ts0 b j0 h1 h2
     obtain ⟨e1,e2,e3⟩:=(by simpa using h:t0 :: ts0=ts/\a++b=own/\i0++j0=rd)
     subst e1 e2 e3
     simp only [ih.1 _ _ _ _ h1 ha.left,ih.2 _ _ _ _ h2 ha.right]
    ·simp at h
theorem qcm:∀(tvs:List TV) (ms:List Bool) (as:List A) (ids:List Nat) (lent:List (C×List Nat×List Nat)),q1p H tvs ms=some (as,ids,lent)->Agree H H' ids->Agree H H' (lent.flatMap (·.2.2))->
  q1p H' tvs ms=some (as,ids,lent):=by
 intro tvs
 induction tvs with
 | nil=>intro ms as ids lent h _ _; simpa only [q1p]using h
 | cons t tvs ih=>
  intro ms as ids lent h ha hb
  simp only [q1p]at h ⊢
  split at h
  ·simp at h
  ·rename_i as1 ids1 lent1 hrec
   split at h
   ·rename_i hm
    split at h
    ·split at h
     ·rename_i t0 own rd hp
      obtain ⟨e1,e2,e3⟩:=(by simpa using h:A.mt t0 :: as1=as/\ids1=ids/\(_,own,rd) :: lent1=lent)
      subst e1 e2 e3
      simp only [List.flatMap_cons]at hb
      simp only [ih _ _ _ _ hrec ha hb.right,hm,if_true,(qki 300).1 _ _ _ _ hp hb.left]
     ·simp at h
    ·simp at h
   ·rename_i hm
    split at h
    ·split at h
     ·rename_i x i hv
      obtain ⟨e1,e2,e3⟩:=(by simpa using h:A.d x :: as1=as/\i++ids1=ids/\lent1=lent)
      subst e1 e2 e3
      simp only [ih _ _ _ _ hrec ha.right hb,hm,if_false,Bool.false_eq_true,(q9k 300).1 _ _ _ hv ha.left]
     ·simp at h
    ·split at h
     ·rename_i xs i hv
      obtain ⟨e1,e2,e3⟩:=(by simpa using h:A.agg xs :: as1=as/\i++ids1=ids/\lent1=lent)
      subst e1 e2 e3
      simp only [ih _ _ _ _ hrec ha.right hb,hm,if_false,Bool.false_eq_true,q7e _ _ _ hv ha.left]
     ·simp at h
    ·simp at h
theorem qt9:∀(tvs:List TV) (ms:List Bool) (as:List A) (ids:List Nat) (lent:List (C×List Nat×List Nat)),q1p H tvs ms=some (as,ids,lent)->
  ∀c own rd,(c,own,rd)∈lent->∃t,packC H 300 c=some (t,own,rd):=by
 intro tvs
 induction tvs with
 | nil=>
  intro ms as ids lent h c own rd hm
  obtain ⟨_,_,rfl⟩: []=as/\ []=ids/\ []=lent:=by simpa [q1p]using h
  simp at hm
 | cons t tvs ih=>
  intro ms as ids lent h c own rd hm
  simp only [q1p]at h
  split at h
  ·simp at h
  ·rename_i as1 ids1 lent1 hrec
   split at h
   ·split at h
    ·split at h
     ·rename_i c0 _ t0 own0 rd0 hp
      obtain ⟨_,_,e3⟩:=(by simpa using h:A.mt t0 :: as1=as/\ids1=ids/\(_,own0,rd0) :: lent1=lent)
      subst e3
      rcases List.mem_cons.1 hm with hm | hm
      ·simp only [Prod.mk.injEq]at hm
       obtain ⟨g1,g2,g3⟩:=hm
       rw [g1,g2,g3]
       exact ⟨_,hp⟩
      ·exact ih _ _ _ _ hrec c own rd hm
     ·simp at h
    ·simp at h
   ·split at h
    ·split at h
     ·obtain ⟨_,_,e3⟩:=(by simpa using h:_/\_/\lent1=lent)
      subst e3
      exact ih _ _ _ _ hrec c own rd hm
     ·simp at h
    ·split at h
     ·obtain ⟨_,_,e3⟩:=(by simpa using h:_/\_/\lent1=lent)
      subst e3
      exact ih _ _ _ _ hrec c own rd hm
     ·simp at h
    ·simp at h
theorem qgx:∀(l:List (C×List Nat×List Nat)),(∀ c own rd,(c,own,rd)∈l->∃t,packC H 300 c=some (t,own,rd))->Agree H H' (l.flatMap (·.2.2))->q0s H' l=q0s H l:=by
 intro l
 induction l with
 | nil=>intro _ _; rfl
 | cons p l ih=>
  obtain ⟨c,own,rd⟩:=p
  intro hp ha
  simp only [List.flatMap_cons]at ha
  have h1:=ih (λc own rd hm=>hp c own rd (by simp [hm])) ha.right
  cases c with
  | osl sz id off len=>
   obtain ⟨t,ht⟩:=hp (.osl sz id off len) own rd (by simp)
   have hm:id∈rd:=by
    simp only [packC]at ht
    split at ht
    all_goals first
     | (split at ht
        ·split at ht
         ·obtain ⟨_,_,h3⟩:=(by simpa using ht:_/\_/\ [id]=rd); rw [<- h3]; simp
         ·simp at ht
        ·simp at ht)
     | (split at ht
        ·obtain ⟨_,_,h3⟩:=(by simpa using ht:_/\_/\ [id]=rd); rw [<- h3]; simp
        ·simp at ht)
     | simp at ht
   simp only [q0s,h1,ha.left id hm]
  | _=>simp only [q0s,h1]
theorem qk3{call:Call}{ro:Bool}{muts:List Bool}{f:Option TV}{vs:List (Option TV)}{nxt n':Nat}{v:TV}{u:Upd}{ids:List Nat}(h:qap call ro muts f vs H nxt=some (v,u,ids,n'))(ha:Agree H H' ids):
  qap call ro muts f vs H' nxt=some (v,u,ids,n'):=by
 unfold qap at h ⊢
 split at h
 ·rename_i f caps vs hf hvs
  split at h
  ·simp at h
  ·rename_i as ids1 lent hargs
   split at h
   ·rename_i hcond
    split at h
    ·simp at h
    ·rename_i rs outs hcall
     by_cases hro:ro=true
     ·rw [if_pos hro]at h
      split at h
      ·rename_i hc
       have hle:lent= []:=by simpa using hc.2.1
       subst hle
       have e1:ids1=ids:=by obtain ⟨_,_,h3,_⟩:=(by simpa using h:_/\_/\ids1=ids/\_); exact h3
       subst e1
       simp only [qcm _ _ _ _ _ hargs ha (λi hi=>by simp at hi)]
       rw [if_pos ⟨rfl,hcond.2⟩]
       simp only [hcall,hro,if_true]
       rw [if_pos hc]; exact h
      ·simp at h
     ·rw [if_neg hro]at h
      split at h
      ·simp at h
      ·rename_i fu hfz
       split at h
       ·simp at h
       ·rename_i bu m hbk
        have e1:ids1++lent.flatMap (·.2.2)=ids:=by obtain ⟨_,_,h3,_⟩:=(by simpa using h:_/\_/\ids1++lent.flatMap (·.2.2)=ids/\_); exact h3
        subst e1
        simp only [qcm _ _ _ _ _ hargs ha.left ha.right]
        rw [if_pos (by rw [qgx lent (qt9 _ _ _ _ _ hargs) ha.right]; exact hcond)]
        simp only [hcall]
        rw [if_neg hro]
        simp only [q7b ha.left _ _ (λi hi=>hi) hfz,hbk]
        exact h
   ·simp at h
 ·simp at h
theorem qa5{call:Call}{sz len:Nat}{zero:List Value}{places:List Nat}{vs:List (Option TV)}{nxt n':Nat}{v:TV}{u:Upd}{ids:List Nat}
  (h:ev1 call (.buildSlice sz len zero places) vs H nxt=some (v,u,ids,n')) (ha:Agree H H' ids):ev1 call (.buildSlice sz len zero places) vs H' nxt=some (v,u,ids,n'):=by
 have key:∀G:Heap,ev1 call (.buildSlice sz len zero places) vs G nxt=(match q0t vs with
  | some xs=>
   (match fillC (lits zero) ((places.map λi=>(i * sz,sz)).zip xs)with
   | some cs=>
    (match q0r G cs with
    | some (ds,ids)=>(match q0o G ids ids with | some u=>some (TV.c (.osl sz nxt 0 len),(nxt,some (Ob.arr sz (q4u sz len ds))) :: u,ids,nxt+1) | none=>none)
    | none=>none)
   | none=>none)
  | none=>none):=λ_=>rfl
 rw [key]at h ⊢
 split at h
 ·rename_i xs hxs
  split at h
  ·rename_i cs hcs
   split at h
   ·rename_i ds ids1 hv
    split at h
    ·rename_i u1 hfz
     obtain ⟨_,_,h3,_⟩:=(by simpa using h:_/\_/\ids1=ids/\_)
     subst h3
     simp only [q7e _ _ _ hv ha,q7b ha _ _ (λi hi=>hi) hfz]
     exact h
    ·simp at h
   ·simp at h
  ·simp at h
 ·simp at h
theorem qfp{ka va ok:Bool}{ks:List Kd}{z:List Value}{m:C}{k v:TV}{ids:List Nat}(h:q1u ka ks va z ok m k H=some (v,ids))(ha:Agree H H' ids):q1u ka ks va z ok m k H'=some (v,ids):=by
 unfold q1u at h ⊢
 split at h
 ·exact h
 ·rename_i id key hkey
  have hid:id∈ids:=by
   repeat' split at h
   all_goals first
    | (simp at h; done)
    | (obtain ⟨_,h2⟩:=Prod.mk.inj (Option.some.inj h); rw [<- h2]; simp)
  simp only [ha id hid]; exact h
 ·simp at h
theorem qgj{ka va:Bool}{ks:List Kd}{z:List Value}{m:C}{k v:TV}{u:Upd}{ids:List Nat}(h:q4s ka ks va z m k H=some (v,u,ids))(ha:Agree H H' ids):q4s ka ks va z m k H'=some (v,u,ids):=by
 unfold q4s at h ⊢
 split at h
 ·rename_i id key hkey
  have hid:id∈ids:=by
   repeat' split at h
   all_goals first
    | (simp at h; done)
    | (obtain ⟨_,_,h2⟩:=(by simpa using h:_/\_/\ [id]=ids); rw [<- h2]; simp)
  simp only [ha id hid]; exact h
 ·simp at h
theorem qf8{va:Bool}{n:Nat}{m:C}{s:Option TV}{x:TV}{u:Upd}{ids:List Nat}(h:q4a va n m s x H=some (u,ids))(ha:Agree H H' ids):q4a va n m s x H'=some (u,ids):=by
 unfold q4a at h ⊢
 split at h
 ·rename_i id s1 ds hst hds
  have hid:id∈ids:=by
   repeat' split at h
   all_goals first
    | (simp at h; done)
    | (obtain ⟨_,h2⟩:=(by simpa using h:_/\ [id]=ids); rw [<- h2]; simp)
  simp only [ha id hid]; exact h
 ·simp at h
theorem qcv{str:Bool}{sz:Nat}{x y:C}{l m:Int}{ids:List Nat}(h:q5s str sz x l m H=some (y,ids))(ha:Agree H H' ids):q5s str sz x l m H'=some (y,ids):=by
 unfold q5s at h ⊢
 split at h
 ·rename_i sz' id off len
  have hid:id∈ids:=by
   repeat' split at h
   all_goals first
    | (simp at h; done)
    | (obtain ⟨_,h2⟩:=(by simpa using h:_/\ [id]=ids); rw [<- h2]; simp)
  simp only [ha id hid]; exact h
 ·simp at h
theorem qgc{z:List Value}{x:C}{u:Upd}{ids:List Nat}(h:q64 z x H=some (u,ids))(ha:Agree H H' ids):q64 z x H'=some (u,ids):=by
 unfold q64 at h ⊢
 split at h
 ·rename_i sz id off len
  have hid:id∈ids:=by
   repeat' split at h
   all_goals first
    | (simp at h; done)
    | (obtain ⟨_,h2⟩:=(by simpa using h:_/\ [id]=ids); rw [<- h2]; simp)
  simp only [ha id hid]; exact h
 ·simp at h
def qnc:Ev.K->Bool
 | .loadN | .slice _ _ _ _ | .clear _ | .capK | .apm _ | .ovl | .load _ _ | .store _ | .buildSlice _ _ _ _ | .append _ | .copy _ | .call _ _ | .lookup _ _ _ _ _ | .mapEntry _ _ _ _ | .entryStore _ _=>true
 | _=>false
theorem qn4{call:Call}{k:Ev.K}{vs:List (Option TV)}{nxt:Nat}(hk:qnc k=false):ev1 call k vs H nxt=ev1 call k vs H' nxt:=by
 cases k <;> first
  | (simp [qnc]at hk; done)
  | (unfold ev1; split <;> first | rfl | simp_all)
theorem qm7{call:Call}{k:Ev.K}{vs:List (Option TV)}{nxt n':Nat}{v:TV}{u:Upd}{ids:List Nat}(h:ev1 call k vs H nxt=some (v,u,ids,n'))(ha:Agree H H' ids):
  ev1 call k vs H' nxt=some (v,u,ids,n'):=by
 cases k with
 | load agg n=>
  match vs,h with
  | [some (.c p)],h=>
   change (match q20 agg n p H with | some (v,ids)=>some (v, [],ids,nxt) | none=>none)=_ at h
   show (match q20 agg n p H' with | some (v,ids)=>some (v, [],ids,nxt) | none=>none)=_
   split at h
   ·rename_i hl
    obtain ⟨_,_,h3,_⟩:=(by simpa using h:_/\_/\_=ids/\_)
    subst h3
    rw [qcd hl ha]; exact h
   ·simp at h
 | loadN=>
  match vs,h with
  | [some (.c p)],h=>
   change (match q20 false 1 p H with | some (v,ids)=>some (v, [],ids,nxt) | none=>q3o false 1 p H nxt)=_ at h
   show (match q20 false 1 p H' with | some (v,ids)=>some (v, [],ids,nxt) | none=>q3o false 1 p H' nxt)=_
   split at h
   ·rename_i hl
    obtain ⟨_,_,h3,_⟩:=(by simpa using h:_/\_/\_=ids/\_)
    subst h3
    rw [qcd hl ha]; exact h
   ·obtain ⟨h1,h2⟩:=qhx h ha
    rw [h1]; exact h2
 | store n=>
  match vs,h with
  | [some (.c p),some x],h=>
   change (match q44 n p x H with | some (u,ids)=>some (TV.tup [],u,ids,nxt) | none=>none)=_ at h
   show (match q44 n p x H' with | some (u,ids)=>some (TV.tup [],u,ids,nxt) | none=>none)=_
   split at h
   ·rename_i hl
    obtain ⟨_,_,h3,_⟩:=(by simpa using h:_/\_/\_=ids/\_)
    subst h3
    rw [qh9 hl ha]; exact h
   ·simp at h
 | buildSlice sz len zero places=>exact qa5 h ha
 | clear z=>
  match vs,h with
  | [some (.c d)],h=>
   change (match q64 z d H with | some (u,ids)=>some (TV.tup [],u,ids,nxt) | none=>none)=_ at h
   show (match q64 z d H' with | some (u,ids)=>some (TV.tup [],u,ids,nxt) | none=>none)=_
   split at h
   ·rename_i hl
    obtain ⟨_,_,h3,_⟩:=(by simpa using h:_/\_/\_=ids/\_)
    subst h3
    rw [qgc hl ha]; exact h
   ·simp at h
 | slice str sz lo hi=>
  have same:hi=false->ev1 call (.slice str sz lo hi) vs H nxt=ev1 call (.slice str sz lo hi) vs H' nxt:=by
   intro hlh
   cases lo <;> cases hi <;> first
    | (simp at hlh; done)
    | (match vs with
     | []=>rfl
     | none :: _=>rfl
     | some (.agg _) :: _=>rfl
     | some (.tup _) :: _=>rfl
     | some (.c _) :: []=>rfl
     | some (.c _) :: _ :: []=>rfl
     | some (.c _) :: _ :: _ :: _=>rfl)
  cases hi with
  | false=>rw [<- same rfl]; exact h
  | true=>
   cases lo with
   | false=>
    match vs,h with
    | [some (.c x),m],h=>
     change (match intOf? m with
      | some m=>(match q13 str sz x none (some m)with
       | some y=>some (TV.c y,([]:Upd),([]:List Nat),nxt)
       | none=>(match q5s str sz x 0 m H with | some (y,ids)=>some (TV.c y,([]:Upd),ids,nxt) | none=>none))
      | none=>none)=_ at h
     show (match intOf? m with
      | some m=>(match q13 str sz x none (some m)with
       | some y=>some (TV.c y,([]:Upd),([]:List Nat),nxt)
       | none=>(match q5s str sz x 0 m H' with | some (y,ids)=>some (TV.c y,([]:Upd),ids,nxt) | none=>none))
      | none=>none)=_
     split at h
     ·split at h
      ·exact h
      ·split at h
       ·rename_i hl
        obtain ⟨_,_,h3,_⟩:=(by simpa using h:_/\_/\_=ids/\_)
        subst h3
        rw [qcv hl ha]; exact h
       ·simp at h
     ·simp at h
   | true=>
    match vs,h with
    | [some (.c x),l,m],h=>
     change (match intOf? l,intOf? m with
      | some l,some m=>(match q13 str sz x (some l) (some m)with
       | some y=>some (TV.c y,([]:Upd),([]:List Nat),nxt)
       | none=>(match q5s str sz x l m H with | some (y,ids)=>some (TV.c y,([]:Upd),ids,nxt) | none=>none))
      | _,_=>none)=_ at h
     show (match intOf? l,intOf? m with
      | some l,some m=>(match q13 str sz x (some l) (some m)with
       | some y=>some (TV.c y,([]:Upd),([]:List Nat),nxt)
       | none=>(match q5s str sz x l m H' with | some (y,ids)=>some (TV.c y,([]:Upd),ids,nxt) | none=>none))
      | _,_=>none)=_
     split at h
     ·split at h
      ·exact h
      ·split at h
       ·rename_i hl
        obtain ⟨_,_,h3,_⟩:=(by simpa using h:_/\_/\_=ids/\_)
        subst h3
        rw [qcv hl ha]; exact h
       ·simp at h
     ·simp at h
 | append sz=>
  match vs,h with
  | [some (.c s),some (.c x)],h=>exact qfd (s:=s) (x:=x) h ha
 | copy sz=>
  match vs,h with
  | [some (.c d),some (.c x)],h=>
   change (match q4z sz d x H with | some (i,u,ids)=>some (lv (.int .i64 i),u,ids,nxt) | none=>(match q6g sz d x H with | some (i,u,ids)=>some (lv (.int .i64 i),u,ids,nxt) | none=>none))=_ at h
   show (match q4z sz d x H' with | some (i,u,ids)=>some (lv (.int .i64 i),u,ids,nxt) | none=>(match q6g sz d x H' with | some (i,u,ids)=>some (lv (.int .i64 i),u,ids,nxt) | none=>none))=_
   split at h
   ·rename_i hl
    obtain ⟨_,_,h3,_⟩:=(by simpa using h:_/\_/\_=ids/\_)
    subst h3
    rw [qla hl ha]; exact h
   ·split at h
    ·rename_i hl
     obtain ⟨_,_,h3,_⟩:=(by simpa using h:_/\_/\_=ids/\_)
     subst h3
     obtain ⟨e1,e2⟩:=qhl hl ha
     rw [e2,e1]; exact h
    ·simp at h
 | capK=>
  match vs,h with
  | [some (.c x)],h=>
   change (match evCap x H with | some (n,ids)=>some (lv (.int .i64 n),([]:Upd),ids,nxt) | none=>none)=_ at h
   show (match evCap x H' with | some (n,ids)=>some (lv (.int .i64 n),([]:Upd),ids,nxt) | none=>none)=_
   split at h
   ·rename_i m ids1 hl
    obtain ⟨_,_,h3,_⟩:=(by simpa using h:_/\_/\_=ids/\_)
    subst h3
    have:evCap x H'=some (m,ids1):=by
     unfold evCap at hl ⊢
     split at hl
     ·rename_i id off len
      have hid:id∈ids1:=by
       repeat' split at hl
       all_goals first
        | (simp at hl; done)
        | (obtain ⟨_,h2⟩:=(by simpa using hl:_/\ [id]=ids1); rw [<- h2]; simp)
      simp only [ha id hid]; exact hl
     ·simp at hl
    rw [this]; exact h
   ·simp at h
 | ovl=>
  match vs,h with
  | [some (.c x),some (.c y)],h=>
   change (match evOvl x y H with | some ids=>some (lv (.bool false),([]:Upd),ids,nxt) | none=>none)=_ at h
   show (match evOvl x y H' with | some ids=>some (lv (.bool false),([]:Upd),ids,nxt) | none=>none)=_
   split at h
   ·rename_i ids1 hl
    obtain ⟨_,_,h3,_⟩:=(by simpa using h:_/\_/\_=ids/\_)
    subst h3
    have:evOvl x y H'=some ids1:=by
     unfold evOvl at hl ⊢
     split at hl
     ·rename_i a o1 l1 sz2 b o2 l2
      have hid:ids1= [a,b]:=by
       repeat' split at hl
       all_goals first
        | (simp at hl; done)
        | (exact (Option.some.inj hl).symm)
      subst hid
      simp only [ha a (by simp),ha b (by simp)]; exact hl
     ·simp at hl
    rw [this]; exact h
   ·simp at h
 | apm z=>
  match vs,h with
  | [some (.c x),some (.c (.d (.lit (.int k1 k))))],h=>
   change evApm z x k H nxt=_ at h
   show evApm z x k H' nxt=_
   unfold evApm at h ⊢
   split at h
   ·rename_i sz' id off len
    have hid:id∈ids:=by
     repeat' split at h
     all_goals first
      | (simp at h; done)
      | (obtain ⟨_,_,h2,_⟩:=(by simpa using h:_/\_/\ [id]=ids/\_); rw [<- h2]; simp)
    simp only [ha id hid]; exact h
   ·simp at h
 | call ro muts=>
  match vs,h with
  | f :: vs,h=>exact qk3 (f:=f) (vs:=vs) h ha
 | lookup ka ks va z ok=>
  match vs,h with
  | [some (.c m),some k],h=>
   change (match q1u ka ks va z ok m k H with | some (v,ids)=>some (v,([]:Upd),ids,nxt) | none=>none)=_ at h
   show (match q1u ka ks va z ok m k H' with | some (v,ids)=>some (v,([]:Upd),ids,nxt) | none=>none)=_
   split at h
   ·rename_i hl
    obtain ⟨_,_,h3,_⟩:=(by simpa using h:_/\_/\_=ids/\_)
    subst h3
    rw [qfp hl ha]; exact h
   ·simp at h
 | mapEntry ka ks va z=>
  match vs,h with
  | [some (.c m),some k],h=>
   change (match q4s ka ks va z m k H with | some (v,u,ids)=>some (v,u,ids,nxt) | none=>none)=_ at h
   show (match q4s ka ks va z m k H' with | some (v,u,ids)=>some (v,u,ids,nxt) | none=>none)=_
   split at h
   ·rename_i hl
    obtain ⟨_,_,h3,_⟩:=(by simpa using h:_/\_/\_=ids/\_)
    subst h3
    rw [qgj hl ha]; exact h
   ·simp at h
 | entryStore va n=>
  match vs,h with
  | [some (.c m),s,some x],h=>
   change (match q4a va n m s x H with | some (u,ids)=>some (TV.tup [],u,ids,nxt) | none=>none)=_ at h
   show (match q4a va n m s x H' with | some (u,ids)=>some (TV.tup [],u,ids,nxt) | none=>none)=_
   split at h
   ·rename_i hl
    obtain ⟨_,_,h3,_⟩:=(by simpa using h:_/\_/\_=ids/\_)
    subst h3
    rw [qf8 hl ha]; exact h
   ·simp at h
 | _=>rw [qn4 (H:=H') (H':=H) rfl]; exact h
end
end Go.Ev
