/- Comparisons of plain cells, and maps: the model's operations against the abstract machine's. Conditions: the relation of XEvC. -/
import Derived.Test.YthcplpfiidlinaaEvL
import Derived.ChangeKeysEq
import Derived.WideKeyRuns
namespace Go.Ev
section
variable {P:Program}{S K:Nat->Prop}{w0 w:World}{Kn:Nat->Prop}{φ:Nat->Loc}{H:Heap}{e:Env}{ρ:Operand->Value}{o:Oper}{call:Call}
 {nxt n':Nat} {v:TV} {u:Upd} {ids:List Nat}
def mkV(ag:Bool)(xs:List Value):Value:=if ag then .agg xs.toArray else xs.headD undef
theorem qcx:∀(d:Nat) (t:TypeId) (ks:List Kd),tyK P d t=some ks->szOf P t=some ks.length/\∃ag,aggOf P t=some ag/\(ag=false->ks.length=1):=by
 intro d t ks h
 cases d with
 | zero=>simp [tyK]at h
 | succ d=>
  unfold tyK at h
  split at h
  ·rename_i hu
   split at h
   ·rename_i hs; obtain rfl:=Option.some.inj h; exact ⟨hs,false,by simp [aggOf,hu],λ_=>rfl⟩
   ·simp at h
  ·rename_i hu
   split at h
   ·rename_i hs; obtain rfl:=Option.some.inj h; exact ⟨hs,false,by simp [aggOf,hu],λ_=>rfl⟩
   ·simp at h
  ·rename_i hu
   split at h
   ·rename_i hs; obtain rfl:=Option.some.inj h; exact ⟨hs,false,by simp [aggOf,hu],λ_=>rfl⟩
   ·simp at h
  ·rename_i n el hu
   split at h
   ·split at h
    ·rename_i ks1 _ hs
     obtain rfl:=Option.some.inj h
     refine ⟨?_,true,by simp [aggOf,hu],λh=>by simp at h⟩
     rw [hs.2]; simp [List.length_flatten]
    ·simp at h
   ·simp at h
  ·rename_i fs hu
   split at h
   ·split at h
    ·rename_i hs
     obtain rfl:=Option.some.inj h
     exact ⟨hs.2,true,by simp [aggOf,hu],λh=>by simp at h⟩
    ·simp at h
   ·simp at h
  ·simp at h
theorem qk0{t:TypeId}{n:Nat}(h:szOf P t=some n):P.cellsOf t=n:=by
 simp only [szOf]at h
 simp [Program.cellsOf,h]
theorem quy{t:TypeId}{n:Nat}(h:szOf P t=some n):∃i,P.info? t=some i:=by
 simp only [szOf,Option.map_eq_some_iff]at h
 obtain ⟨i,hi,_⟩:=h
 exact ⟨i,hi⟩
theorem q5r{t:TypeId}{n:Nat}{ag:Bool}(hn:szOf P t=some n)(ha:aggOf P t=some ag)(h1:ag=false->n=1){xs:List Value}{off:Nat}(hfit:off+n<=xs.length)(w:World):
  (part t xs.toArray off).run P w= .ok (mkV ag ((xs.drop off).take n)) w:=by
 cases ag with
 | true=>
  simp only [part,Sem.run_bind,q95 ha,Result.andThen_ok,if_true,q21 hn,Sem.run_pure,mkV]
  congr 2
  apply Array.ext'
  simp [List.extract_eq_take_drop]
 | false=>
  obtain rfl:=h1 rfl
  have hlt:off < xs.length:=by omega
  have e1:(xs.drop off).take 1= [xs[off]]:=by rw [List.drop_eq_getElem_cons hlt]; rfl
  simp only [part,Sem.run_bind,q95 ha,Result.andThen_ok,Bool.false_eq_true,if_false,mkV,e1,List.headD_cons]
  have:xs.toArray[off]? =some xs[off]:=by simp [hlt]
  rw [this]; rfl
theorem q34:∀ {ks:List Kd} {xs ys:List Value} {b:Bool},eqVs ks xs ys=some b->xs.length=ks.length/\ys.length=ks.length:=by
 intro ks
 induction ks with
 | nil=>intro xs ys b h; cases xs <;> cases ys <;> simp_all [eqVs]
 | cons k ks ih=>
  intro xs ys b h
  cases xs with
  | nil=>simp [eqVs]at h
  | cons x xs=>
   cases ys with
   | nil=>simp [eqVs]at h
   | cons y ys=>
    simp only [eqVs]at h
    split at h
    ·rename_i a c ha hc
     obtain ⟨h1,h2⟩:=ih hc
     exact ⟨by simp [h1],by simp [h2]⟩
    ·simp at h
theorem qj7:∀ {ks ls:List Kd} {xs ys:List Value} {b:Bool},eqVs (ks++ls) xs ys=some b->
  ∃b1 b2,eqVs ks (xs.take ks.length) (ys.take ks.length)=some b1/\eqVs ls (xs.drop ks.length) (ys.drop ks.length)=some b2/\b=(b1 && b2):=by
 intro ks
 induction ks with
 | nil=>intro ls xs ys b h; exact ⟨true,b,by simp [eqVs],by simpa using h,by simp⟩
 | cons k ks ih=>
  intro ls xs ys b h
  cases xs with
  | nil=>simp [eqVs]at h
  | cons x xs=>
   cases ys with
   | nil=>simp [eqVs]at h
   | cons y ys=>
    simp only [List.cons_append,eqVs]at h
    split at h
    ·rename_i a c ha hc
     obtain rfl:=Option.some.inj h
     obtain ⟨b1,b2,h1,h2,rfl⟩:=ih hc
     exact ⟨a && b1,b2,by simp [eqVs,ha,h1],by simpa using h2,by rw [Bool.and_assoc]⟩
    ·simp at h
theorem qru{a b:ByteArray}(h:(a == b)=true):a=b:=by
 obtain ⟨x⟩:=a
 obtain ⟨y⟩:=b
 have e:x=y:=by simpa using (show (x == y)=true from h)
 rw [e]
theorem qvq{k:Kd}{x y:Value}(h:eqK k x y=some true):x=y:=by
 unfold eqK at h
 split at h
 ·split at h
  ·rename_i hk
   obtain ⟨rfl,rfl⟩:=hk
   obtain rfl:_=_:=by simpa using h
   rfl
  ·simp at h
 ·obtain rfl:_=_:=by simpa using h
  rfl
 ·have:=qru (Option.some.inj h)
  rw [this]
 ·simp at h
theorem qts:∀ {ks:List Kd} {xs ys:List Value},eqVs ks xs ys=some true->xs=ys:=by
 intro ks
 induction ks with
 | nil=>intro xs ys h; cases xs <;> cases ys <;> simp_all [eqVs]
 | cons k ks ih=>
  intro xs ys h
  cases xs with
  | nil=>simp [eqVs]at h
  | cons x xs=>
   cases ys with
   | nil=>simp [eqVs]at h
   | cons y ys=>
    simp only [eqVs]at h
    split at h
    ·rename_i a c ha hc
     have h2:=Option.some.inj h
     rw [Bool.and_eq_true]at h2
     obtain ⟨rfl,rfl⟩:=h2
     rw [qvq ha,ih hc]
    ·simp at h
def EqAt(P:Program)(D:Nat)(t:TypeId)(ks:List Kd)(ag:Bool):Prop:=
 ∀(xs ys:List Value) (b:Bool) (w:World),eqVs ks xs ys=some b->(Op.equalIn D t (mkV ag xs) (mkV ag ys)).run P w= .ok b w
theorem qe1{D d:Nat}(w:World)(ih:∀(t:TypeId) (ks:List Kd),tyK P d t=some ks->∀ag,aggOf P t=some ag->EqAt P D t ks ag)(xs ys:List Value):
  ∀(fs:List Field) (off:Nat) (ks:List Kd) (b:Bool),tyF P (tyK P d) fs off=some ks->off<=xs.length->off<=ys.length->eqVs ks (xs.drop off) (ys.drop off)=some b->(Op.eqFields D xs.toArray ys.toArray fs).run P w= .ok b w:=by
 intro fs
 induction fs with
 | nil=>
  intro off ks b h _ _ he
  obtain rfl: []=ks:=by simpa [tyF]using h
  obtain ⟨h1,h2⟩:=q34 he
  rw [List.length_eq_zero_iff.1 h1,List.length_eq_zero_iff.1 h2]at he
  obtain rfl:true=b:=by simpa [eqVs]using he
  simp [Op.eqFields]
 | cons f fs ihf=>
  intro off ks b h o1 o2 he
  simp only [tyF]at h
  split at h
  ·rename_i hc
   obtain ⟨hoff,hname⟩:=hc
   split at h
   ·rename_i k1 hk1
    split at h
    ·rename_i hsz
     split at h
     ·rename_i l hl
      obtain rfl:=Option.some.inj h
      obtain ⟨_,ag,hag,hone⟩:=qcx d f.type k1 hk1
      obtain ⟨l1,l2⟩:=q34 he
      rw [List.length_drop,List.length_append]at l1 l2
      obtain ⟨b1,b2,h1,h2,rfl⟩:=qj7 he
      have hfit1:f.offset+k1.length<=xs.length:=by omega
      have hfit2:f.offset+k1.length<=ys.length:=by omega
      have p1:=q5r (w:=w) hsz hag hone hfit1
      have p2:=q5r (w:=w) hsz hag hone hfit2
      rw [hoff]at p1 p2
      have p3:=ih f.type k1 hk1 ag hag _ _ b1 w h1
      rw [List.drop_drop]at h2
      have p4:=ihf (off+k1.length) l b2 hl (by omega) (by omega) (by simpa [List.drop_drop,Nat.add_comm]using h2)
      simp only [Op.eqFields,hname,ne_eq,not_false_eq_true,if_true,Sem.run_bind,hoff,p1,p2,p3,Result.andThen_ok]
      cases b1
      ·simp
      ·simpa using p4
     ·simp at h
    ·simp at h
   ·simp at h
  ·simp at h
theorem qfz{D:Nat}{t:TypeId}{ks:List Kd}{ag:Bool}(w:World)(hn:szOf P t=some ks.length)(ha:aggOf P t=some ag)(h1:ag=false->ks.length=1)(ih:EqAt P D t ks ag)(xs ys:List Value):
  ∀(n i:Nat) (b:Bool),i * ks.length<=xs.length->i * ks.length<=ys.length->eqVs (List.replicate n ks).flatten (xs.drop (i * ks.length)) (ys.drop (i * ks.length))=some b->
   (Op.eqItems D t ks.length xs.toArray ys.toArray (List.range' i n)).run P w= .ok b w:=by
 intro n
 induction n with
 | zero=>
  intro i b _ _ he
  obtain ⟨h1,h2⟩:=q34 he
  rw [List.length_eq_zero_iff.1 h1,List.length_eq_zero_iff.1 h2]at he
  obtain rfl:true=b:=by simpa [eqVs]using he
  simp [Op.eqItems]
 | succ n ihn=>
  intro i b o1 o2 he
  rw [List.replicate_succ,List.flatten_cons]at he
  obtain ⟨l1,l2⟩:=q34 he
  rw [List.length_drop,List.length_append]at l1 l2
  obtain ⟨b1,b2,q1,q2,rfl⟩:=qj7 he
  have e1:(i+1) * ks.length=i * ks.length+ks.length:=Nat.succ_mul ..
  have p1:=q5r (w:=w) hn ha h1 (xs:=xs) (off:=i * ks.length) (by omega)
  have p2:=q5r (w:=w) hn ha h1 (xs:=ys) (off:=i * ks.length) (by omega)
  have p3:=ih _ _ b1 w q1
  rw [List.drop_drop,List.drop_drop,<- e1]at q2
  have p4:=ihn (i+1) b2 (by omega) (by omega) q2
  rw [List.range'_succ]
  simp only [Op.eqItems,Sem.run_bind,p1,p2,p3,Result.andThen_ok]
  cases b1
  ·simp
  ·simpa using p4
theorem qou(k:Nat):∀(d:Nat) (t:TypeId) (ks:List Kd),tyK P d t=some ks->∀ag,aggOf P t=some ag->EqAt P (d+k) t ks ag:=by
 intro d
 induction d with
 | zero=>intro t ks h; simp [tyK]at h
 | succ d ih=>
  intro t ks h ag hag xs ys b w he
  rw [show d+1+k=(d+k)+1 by omega]
  have one:∀ {q:Kd},P.underlying t≠none->ks= [q]->ag=false->∃x y,xs= [x]/\ys= [y]/\eqK q x y=some b:=by
   rintro q _ rfl _
   obtain ⟨l1,l2⟩:=q34 he
   obtain ⟨x,rfl⟩:=List.length_eq_one_iff.1 l1
   obtain ⟨y,rfl⟩:=List.length_eq_one_iff.1 l2
   refine ⟨x,y,rfl,rfl, ?_⟩
   simp only [eqVs]at he
   split at he
   ·rename_i a c ha hc
    obtain rfl:=Option.some.inj hc
    rw [ha]; simpa using he
   ·simp at he
  unfold tyK at h
  split at h
  ·rename_i hu
   have hg:ag=false:=by simpa [aggOf,hu]using hag.symm
   split at h
   ·obtain ⟨x,y,rfl,rfl,hk⟩:=one (q:= .b) (by simp [hu]) (Option.some.inj h).symm hg
    subst hg
    simp only [mkV,Bool.false_eq_true,if_false,List.headD_cons]
    unfold eqK at hk
    split at hk <;> first | (simp_all; done) | skip
    obtain rfl:=Option.some.inj hk
    exact run_equalIn_bool w _ _ _ _ hu
   ·simp at h
  ·rename_i q0 hu
   have hg:ag=false:=by simpa [aggOf,hu]using hag.symm
   split at h
   ·obtain ⟨x,y,rfl,rfl,hk⟩:=one (q:= .i q0) (by simp [hu]) (Option.some.inj h).symm hg
    subst hg
    simp only [mkV,Bool.false_eq_true,if_false,List.headD_cons]
    unfold eqK at hk
    split at hk <;> first | (simp_all; done) | skip
    split at hk
    ·rename_i hkk
     obtain ⟨rfl,rfl⟩:=hkk
     obtain rfl:=Option.some.inj hk
     exact run_equalIn_int w _ _ _ _ _ _ hu
    ·simp at hk
   ·simp at h
  ·rename_i hu
   have hg:ag=false:=by simpa [aggOf,hu]using hag.symm
   split at h
   ·obtain ⟨x,y,rfl,rfl,hk⟩:=one (q:= .s) (by simp [hu]) (Option.some.inj h).symm hg
    subst hg
    simp only [mkV,Bool.false_eq_true,if_false,List.headD_cons]
    unfold eqK at hk
    split at hk <;> first | (simp_all; done) | skip
    obtain rfl:=Option.some.inj hk
    rw [beq_toListBytes]
    exact run_equalIn_string w _ _ _ _ hu
   ·simp at h
  ·rename_i n el hu
   have hg:ag=true:=by simpa [aggOf,hu]using hag.symm
   subst hg
   split at h
   ·split at h
    ·rename_i k1 hk1 hs
     obtain rfl:=Option.some.inj h
     obtain ⟨_,ag1,hag1,hone⟩:=qcx d el k1 hk1
     obtain ⟨i,hi⟩:=quy hs.1
     simp only [mkV,if_true]
     rw [run_equalIn_array w _ _ _ hu hi,qk0 hs.1,List.range_eq_range']
     exact qfz w hs.1 hag1 hone (ih el k1 hk1 ag1 hag1) xs ys n 0 b (by simp) (by simp) (by simpa using he)
    ·simp at h
   ·simp at h
  ·rename_i fs hu
   have hg:ag=true:=by simpa [aggOf,hu]using hag.symm
   subst hg
   split at h
   ·split at h
    ·rename_i k1 hk1 hs
     obtain rfl:=Option.some.inj h
     simp only [mkV,if_true]
     have hf:P.fieldsOf t=fs:=by simp [Program.fieldsOf,hu]
     rw [run_equalIn_struct w _ _ _ _ (by rw [hf]; exact hu) hs.1,hf]
     exact qe1 w (λt ks h ag hag=>ih t ks h ag hag) xs ys fs.toList 0 _ b hk1 (Nat.zero_le _) (Nat.zero_le _) (by simpa using he)
    ·simp at h
   ·simp at h
  ·simp at h
def qul(P:Program)(em:Bool)(D:Nat)(t:TypeId)(n:Nat)(ag:Bool):Prop:=∀(xs:List Value) (w:World),xs.length=n->(Instr.checkKey em D t (mkV ag xs)).run P w= .ok () w
theorem q9h(em:Bool)(k:Nat):∀(d:Nat) (t:TypeId) (ks:List Kd),tyK P d t=some ks->∀ag,aggOf P t=some ag->qul P em (d+k) t ks.length ag:=by
 intro d
 induction d with
 | zero=>intro t ks h; simp [tyK]at h
 | succ d ih=>
  intro t ks h ag hag xs w hl
  rw [show d+1+k=(d+k)+1 by omega]
  unfold tyK at h
  rw [Instr.checkKey]
  split at h
  ·rename_i hu
   simp only [Sem.run_bind,q0a hu,Result.andThen_ok]; rfl
  ·rename_i q0 hu
   simp only [Sem.run_bind,q0a hu,Result.andThen_ok]; rfl
  ·rename_i hu
   simp only [Sem.run_bind,q0a hu,Result.andThen_ok]; rfl
  ·rename_i n el hu
   have hg:ag=true:=by simpa [aggOf,hu]using hag.symm
   subst hg
   split at h
   ·split at h
    ·rename_i k1 hk1 hs
     obtain rfl:=Option.some.inj h
     obtain ⟨_,ag1,hag1,hone⟩:=qcx d el k1 hk1
     have hl2:xs.length=n * k1.length:=by rw [hl]; simp [List.length_flatten]
     simp only [mkV,if_true,Sem.run_bind,q0a hu,Result.andThen_ok]
     simp only [Std.Legacy.Range.forIn_eq_forIn_range',Std.Legacy.Range.size,Nat.sub_zero,Nat.add_one_sub_one,Nat.div_one]
     have each:∀i∈List.range' 0 n,i * k1.length+k1.length<=xs.length:=λi hi=>by
      have hi':i < n:=by simpa using hi
      rw [hl2,<- Nat.succ_mul]; exact Nat.mul_le_mul_right _ hi'
     generalize List.range' 0 n=is at each
     induction is with
     | nil=>simp
     | cons j is ihj=>
      have p1:=q5r (w:=w) hs.1 hag1 hone (xs:=xs) (off:=j * k1.length) (each j (by simp))
      have p2:=ih el k1 hk1 ag1 hag1 ((xs.drop (j * k1.length)).take k1.length) w (by rw [List.length_take,List.length_drop]; have:=each j (by simp); omega)
      simp only [List.forIn_cons,Sem.run_bind,q21 hs.1,Result.andThen_ok,p1,p2,Sem.run_pure]
      exact ihj (λy hy=>each y (by simp [hy]))
    ·simp at h
   ·simp at h
  ·rename_i fs hu
   have hg:ag=true:=by simpa [aggOf,hu]using hag.symm
   subst hg
   split at h
   ·split at h
    ·rename_i k1 hk1 hs
     obtain rfl:=Option.some.inj h
     simp only [mkV,if_true,Sem.run_bind,q0a hu,Result.andThen_ok]
     rw [<- Array.forIn_toList]
     have main:∀(L:List Field) (off:Nat) (l:List Kd),tyF P (tyK P d) L off=some l->off+l.length=xs.length->
       (forIn L PUnit.unit (fun f r => if f.name ≠ "_" then do Instr.checkKey em (d + k) f.type (← part f.type xs.toArray f.offset); pure (ForInStep.yield PUnit.unit) else pure (ForInStep.yield PUnit.unit)) : Sem PUnit).run P w = .ok PUnit.unit w := by
      intro L
      induction L with
      | nil=>intro off l _ _; simp
      | cons f L ihL=>
       intro off l h ho
       simp only [tyF]at h
       split at h
       ·rename_i hc
        obtain ⟨hoff,hname⟩:=hc
        split at h
        ·rename_i k1 hk1
         split at h
         ·rename_i hsz
          split at h
          ·rename_i l1 hl1
           obtain rfl:=Option.some.inj h
           rw [List.length_append]at ho
           obtain ⟨_,ag1,hag1,hone⟩:=qcx d f.type k1 hk1
           have p1:=q5r (w:=w) hsz hag1 hone (xs:=xs) (off:=f.offset) (by omega)
           have p2:=ih f.type k1 hk1 ag1 hag1 ((xs.drop f.offset).take k1.length) w (by rw [List.length_take,List.length_drop]; omega)
           simp only [List.forIn_cons,Sem.run_bind,hname,ne_eq,not_false_eq_true,if_true,Result.andThen_ok,p1,p2,Sem.run_pure]
           exact ihL (off+k1.length) l1 hl1 (by omega)
          ·simp at h
         ·simp at h
        ·simp at h
       ·simp at h
     rw [main fs.toList 0 _ hk1 (by omega)]; rfl
    ·simp at h
   ·simp at h
  ·simp at h
theorem q8i:∀ {cs:List C} {l:List Value},q47 cs=some l->cs=lits l:=by
 intro cs
 induction cs with
 | nil=>
  intro l h
  obtain rfl: []=l:=by simpa [q47]using h
  rfl
 | cons c cs ih=>
  intro l h
  unfold q47 at h
  split at h
  ·simp_all
  ·rename_i v0 r0 he
   obtain ⟨rfl,rfl⟩:=List.cons.inj he
   split at h
   ·rename_i l1 hl
    obtain rfl:=Option.some.inj h
    rw [ih hl]; rfl
   ·simp at h
  ·simp at h
theorem qef{l:List Value}{arr:Array Value}(hlen:(lits l).length=arr.size)(h:∀(i:Nat) (x:C),(lits l)[i]? =some x->RC S w Kn φ x (arr.getD i undef)):
  arr=l.toArray/\∀x∈l,plain x=true:=by
 have key:∀(i:Nat) (x:Value),l[i]? =some x->arr.getD i undef=x/\plain x=true:=by
  intro i x hi
  have:=h i (.d (.lit x)) (by simp [lits,hi])
  cases this with
  | d hd=>
   generalize hv:arr.getD i undef=v0 at hd
   cases hd with
   | lit hp=>exact ⟨rfl,hp⟩
 constructor
 ·apply Array.ext
  ·simpa [lits]using hlen.symm
  ·intro i h1 h2
   have h3:i < l.length:=by simpa using h2
   have:=(key i l[i] (by simp [h3])).1
   simp only [Array.getD,h1,dite_true]at this
   simpa using this
 ·intro x hx
  obtain ⟨i,hi,rfl⟩:=List.getElem_of_mem hx
  exact (key i _ (by simp [hi])).2
theorem qal{cs:List C}{ks:List Kd}{key:List Value}(h:(match q47 cs with | some l=>if kOk ks l=true then some l else none | none=>none)=some key):q47 cs=some key/\kOk ks key=true:=by
 split at h
 ·rename_i l hl
  split at h
  ·rename_i hk
   obtain rfl:=Option.some.inj h
   exact ⟨hl,hk⟩
  ·simp at h
 ·simp at h
theorem q8e{ka:Bool}{ks:List Kd}{k:TV}{key:List Value}{val:Value}(h:keyTV ka ks k=some key)(hr:RTV S w Kn φ k val):val=mkV ka key/\key.length=ks.length/\RKey ka key val:=by
 cases k with
 | agg cs=>
  simp only [keyTV]at h
  split at h
  ·rename_i hc
   obtain ⟨rfl,hcl⟩:=hc
   obtain rfl:=q8i (qal h).1
   cases hr with
   | agg hlen hr=>
    obtain ⟨rfl,hp⟩:=qef hlen hr
    exact ⟨by simp [mkV],by simpa [lits]using hcl,hp,by simp⟩
  ·simp at h
 | c x=>
  simp only [keyTV]at h
  split at h
  ·rename_i hc
   obtain ⟨rfl,hcl⟩:=hc
   have:=q8i (qal h).1
   cases key with
   | nil=>simp [lits]at this
   | cons y r=>
    cases r with
    | nil=>
     obtain rfl:x= .d (.lit y):=by simpa [lits]using this
     obtain ⟨rfl,hp⟩:=hr.lit
     exact ⟨by simp [mkV],by simp [hcl],by simpa using hp,by simp⟩
    | cons z r=>simp [lits]at this
  ·simp at h
 | tup xs=>simp [keyTV]at h
theorem RKey.mkV{ka:Bool}{k:List Value}{v:Value}(h:RKey ka k v):v=Ev.mkV ka k:=by
 obtain ⟨_,h⟩:=h
 cases ka with
 | true=>simpa [Ev.mkV]using h
 | false=>simp only [Bool.false_eq_true,if_false]at h; rw [h]; simp [Ev.mkV]
def Ents(S:Nat->Prop)(w:World)(ka va:Bool)(es:List MEnt)(ms:List MapEntry):Prop:=
 es.length=ms.length/\∀(i:Nat) (e:MEnt) (m:MapEntry),es[i]? =some e->ms[i]? =some m->RKey ka e.1 m.key/\RVal S w va e.2.1 m.val/\m.born=e.2.2
theorem Ents.tail{ka va:Bool}{e:MEnt}{es:List MEnt}{m:MapEntry}{ms:List MapEntry}(h:Ents S w ka va (e :: es) (m :: ms)):Ents S w ka va es ms:=
 ⟨by simpa using h.1,λi e m hi hm=>h.2 (i+1) e m (by simpa using hi) (by simpa using hm)⟩
theorem qkk{t:TypeId}{ks:List Kd}{ka va:Bool}{key:List Value}(hk:tyK P 8 t=some ks)(hag:aggOf P t=some ka):∀(es:List MEnt) (ms:List MapEntry) (i:Nat) (r:Option Nat),
  Ents S w ka va es ms->findE ks key es i=some r->
   (Instr.findAsking t (mkV ka key) ms i).run P w= .ok (r.map λj=>(j,(ms.getD (j - i) default).val)) w/\
   (ka=false->∀d,P.underlying t=some d->Instr.findNow d (mkV ka key) ms i=some (r.map λj=>(j,(ms.getD (j - i) default).val)))/\
   ∀j,r=some j->i<=j/\j - i < ms.length/\key=(es.getD (j - i) default).1:=by
 intro es
 induction es with
 | nil=>
  intro ms i r hE h
  obtain rfl:none=r:=by simpa [findE]using h
  obtain rfl:ms= []:=List.length_eq_zero_iff.1 hE.1.symm
  exact ⟨by simp [Instr.findAsking],λ_ _ _=>rfl,λj hj=>by simp at hj⟩
 | cons e es ih=>
  intro ms i r hE h
  cases ms with
  | nil=>exact absurd hE.1 (by simp)
  | cons m ms=>
   obtain ⟨h1,_,_⟩:=hE.2 0 e m rfl rfl
   have hmk:=h1.mkV
   simp only [findE]at h
   have heq:∀b,eqVs ks key e.1=some b->(Op.equal t (mkV ka key) m.key).run P w= .ok b w:=λb hb=>by
    rw [hmk,q7k]; exact qou 9992 8 t ks hk ka hag key e.1 b w hb
   have hnow:∀b,eqVs ks key e.1=some b->ka=false->∀d,P.underlying t=some d->Instr.sameNow d (mkV ka key) m.key=some b:=by
    intro b hb hka d hd
    rw [hmk]; subst hka
    obtain ⟨_,ag,hag',hone⟩:=qcx 8 t ks hk
    obtain rfl:false=ag:=Option.some.inj (hag.symm.trans hag')
    obtain ⟨l1,l2⟩:=q34 hb
    obtain ⟨q,rfl⟩:=List.length_eq_one_iff.1 (hone rfl)
    obtain ⟨x,rfl⟩:=List.length_eq_one_iff.1 l1
    obtain ⟨y,hy⟩:=List.length_eq_one_iff.1 l2
    rw [hy]at hb ⊢
    have hb':eqK q x y=some b:=by
     simp only [eqVs]at hb
     split at hb
     ·rename_i a c ha hc
      obtain rfl:=Option.some.inj hc
      rw [ha]; simpa using hb
     ·simp at hb
    simp only [mkV,Bool.false_eq_true,if_false,List.headD_cons]
    unfold tyK at hk
    rw [hd]at hk
    unfold eqK at hb'
    simp only [aggOf,hd,Option.map_some,Option.some.injEq]at hag
    cases d <;> simp at hk hag
    all_goals
     obtain ⟨_,hq⟩:=hk
     subst hq
     split at hb' <;> simp_all [Instr.sameNow]
   split at h
   ·rename_i hb
    obtain rfl:=Option.some.inj h
    refine ⟨by simp [Instr.findAsking,heq true hb],λhka d hd=>by simp [Instr.findNow,hnow true hb hka d hd],λj hj=> ?_⟩
    obtain rfl:i=j:=Option.some.inj hj
    exact ⟨Nat.le_refl _,by simp,by simpa using qts hb⟩
   ·rename_i hb
    obtain ⟨a1,a2,a3⟩:=ih ms (i+1) r hE.tail h
    have hsh:(r.map λj=>(j,(ms.getD (j - (i+1)) default).val))=r.map λj=>(j,((m :: ms).getD (j - i) default).val):=by
     cases r with
     | none=>rfl
     | some j=>
      have:=(a3 j rfl).1
      have e1:j - i=(j - (i+1))+1:=by omega
      simp only [Option.map_some,e1,List.getD_cons_succ]
    refine ⟨?_,λhka d hd=> ?_,λj hj=> ?_⟩
    ·simp only [Instr.findAsking,Sem.run_bind,heq false hb,Result.andThen_ok,Bool.false_eq_true,if_false]
     rw [a1,hsh]
    ·simp only [Instr.findNow,hnow false hb hka d hd]
     rw [a2 hka d hd,hsh]
    ·obtain ⟨b1,b2,b3⟩:=a3 j hj
     have e1:j - i=(j - (i+1))+1:=by omega
     exact ⟨by omega,by rw [e1]; simp; omega,by rw [b3,e1]; simp⟩
   ·simp at h
theorem q70{t:TypeId}{ks:List Kd}{ka va:Bool}{key:List Value}(hk:tyK P 8 t=some ks)(hag:aggOf P t=some ka){es:List MEnt}{ms:List MapEntry}{r:Option Nat}
  (hE:Ents S w ka va es ms) (h:findE ks key es 0=some r):
  (Instr.findKey t (mkV ka key) ms).run P w= .ok (r.map λj=>(j,(ms.getD j default).val)) w/\∀j,r=some j->j < ms.length/\key=(es.getD j default).1:=by
 obtain ⟨h1,h2,h3⟩:=qkk hk hag es ms 0 r hE h
 refine ⟨?_,λj hj=>let ⟨_,a,b⟩:=h3 j hj; ⟨by simpa using a,by simpa using b⟩⟩
 cases ka with
 | true=>
  rw [run_findKey_eq]
  ·simpa using h1
  ·simp only [aggOf,Option.map_eq_some_iff]at hag
   obtain ⟨d,hd,hd2⟩:=hag
   rw [hd]
   cases d <;> simp_all
 | false=>
  simp only [aggOf,Option.map_eq_some_iff]at hag
  obtain ⟨d,hd,_⟩:=hag
  have:=h2 rfl d hd
  simp only [Nat.sub_zero]at this
  simp [Instr.findKey,q0a hd,this]
theorem q4w{va:Bool}{ds:List D}{tv:TV}{v:Value}(h:valTV va ds=some tv)(hr:RVal S w va ds v):RTV S w Kn φ tv v:=by
 unfold valTV at h
 unfold RVal at hr
 cases va with
 | true=>
  simp only [if_true]at h hr
  obtain rfl:=Option.some.inj h
  obtain ⟨arr,rfl,h1,h2⟩:=hr
  refine .agg (by simpa using h1) λi x hi=> ?_
  rw [List.getElem?_map]at hi
  obtain ⟨d,hd,rfl⟩:=Option.map_eq_some_iff.1 hi
  exact .d (h2 i d hd)
 | false=>
  simp only [Bool.false_eq_true,if_false]at h hr
  obtain ⟨x,rfl,h1⟩:=hr
  obtain rfl:TV.c (.d x)=tv:=by simpa using h
  exact .c (.d h1)
theorem qbp{t:TypeId}{z:List Value}{va:Bool}{tv:TV}(hz:q37 P t=some z)(ha:qno P t=some va)(h:valTV va (litsD z)=some tv)(w:World):
  ∃v,(zeroValue t).run P w= .ok v w/\RVal S w va (litsD z) v:=by
 simp only [q37]at hz
 split at hz
 ·rename_i v hv
  split at hz
  ·rename_i hp
   obtain rfl:=Option.some.inj hz
   obtain ⟨i,hi,hz⟩:=Option.bind_eq_some_iff.1 hv
   refine ⟨v,by simp [zeroValue,typeInfo,hi,hz], ?_⟩
   have hpl:∀x∈v.cells.toList,plain x=true:=λx hx=>List.all_eq_true.1 hp x hx
   simp only [qno,hv,Option.map_some,Option.some.injEq]at ha
   cases v with
   | agg arr=>
    obtain rfl:true=va:=by simpa using ha
    refine ⟨arr,rfl,by simp [litsD,Value.cells],λi x hi=> ?_⟩
    simp only [litsD,List.getElem?_map,Value.cells]at hi
    obtain ⟨y,hy,rfl⟩:=Option.map_eq_some_iff.1 hi
    have hlt:i < arr.size:=by simpa using (List.getElem?_eq_some_iff.1 hy).1
    have e:arr.getD i undef=y:=by
     rw [Array.getElem?_toList]at hy
     simp [hy]
    rw [e]
    exact .lit (hpl y (List.mem_of_getElem? hy))
   | _=>
    obtain rfl:false=va:=by simpa using ha
    exact ⟨_,rfl, .lit (hpl _ (by simp [Value.cells]))⟩
  ·simp at hz
 ·simp at hz
theorem qjo{t ty:TypeId}{op:BinOp}{x y:Operand}{ks:List Kd}(ho:o.op= .binOp op t x y ty)(hop:op= .eql\/op= .neq)(hk:tyK P 8 t=some ks)(hag:aggOf P t=some true)
  (hg:P.eqGuardType P.depth t=false) (hI:Inv S K w0 Kn φ (look H) w) {tx ty':Option TV} (hx:∀y,tx=some y->RTV S w Kn φ y (ρ x)) (hy:∀z,ty'=some z->RTV S w Kn φ z (ρ y))
  (h:ev1 call (.eqAgg (op == .neq) ks) [tx,ty'] H nxt=some (v,u,ids,n')):Runs P o ρ S K w0 w Kn φ (look H) nxt n' v u:=by
 match tx,ty',h,hx,hy with
 | some (.agg xs),some (.agg ys),h,hx,hy=>
  change (match q47 xs,q47 ys with
   | some xs,some ys=>(match eqVs ks xs ys with | some b=>some (lv (.bool (if (op == BinOp.neq)then !b else b)),([]:Upd),([]:List Nat),nxt) | none=>none)
   | _,_=>none)=_ at h
  split at h
  ·rename_i xs1 ys1 e1 e2
   split at h
   ·rename_i b hb
    obtain ⟨rfl,rfl,rfl,rfl⟩:lv (.bool (if (op == BinOp.neq)then !b else b))=v/\ []=u/\ []=ids/\nxt=n':=by simpa using h
    obtain rfl:=q8i e1
    obtain rfl:=q8i e2
    have h1:=hx _ rfl
    have h2:=hy _ rfl
    generalize hv1:ρ x=v1 at h1
    generalize hv2:ρ y=v2 at h2
    cases h1 with
    | agg l1 h1=>
     cases h2 with
     | agg l2 h2=>
      obtain ⟨rfl,_⟩:=qef l1 h1
      obtain ⟨rfl,_⟩:=qef l2 h2
      refine Runs.pure hI ?_ (.of_lit rfl)
      have he:=qou (P:=P) 9992 8 t ks hk true hag xs1 ys1 b w hb
      have hc:=q85 (P:=P) (w:=w) hop (t:=t) (x:= .agg xs1.toArray) (y:= .agg ys1.toArray) (b:=b) x y rfl rfl (run_eqGuard_agg w op t x y _ _ hg) (by rw [q7k]; simpa [mkV]using he)
      simp only [execOp,ho,Sem.run_bind,hv1,hv2]
      rw [Sem.run_bind]at hc
      rw [hc]; rfl
   ·simp at h
  ·simp at h
theorem Done.set{n:Nat}{tv:TV}{val:Value}{hf:Nat->Option Ob}{u:Upd}{w':World}(hs:Stp S w S w')(hI:Inv S K w0 Kn φ (updF u hf) w')(h:RTV S w' Kn φ tv val):Done S K w0 w Kn φ hf n n tv u val w':=
 ⟨Nat.le_refl _,S,φ,hs,q9a _ _,h.kn λ_ hi=> .inl hi,hI.kn λ_ hi=> .inl hi⟩
theorem Ents.mono{S':Nat->Prop}{w':World}(hs:Stp S w S' w'){ka va:Bool}{es:List MEnt}{ms:List MapEntry}(h:Ents S w ka va es ms):Ents S' w' ka va es ms:=
 ⟨h.1,λi e m hi hm=>let ⟨a,b,c⟩:=h.2 i e m hi hm; ⟨a,b.mono hs,c⟩⟩
theorem RO.ents{l:Loc}{ka va:Bool}{es:List MEnt}{clock:Nat}(h:RO S K w Kn φ l (.map ka va es clock)):∃ms:Array MapEntry,w.heap[l.blk]? =some (.map ms clock)/\Ents S w ka va es ms.toList:=by
 cases h with
 | map hS hK ho hlen hr=>exact ⟨_,ho,by simpa using hlen,λi e m hi hm=>hr i e m hi (by simpa using hm)⟩
theorem Inv.setMap{hf:Nat->Option Ob}(hI:Inv S K w0 Kn φ hf w){id:Nat}{ka va:Bool}{es es':List MEnt}{clock clock':Nat}{ms ms':Array MapEntry}(ho:hf id=some (.map ka va es clock))
  (hw:w.heap[(φ id).blk]? =some (.map ms clock)) (hE:Ents S w ka va es' ms'.toList):
  Stp S w S { w with heap:=w.heap.setIfInBounds (φ id).blk (.map ms' clock') }/\
  Inv S K w0 Kn φ (updF [(id,some (.map ka va es' clock'))] hf) { w with heap:=w.heap.setIfInBounds (φ id).blk (.map ms' clock') }:=by
 have hlt:(φ id).blk < w.heap.size:=(Array.getElem?_eq_some_iff.1 hw).1
 have hself:({ w with heap:=w.heap.setIfInBounds (φ id).blk (.map ms' clock') }:World).heap[(φ id).blk]? =some (.map ms' clock'):=by simp [hlt]
 have hoth:∀b,b≠(φ id).blk->({ w with heap:=w.heap.setIfInBounds (φ id).blk (.map ms' clock') }:World).heap[b]? =w.heap[b]? :=λb hb=>by simp [Ne.symm hb]
 obtain ⟨_,h0⟩:=hI.obj _ _ ho
 refine hI.set ho rfl hoth (by simp) (λa=> ?_) (λarr hown=> ?_) ⟨rfl,rfl,rfl,Nat.le_refl _⟩ λhs=> ?_
 ·unfold World.frozen?
  by_cases e:a.block=(φ id).blk
  ·rw [e,hself,hw]
  ·rw [hoth _ e]
 ·obtain ⟨t,ht⟩:=hown
  rw [hw]at ht; simp at ht
 ·cases h0 with
  | map hS hK _ _ _=>exact .map hS hK hself (by simpa using hE.1) λi e m hi hm=>(hE.mono hs).2 i e m hi (by simpa using hm)
theorem q5l{r:Nat}{ms:Array MapEntry}{clock:Nat}(hb:w.heap[r]? =some (.map ms clock)):(getObj r).run P w= .ok (.map ms clock) w:=by
 simp [getObj,Sem.run,hb]
theorem q98{r:Nat}{ms:Array MapEntry}{clock:Nat}(ob:Obj)(hb:w.heap[r]? =some (.map ms clock)):(setObj r ob).run P w= .ok () { w with heap:=w.heap.setIfInBounds r ob }:=by
 simp [setObj,Sem.run,hb]
theorem qjx{t:TypeId}{ka va:Bool}(ho:o.op= .makeMap t none)(hI:Inv S K w0 Kn φ (look H) w)(hn0:nxt < n'->¬Kn nxt)
  (h:ev1 call (.makeMap ka va) [] H nxt=some (v,u,ids,n')):Runs P o ρ S K w0 w Kn φ (look H) nxt n' v u:=by
 obtain ⟨rfl,rfl,rfl,rfl⟩:TV.c (.om nxt)=v/\ [(nxt,some (.map ka va [] 0))]=u/\ []=ids/\nxt+1=n':=by simpa [ev1]using h
 have hn:=hn0 (Nat.lt_succ_self _)
 obtain ⟨nS,nK⟩:=qlr hI
 refine ⟨.value (.map (some w.heap.size)),_, { w with heap:=w.heap.push (.map #[] 0) }, ?_, .inl rfl, ?_⟩
 ·simp [execOp,ho,Instr.makeMap,newObj,Sem.run]
 have hs:=Stp.push (w:=w) hI.slt (.map #[] 0)
 refine ⟨Nat.le_succ _,S,_,hs,⟨λ_ h=> .inl h,(q2v _ hn).same⟩, .c ?_,(hI.allocM hn (ob:= .map #[] 0) (λc t r h=>by cases h) ⟨w.heap.size,0,1,0,0⟩ rfl (.map ka va [] 0)
  (.map (ms:=#[]) nS nK (by simp) rfl λi e m hi=>by simp at hi)).knEq λj=>q6d j⟩
 have:=RC.om (S:=S) (w:= { w with heap:=w.heap.push (.map #[] 0) }) (Kn:=KnU Kn nxt (nxt+1)) (φ:=ext φ nxt ⟨w.heap.size,0,1,0,0⟩) (id:=nxt) (.inr (by omega))
 simpa [ext]using this
theorem Ents.at_{ka va:Bool}{es:List MEnt}{ms:List MapEntry}(h:Ents S w ka va es ms){j:Nat}(hj:j < ms.length):
  ms[j]? =some (ms.getD j default)/\RKey ka (es.getD j default).1 (ms.getD j default).key/\RVal S w va (es.getD j default).2.1 (ms.getD j default).val/\(ms.getD j default).born=(es.getD j default).2.2:=by
 have hj2:j < es.length:=by rw [h.1]; exact hj
 have e1:ms[j]? =some (ms.getD j default):=by simp [hj]
 have e2:es[j]? =some (es.getD j default):=by simp [hj2]
 exact ⟨e1,h.2 j _ _ e2 e1⟩
theorem qp4{t kt et:TypeId}{ka va ok:Bool}{ks:List Kd}{z:List Value}{m ix:Operand}(ho:o.op= .lookup t m ix ok)(hu:P.underlying t=some (.map kt et))
  (hm:mapOk P kt et=some (ka,ks,va,z)) (hI:Inv S K w0 Kn φ (look H) w) {tm tk:Option TV} (hx:∀y,tm=some y->RTV S w Kn φ y (ρ m)) (hy:∀y,tk=some y->RTV S w Kn φ y (ρ ix))
  (h:ev1 call (.lookup ka ks va z ok) [tm,tk] H nxt=some (v,u,ids,n')):Runs P o ρ S K w0 w Kn φ (look H) nxt n' v u:=by
 match tm,tk,h,hx,hy with
 | some (.c mc),some k,h,hx,hy=>
  change (match q1u ka ks va z ok mc k H with | some (v,ids)=>some (v,([]:Upd),ids,nxt) | none=>none)=_ at h
  split at h
  ·rename_i v1 ids1 hl
   obtain ⟨rfl,rfl,rfl,rfl⟩:v1=v/\ []=u/\ids1=ids/\nxt=n':=by simpa using h
   simp only [mapOk]at hm
   split at hm
   ·rename_i ka' ks' va' z' hag hk hae hz
    split at hm
    ·rename_i hza
     obtain ⟨rfl,rfl,rfl,rfl⟩:ka'=ka/\ks'=ks/\va'=va/\z'=z:=by simpa using hm
     have hrm:=hx _ rfl
     generalize hv1:ρ m=vm at hrm
     have fin:∀(b:Bool) (tv:TV) (val:Value),RTV S w Kn φ tv val->RTV S w Kn φ (if ok then .tup [tv,lv (.bool b)]else tv) (if ok then .tuple #[val, .bool b]else val):=by
      intro b tv val hr
      cases ok with
      | false=>exact hr
      | true=>
       refine .tup rfl λi x hi=> ?_
       match i,hi with
       | 0,hi=>obtain rfl:tv=x:=by simpa using hi
               exact hr
       | 1,hi=>obtain rfl:lv (.bool b)=x:=by simpa using hi
               exact .of_lit rfl
     unfold q1u at hl
     split at hl
     ·rename_i key hkey
      obtain ⟨hkv,hkl,_⟩:=q8e hkey (hy _ rfl)
      split at hl
      ·rename_i tv hval
       obtain ⟨rfl,rfl⟩:=Prod.mk.inj (Option.some.inj hl)
       obtain ⟨rfl,_⟩:=hrm.lit
       obtain ⟨zv,hzr,hzv⟩:=qbp (S:=S) hz hza hval w
       have hck:=q9h (P:=P) true 9992 8 kt ks' hk ka' hag _ w hkl
       refine Runs.pure hI ?_ (fin false tv zv (q4w hval hzv))
       have hfk:=q70 (P:=P) (S:=S) (w:=w) (va:=va') (key:=key) hk hag (es:= []) (ms:= []) (r:=none) ⟨rfl,λi e m hi=>by simp at hi⟩ rfl
       simp only [execOp,ho,Instr.lookup,hv1,Sem.run_bind,q0a hu,Result.andThen_ok,hkv,Sem.run_pure]
       rw [show (#[]:Array MapEntry).isEmpty=true from rfl,show (10000:Nat)=8+9992 from rfl,hck]
       simp only [Result.andThen_ok,Sem.run_bind,hfk.1,Option.map_none,hzr,Sem.run_pure]
      ·simp at hl
     ·rename_i id key hkey
      obtain ⟨hkv,hkl,_⟩:=q8e hkey (hy _ rfl)
      split at hl
      ·rename_i ka2 va2 es clock hob
       split at hl
       ·rename_i hkv2
        obtain ⟨rfl,rfl⟩:=hkv2
        cases hrm with
        | c hrm=>
         cases hrm with
         | om hkn=>
          obtain ⟨_,h0⟩:=hI.obj _ _ hob
          obtain ⟨ms,hms,hE⟩:=h0.ents
          have hck:=q9h (P:=P) ms.isEmpty 9992 8 kt ks' hk ka2 hag _ w hkl
          split at hl
          ·rename_i i hfe
           obtain ⟨f1,f2⟩:=q70 (P:=P) hk hag hE hfe
           obtain ⟨f3,f4⟩:=f2 i rfl
           obtain ⟨_,_,e3,_⟩:=hE.at_ f3
           split at hl
           ·rename_i tv hval
            obtain ⟨rfl,rfl⟩:=Prod.mk.inj (Option.some.inj hl)
            refine Runs.pure hI ?_ (fin true tv _ (q4w hval e3))
            simp only [execOp,ho,Instr.lookup,hv1,Sem.run_bind,q0a hu,Result.andThen_ok,q5l hms,hkv,Sem.run_pure]
            rw [show (10000:Nat)=8+9992 from rfl,hck]
            simp only [Result.andThen_ok,Sem.run_bind,f1,Option.map_some,Sem.run_pure]
           ·simp at hl
          ·rename_i hfe
           obtain ⟨f1,_⟩:=q70 (P:=P) hk hag hE hfe
           split at hl
           ·rename_i tv hval
            obtain ⟨rfl,rfl⟩:=Prod.mk.inj (Option.some.inj hl)
            obtain ⟨zv,hzr,hzv⟩:=qbp (S:=S) hz hza hval w
            refine Runs.pure hI ?_ (fin false tv zv (q4w hval hzv))
            simp only [execOp,ho,Instr.lookup,hv1,Sem.run_bind,q0a hu,Result.andThen_ok,q5l hms,hkv,Sem.run_pure]
            rw [show (10000:Nat)=8+9992 from rfl,hck]
            simp only [Result.andThen_ok,Sem.run_bind,f1,Option.map_none,hzr,Sem.run_pure]
           ·simp at hl
          ·simp at hl
       ·simp at hl
      ·simp at hl
     ·simp at hl
    ·simp at hm
   ·simp at hm
  ·simp at h
theorem qjq(a:ByteArray):(a == a)=true:=by rw [beq_toListBytes]; simp
theorem qhd{q:Kd}{x:Value}{b:Bool}{y:Value}(h:eqK q x y=some b)(n:Nat):Instr.sameBits n x x=true:=by
 unfold eqK at h
 split at h <;> first | (simp at h; done) | skip
 all_goals (cases n <;> simp [Instr.sameBits,qjq])
theorem qfs{l:List Value}(n:Nat)(h:∀x∈l,∀n,Instr.sameBits n x x=true):Instr.sameBits (n+1) (.agg l.toArray) (.agg l.toArray)=true:=by
 simp only [Instr.sameBits,beq_self_eq_true,Bool.true_and]
 rw [List.all_eq_true]
 rintro ⟨x,y⟩ hxy
 have hx:x∈l:=by simpa using (List.of_mem_zip hxy).1
 have hyx:x=y:=by
  obtain ⟨i,hi,e⟩:=List.getElem_of_mem hxy
  simp only [List.getElem_zip,Prod.mk.injEq]at e
  exact e.1.symm.trans e.2
 subst hyx
 exact h x hx n
theorem qff{ks:List Kd}{key k':List Value}{ka:Bool}(hone:ka=false->ks.length=1)(h:eqVs ks key k'=some true)(n:Nat):Instr.sameBits (n+1) (mkV ka key) (mkV ka key)=true:=by
 have all:∀(ks:List Kd) (a c:List Value) (b:Bool),eqVs ks a c=some b->∀x∈a,∀n,Instr.sameBits n x x=true:=by
  intro ks
  induction ks with
  | nil=>intro a c b h; cases a <;> cases c <;> simp_all [eqVs]
  | cons q ks ih=>
   intro a c b h x hx n
   cases a with
   | nil=>simp at hx
   | cons y a=>
    cases c with
    | nil=>simp [eqVs]at h
    | cons z c=>
     simp only [eqVs]at h
     split at h
     ·rename_i b1 b2 h1 h2
      rcases List.mem_cons.1 hx with rfl | hx
      ·exact qhd h1 n
      ·exact ih a c b2 h2 x hx n
     ·simp at h
 have hall:=all ks key k' true h
 cases ka with
 | true=>exact qfs n hall
 | false=>
  obtain ⟨l1,_⟩:=q34 h
  rw [hone rfl]at l1
  obtain ⟨x,rfl⟩:=List.length_eq_one_iff.1 l1
  exact hall x (by simp) (n+1)
theorem qs0{ks:List Kd}{key:List Value}:∀ {es:List MEnt} {i j:Nat},findE ks key es i=some (some j)->i<=j/\eqVs ks key (es.getD (j - i) default).1=some true:=by
 intro es
 induction es with
 | nil=>intro i j h; simp [findE]at h
 | cons e es ih=>
  intro i j h
  simp only [findE]at h
  split at h
  ·rename_i hb
   obtain rfl:i=j:=by simpa using h
   exact ⟨Nat.le_refl _,by simpa using hb⟩
  ·obtain ⟨h1,h2⟩:=ih h
   have e1:j - i=(j - (i+1))+1:=by omega
   exact ⟨by omega,by rw [e1]; simpa using h2⟩
  ·simp at h
theorem qge{ms:Array MapEntry}{j:Nat}{f:MapEntry->MapEntry}(h:f (ms.toList.getD j default)=ms.toList.getD j default):ms.modify j f=ms:=by
 apply Array.ext
 ·simp
 ·intro i h1 h2
  rw [Array.getElem_modify]
  split
  ·rename_i e; subst e
   have:ms.toList.getD j default=ms[j]:=by simp [List.getD_eq_getElem?_getD,h2]
   rw [this]at h; exact h
  ·rfl
theorem qr6{old new:Value}(h1:old=new)(h2:Instr.sameBits 10000 new new=true):(Instr.keyThatStays old new).run P w= .ok new w:=by
 subst h1
 unfold Instr.keyThatStays
 rw [if_pos h2]; rfl
theorem qgm{t kt et:TypeId}{ka va:Bool}{ks:List Kd}{z:List Value}{m ix:Operand}(ho:o.op= .mapEntry t m ix)(hu:P.underlying t=some (.map kt et))
  (hm:mapOk P kt et=some (ka,ks,va,z)) (hI:Inv S K w0 Kn φ (look H) w) {tm tk:Option TV} (hx:∀y,tm=some y->RTV S w Kn φ y (ρ m)) (hy:∀y,tk=some y->RTV S w Kn φ y (ρ ix))
  (h:ev1 call (.mapEntry ka ks va z) [tm,tk] H nxt=some (v,u,ids,n')):Runs P o ρ S K w0 w Kn φ (look H) nxt n' v u:=by
 match tm,tk,h,hx,hy with
 | some (.c mc),some k,h,hx,hy=>
  change (match q4s ka ks va z mc k H with | some (v,u,ids)=>some (v,u,ids,nxt) | none=>none)=_ at h
  split at h
  ·rename_i v1 u1 ids1 hl
   obtain ⟨rfl,rfl,rfl,rfl⟩:v1=v/\u1=u/\ids1=ids/\nxt=n':=by simpa using h
   simp only [mapOk]at hm
   split at hm
   ·rename_i ka' ks' va' z' hag hk hae hz
    split at hm
    ·rename_i hza
     obtain ⟨rfl,rfl,rfl,rfl⟩:ka'=ka/\ks'=ks/\va'=va/\z'=z:=by simpa using hm
     have hrm:=hx _ rfl
     generalize hv1:ρ m=vm at hrm
     have tup2:∀ {w':World} {tv:TV} {val:Value} {n:Nat},RTV S w' Kn φ tv val->RTV S w' Kn φ (.tup [tv,lv (.int .i64 n)]) (.tuple #[val,goInt n]):=by
      intro w' tv val n hr
      refine .tup rfl λi x hi=> ?_
      match i,hi with
      | 0,hi=>obtain rfl:tv=x:=by simpa using hi
              exact hr
      | 1,hi=>obtain rfl:lv (.int .i64 n)=x:=by simpa using hi
              exact .of_lit rfl
     unfold q4s at hl
     split at hl
     ·rename_i id key hkey
      obtain ⟨hkv,hkl,hrk⟩:=q8e hkey (hy _ rfl)
      split at hl
      ·rename_i ka2 va2 es clock hob
       split at hl
       ·rename_i hkv2
        obtain ⟨rfl,rfl⟩:=hkv2
        cases hrm with
        | c hrm=>
         cases hrm with
         | om hkn=>
          obtain ⟨_,h0⟩:=hI.obj _ _ hob
          obtain ⟨ms,hms,hE⟩:=h0.ents
          have hck:=q9h (P:=P) false 9992 8 kt ks' hk ka2 hag _ w hkl
          split at hl
          ·rename_i i hfe
           obtain ⟨f1,f2⟩:=q70 (P:=P) hk hag hE hfe
           obtain ⟨f3,f4⟩:=f2 i rfl
           obtain ⟨e0,e1,e3,e4⟩:=hE.at_ f3
           obtain ⟨_,hqq⟩:=qs0 hfe
           obtain ⟨_,ag,hag',hone⟩:=qcx 8 kt ks' hk
           obtain rfl:ka2=ag:=Option.some.inj (hag.symm.trans hag')
           have hold:(ms.toList.getD i default).key=mkV ka2 key:=by rw [e1.mkV,<- f4]
           split at hl
           ·rename_i tv hval
            obtain ⟨rfl,rfl,rfl⟩:_/\_/\_:=by simpa using hl
            have ea:ms[i]? =some (ms.toList.getD i default):=by rw [<- e0]; simp
            obtain ⟨hs,hI'⟩:=hI.setMap (clock':=clock) hob hms hE
            refine ⟨.value (.tuple #[(ms.toList.getD i default).val,goInt (ms.toList.getD i default).born]),_, { w with heap:=w.heap.setIfInBounds (φ id).blk (.map ms clock) }, ?_, .inl rfl,Done.set hs hI' ?_⟩
            ·have hst:=qr6 (P:=P) (w:=w) hold (qff (n:=9999) hone hqq)
             have hmod:ms.modify i (λe=> { e with key:=mkV ka2 key })=ms:=qge (by rw [<- hold])
             simp only [execOp,ho,Instr.mapEntry,hv1,Sem.run_bind,q0a hu,Result.andThen_ok,q5l hms,hkv]
             rw [show (10000:Nat)=8+9992 from rfl,hck]
             simp only [Result.andThen_ok,Sem.run_bind,f1,Option.map_some,ea,Option.getD_some,hst,hmod,q98 _ hms,Sem.run_pure]
            ·rw [e4]
             exact tup2 (q4w hval (e3.mono hs))
           ·simp at hl
          ·rename_i hfe
           obtain ⟨f1,_⟩:=q70 (P:=P) hk hag hE hfe
           split at hl
           ·rename_i tv hval
            obtain ⟨rfl,rfl,rfl⟩:_/\_/\_:=by simpa using hl
            obtain ⟨zv,hzr,hzv⟩:=qbp (S:=S) hz hza hval w
            have hE':Ents S w ka2 va2 (es++ [(key,litsD z',clock)]) (ms.push { key:=mkV ka2 key,val:=zv,born:=clock }).toList:=by
             refine ⟨by simp [hE.1],λi e m hi hm=> ?_⟩
             rw [Array.toList_push]at hm
             rcases Nat.lt_or_ge i es.length with hlt | hge
             ·rw [List.getElem?_append_left hlt]at hi
              rw [List.getElem?_append_left (by rw [<- hE.1]; exact hlt)]at hm
              exact hE.2 i e m hi hm
             ·rw [List.getElem?_append_right hge]at hi
              rw [List.getElem?_append_right (by rw [<- hE.1]; exact hge),<- hE.1]at hm
              have h0:i - es.length=0:=by
               have:=(List.getElem?_eq_some_iff.1 hi).1
               simp at this; omega
              rw [h0]at hi hm
              obtain rfl:(key,litsD z',clock)=e:=by simpa using hi
              obtain rfl:MapEntry.mk (mkV ka2 key) zv clock=m:=by simpa using hm
              exact ⟨hkv▸hrk,hzv,rfl⟩
            obtain ⟨hs,hI'⟩:=hI.setMap (clock':=clock+1) hob hms hE'
            refine ⟨.value (.tuple #[zv,goInt clock]),_, { w with heap:=w.heap.setIfInBounds (φ id).blk (.map (ms.push { key:=mkV ka2 key,val:=zv,born:=clock }) (clock+1)) }, ?_, .inl rfl,Done.set hs hI' ?_⟩
            ·simp only [execOp,ho,Instr.mapEntry,hv1,Sem.run_bind,q0a hu,Result.andThen_ok,q5l hms,hkv]
             rw [show (10000:Nat)=8+9992 from rfl,hck]
             simp only [Result.andThen_ok,Sem.run_bind,f1,Option.map_none,hzr,q98 _ hms,Sem.run_pure]
            ·exact tup2 (q4w hval (hzv.mono hs))
           ·simp at hl
          ·simp at hl
       ·simp at hl
      ·simp at hl
     ·simp at hl
    ·simp at hm
   ·simp at hm
  ·simp at h
theorem qt3:∀ {cs:List C} {l:List D},dsOf cs=some l->cs=l.map .d:=by
 intro cs
 induction cs with
 | nil=>
  intro l h
  obtain rfl: []=l:=by simpa [dsOf]using h
  rfl
 | cons c cs ih=>
  intro l h
  unfold dsOf at h
  split at h
  ·simp_all
  ·rename_i v0 r0 he
   obtain ⟨rfl,rfl⟩:=List.cons.inj he
   split at h
   ·rename_i l1 hl
    obtain rfl:=Option.some.inj h
    rw [ih hl]; rfl
   ·simp at h
  ·simp at h
theorem RVal.of{x:TV}{cs:List C}{ds:List D}{val:Value}(hr:RTV S w Kn φ x val)(hc:cellsOf x=some cs)(hd:dsOf cs=some ds):RVal S w (qd7 x) ds val:=by
 have e:=qt3 hd
 subst e
 cases hr with
 | @c x v h=>
  have e1: [x]=ds.map C.d:=by simpa [cellsOf]using hc
  cases ds with
  | nil=>simp at e1
  | cons d r=>
   cases r with
   | nil=>
    obtain rfl:x= .d d:=by simpa using e1
    cases h with
    | d hd=>exact ⟨d,rfl,hd⟩
   | cons _ _=>simp at e1
 | @agg cs' arr hlen h=>
  obtain rfl:cs'=ds.map C.d:=by simpa [cellsOf]using hc
  refine ⟨arr,rfl,by simpa using hlen,λi x hi=> ?_⟩
  have:=h i (.d x) (by simp [hi])
  generalize arr.getD i undef=q at this ⊢
  cases this with
  | d hd=>exact hd
 | tup=>simp [cellsOf]at hc
theorem Ents.find{ka va:Bool}{s:Int}:∀ {es:List MEnt} {ms:List MapEntry},Ents S w ka va es ms->ms.findIdx? (λe=>(e.born:Int) == s)=es.findIdx? (λe=>decide ((e.2.2:Int)=s)):=by
 intro es
 induction es with
 | nil=>
  intro ms h
  obtain rfl:ms= []:=List.length_eq_zero_iff.1 h.1.symm
  rfl
 | cons e es ih=>
  intro ms h
  cases ms with
  | nil=>exact absurd h.1 (by simp)
  | cons m ms=>
   obtain ⟨_,_,hb⟩:=h.2 0 e m rfl rfl
   rw [List.findIdx?_cons,List.findIdx?_cons,ih h.tail,hb]
   by_cases hc:(e.2.2:Int)=s
   ·simp [hc]
   ·simp [hc]
theorem qdu{t:TypeId}{va:Bool}{n:Nat}{m st x:Operand}(ho:o.op= .entryStore t m st x)(hI:Inv S K w0 Kn φ (look H) w){tm ts tx:Option TV}
  (hx:∀y,tm=some y->RTV S w Kn φ y (ρ m)) (hy:∀y,ts=some y->RTV S w Kn φ y (ρ st)) (hz:∀y,tx=some y->RTV S w Kn φ y (ρ x))
  (h:ev1 call (.entryStore va n) [tm,ts,tx] H nxt=some (v,u,ids,n')):Runs P o ρ S K w0 w Kn φ (look H) nxt n' v u:=by
 match tm,tx,h,hx,hz with
 | some (.c mc),some xv,h,hx,hz=>
  change (match q4a va n mc ts xv H with | some (u,ids)=>some (TV.tup [],u,ids,nxt) | none=>none)=_ at h
  split at h
  ·rename_i u1 ids1 hl
   obtain ⟨rfl,rfl,rfl,rfl⟩:TV.tup []=v/\u1=u/\ids1=ids/\nxt=n':=by simpa using h
   have hrm:=hx _ rfl
   generalize hv1:ρ m=vm at hrm
   unfold q4a at hl
   split at hl
   ·rename_i id s ds hst hds
    obtain ⟨cs,hcs,hds⟩:=Option.bind_eq_some_iff.1 hds
    split at hl
    ·rename_i ka va2 es clock hob
     split at hl
     ·rename_i hc
      obtain ⟨rfl,hn,hag⟩:=hc
      split at hl
      ·rename_i i hfi
       obtain ⟨rfl,rfl⟩:_/\_:=by simpa using hl
       cases hrm with
       | c hrm=>
        cases hrm with
        | om hkn=>
         obtain ⟨_,h0⟩:=hI.obj _ _ hob
         obtain ⟨ms,hms,hE⟩:=h0.ents
         have hval:=RVal.of (hz _ rfl) hcs hds
         rw [hag]at hval
         -- the stamp
         have hsi:(asInt (ρ st)).run P w= .ok s w:=by
          unfold intOf? at hst
          split at hst
          ·rename_i k0 n0
           obtain rfl:=Option.some.inj hst
           obtain ⟨e1,_⟩:=(hy _ rfl).lit
           rw [e1]
           simp [asInt,asIntOf]
          ·simp at hst
         have hlt:i < es.length:=by
          obtain ⟨h1,_⟩:=List.findIdx?_eq_some_iff_getElem.1 hfi
          exact h1
         obtain ⟨e0,e1,e3,e4⟩:=hE.at_ (j:=i) (by rw [<- hE.1]; exact hlt)
         have hE':Ents S w ka va2 (es.set i ((es.getD i default).1,ds,(es.getD i default).2.2)) (ms.modify i (λe=> { e with val:=ρ x })).toList:=by
          refine ⟨by simp [hE.1],λj e m hi hm=> ?_⟩
          have hm':(ms.modify i (λe=> { e with val:=ρ x }))[j]? =some m:=by rw [<- Array.getElem?_toList]; exact hm
          rw [Array.getElem?_modify]at hm'
          rw [List.getElem?_set]at hi
          by_cases hij:i=j
          ·subst hij
           rw [if_pos rfl]at hm' hi
           rw [if_pos hlt]at hi
           obtain rfl:=Option.some.inj hi
           have ea:ms[i]? =some (ms.toList.getD i default):=by rw [<- e0]; simp
           rw [ea]at hm'
           obtain rfl:({ ms.toList.getD i default with val:=ρ x }:MapEntry)=m:=by simpa using hm'
           exact ⟨e1,hval,e4⟩
          ·rw [if_neg hij]at hm' hi
           exact hE.2 j e m hi (by simpa using hm')
         obtain ⟨hs,hI'⟩:=hI.setMap (clock':=clock) hob hms hE'
         refine ⟨.skip,undef, { w with heap:=w.heap.setIfInBounds (φ id).blk (.map (ms.modify i (λe=> { e with val:=ρ x })) clock) }, ?_, .inr ⟨rfl,rfl⟩,hI.stp hs hI' rfl⟩
         have hfi2:ms.findIdx? (λe=>(e.born:Int) == s)=some i:=by
          rw [<- hfi,<- hE.find,<- List.findIdx?_toArray]
         simp only [execOp,ho,Instr.entryStore,hv1,Sem.run_bind,Result.andThen_ok,q5l hms,hsi,hfi2,q98 _ hms,Sem.run_pure]
      ·simp at hl
     ·simp at hl
    ·simp at hl
   ·simp at hl
  ·simp at h
theorem q9s{sz:Nat}{x:C}{xv:Value}{new:List (List D)}(hsz:0 < sz)(hI:Inv S K w0 Kn φ (look H) w)(hr:RC S w Kn φ x xv)(h:q2u sz H x=some (new,ids))(n:Nat)(hn:n<=new.length):
  (Builtin.lenOf xv).run P w= .ok new.length w/\∃arr,(Builtin.firstCells sz n xv).run P w= .ok arr w/\arr.size=n * sz/\RowsAt S w sz (λi=>arr[i]?) 0 (new.take n)/\∀x∈arr.toList,one x=true:=by
 have mem:∀ {b addr len cap:Nat},new.length=len->RowsAt S w sz (λi=>w.cell? ⟨b,i,none⟩) addr new->xv= .slice (some ⟨b,addr,none⟩) len cap->
   (Builtin.lenOf xv).run P w= .ok new.length w/\∃arr,(Builtin.firstCells sz n xv).run P w= .ok arr w/\arr.size=n * sz/\RowsAt S w sz (λi=>arr[i]?) 0 (new.take n)/\∀x∈arr.toList,one x=true:=by
  intro b addr len cap hl hR hv
  subst hl hv
  have hR2:=hR.sub 0 n
  rw [List.drop_zero,Nat.zero_mul,Nat.add_zero]at hR2
  obtain ⟨arr,h1,h2,h3,h4⟩:=q74 (P:=P) hsz hR2
  have e:(new.take n).length=n:=by simp; omega
  rw [e]at h1 h2
  exact ⟨rfl,arr,h1 w rfl,h2,h3,h4⟩
 unfold q2u at h
 split at h
 ·obtain ⟨rfl,rfl⟩: []=new/\ []=ids:=by simpa using h
  obtain rfl:n=0:=by simpa using hn
  cases hr with
  | d hd=>cases hd with
   | lit hp=>exact ⟨rfl,#[],rfl,by simp,⟨λi r hi=>by simp at hi,λi r hi=>by simp at hi⟩,λx hx=>by simp at hx⟩
 ·rename_i sz' rows
  split at h
  ·rename_i e1
   subst e1
   obtain ⟨rfl,rfl⟩:rows=new/\ []=ids:=by simpa using h
   cases hr with
   | d hd=>cases hd with
    | sl f hb hsz0 hcap hrow hcell hrd=>exact mem rfl ⟨hrow,λi r hi j x hj=>⟨_,hcell i r hi j x hj,hrd i r hi j x hj⟩⟩ rfl
    | sl0 hsz0=>
     obtain rfl:n=0:=by simpa using hn
     refine ⟨rfl,#[], ?_,by simp,⟨λi r hi=>by simp at hi,λi r hi=>by simp at hi⟩,λx hx=>by simp at hx⟩
     simp only [Builtin.firstCells,Nat.zero_mul]
     rfl
  ·simp at h
 ·rename_i sz' id off len
  have key:∀szo rows,(look H id=some (.arr szo rows)\/look H id=some (.imm szo rows))->(if sz'=sz/\off+len<=rows.length then some ((rows.drop off).take len, [id])else none)=some (new,ids)->
    (Builtin.lenOf xv).run P w= .ok new.length w/\∃arr,(Builtin.firstCells sz n xv).run P w= .ok arr w/\arr.size=n * sz/\RowsAt S w sz (λi=>arr[i]?) 0 (new.take n)/\∀x∈arr.toList,one x=true:=by
   intro szo rows ho hq
   split at hq
   ·rename_i hb
    obtain ⟨e1,hle⟩:=hb
    subst e1
    obtain ⟨rfl,rfl⟩:=Prod.mk.inj (Option.some.inj hq)
    obtain ⟨hsz1,hl,hR⟩:=q4i hI ho
    subst hl
    cases hr with
    | osl hk hcap haddr hext=>exact mem (by simp; omega) (hR.sub' off len λh=>haddr (by omega)) rfl
   ·simp at hq
  split at h
  ·exact key _ _ (.inl (by assumption)) h
  ·exact key _ _ (.inr (by assumption)) h
  ·simp at h
 ·simp at h
theorem qjk{sz base off:Nat}{rows ns:List (List D)}{arr:Array Value}{vs:List Value}(h:RowsAt S w sz (λi=>arr[i]?) base rows)(hfit:off+ns.length<=rows.length)
  (hl:vs.length=ns.length * sz) (hn:RowsAt S w sz (λi=>vs[i]?) 0 ns) (hsz:base+rows.length * sz<=arr.size):
  RowsAt S w sz (λi=>(splice arr.toList (base+off * sz) vs).toArray[i]?) base (splice rows off ns):=by
 have hmul:(off+ns.length) * sz<=rows.length * sz:=Nat.mul_le_mul_right _ hfit
 rw [Nat.add_mul]at hmul
 have hget:∀k,(splice arr.toList (base+off * sz) vs).toArray[k]? =if k < base+off * sz then arr[k]? else if k < base+off * sz+vs.length then vs[k - (base+off * sz)]? else arr[k]? :=by
  intro k
  rw [<- Array.getElem?_toList]
  show (splice arr.toList _ vs)[k]? =_
  rw [q2b _ _ _ (by simp; omega)]
  simp only [Array.getElem?_toList]
 have at_:∀(i:Nat) (r:List D),(splice rows off ns)[i]? =some r->r.length=sz/\∀(j:Nat) (x:D),r[j]? =some x->∃y,(splice arr.toList (base+off * sz) vs).toArray[base+i * sz+j]? =some y/\RD S w x y:=by
  intro i r hi
  rw [q2b _ _ _ hfit]at hi
  by_cases c1:i < off
  ·rw [if_pos c1]at hi
   refine ⟨h.1 i r hi,λj x hj=> ?_⟩
   obtain ⟨y,hy,hr⟩:=h.2 i r hi j x hj
   have hjl:j < sz:=by rw [<- h.1 i r hi]; exact (List.getElem?_eq_some_iff.1 hj).1
   have:(i+1) * sz<=off * sz:=Nat.mul_le_mul_right _ c1
   rw [Nat.succ_mul]at this
   exact ⟨y,by rw [hget,if_pos (by omega)]; exact hy,hr⟩
  ·rw [if_neg c1]at hi
   by_cases c2:i < off+ns.length
   ·rw [if_pos c2]at hi
    refine ⟨hn.1 _ r hi,λj x hj=> ?_⟩
    obtain ⟨y,hy,hr⟩:=hn.2 _ r hi j x hj
    have hjl:j < sz:=by rw [<- hn.1 _ r hi]; exact (List.getElem?_eq_some_iff.1 hj).1
    have e1:i * sz=off * sz+(i - off) * sz:=by rw [<- Nat.add_mul]; congr 1; omega
    have hm:(i - off+1) * sz<=ns.length * sz:=Nat.mul_le_mul_right _ (by omega)
    rw [Nat.succ_mul]at hm
    refine ⟨y, ?_,hr⟩
    rw [hget,if_neg (by omega),if_pos (by omega)]
    rw [<- hy]
    show vs[_]? =vs[_]?
    congr 1; omega
   ·rw [if_neg c2]at hi
    refine ⟨h.1 i r hi,λj x hj=> ?_⟩
    obtain ⟨y,hy,hr⟩:=h.2 i r hi j x hj
    have:(off+ns.length) * sz<=i * sz:=Nat.mul_le_mul_right _ (by omega)
    rw [Nat.add_mul]at this
    exact ⟨y,by rw [hget,if_neg (by omega),if_neg (by omega)]; exact hy,hr⟩
 exact ⟨λi r hi=>(at_ i r hi).1,λi r hi=>(at_ i r hi).2⟩
theorem qhg{α:Type}(l:List α)(off:Nat)(p:List α)(hfit:off<=l.length)(i:Nat):
  (splice l off p)[i]? =if i < off then l[i]? else if i < off+p.length then p[i - off]? else l[i]? :=by
 unfold splice
 by_cases h1:i < off
 ·rw [List.append_assoc,List.getElem?_append_left (by simp; omega)]
  simp [h1]
 ·by_cases h2:i < off+p.length
  ·rw [List.getElem?_append_left (by simp; omega),List.getElem?_append_right (by simp; omega)]
   simp only [List.length_take,h1,h2,if_true,if_false]
   congr 1; omega
  ·rw [List.getElem?_append_right (by simp; omega)]
   simp only [List.length_append,List.length_take,List.getElem?_drop,h1,h2,if_false]
   congr 1; omega
theorem qbz{α:Type}(l:List α)(off:Nat)(p:List α)(hfit:off<=l.length):(splice l off p).length=max l.length (off+p.length):=by
 unfold splice; simp; omega
theorem qnj{sz base off:Nat}{rows ns:List (List D)}{arr:Array Value}{vs:List Value}(h:RowsAt S w sz (λi=>arr[i]?) base rows)(hfit:off<=rows.length)
  (hl:vs.length=ns.length * sz) (hn:RowsAt S w sz (λi=>vs[i]?) 0 ns) (hsz:base+off * sz+ns.length * sz<=arr.size):
  RowsAt S w sz (λi=>(splice arr.toList (base+off * sz) vs).toArray[i]?) base (splice rows off ns):=by
 have hget:∀k,(splice arr.toList (base+off * sz) vs).toArray[k]? =if k < base+off * sz then arr[k]? else if k < base+off * sz+vs.length then vs[k - (base+off * sz)]? else arr[k]? :=by
  intro k
  rw [<- Array.getElem?_toList]
  show (splice arr.toList _ vs)[k]? =_
  rw [q2b _ _ _ (by simp; omega)]
  simp only [Array.getElem?_toList]
 have at_:∀(i:Nat) (r:List D),(splice rows off ns)[i]? =some r->r.length=sz/\∀(j:Nat) (x:D),r[j]? =some x->∃y,(splice arr.toList (base+off * sz) vs).toArray[base+i * sz+j]? =some y/\RD S w x y:=by
  intro i r hi
  rw [qhg _ _ _ hfit]at hi
  by_cases c1:i < off
  ·rw [if_pos c1]at hi
   refine ⟨h.1 i r hi,λj x hj=> ?_⟩
   obtain ⟨y,hy,hr⟩:=h.2 i r hi j x hj
   have hjl:j < sz:=by rw [<- h.1 i r hi]; exact (List.getElem?_eq_some_iff.1 hj).1
   have:(i+1) * sz<=off * sz:=Nat.mul_le_mul_right _ c1
   rw [Nat.succ_mul]at this
   exact ⟨y,by rw [hget,if_pos (by omega)]; exact hy,hr⟩
  ·rw [if_neg c1]at hi
   by_cases c2:i < off+ns.length
   ·rw [if_pos c2]at hi
    refine ⟨hn.1 _ r hi,λj x hj=> ?_⟩
    obtain ⟨y,hy,hr⟩:=hn.2 _ r hi j x hj
    have hjl:j < sz:=by rw [<- hn.1 _ r hi]; exact (List.getElem?_eq_some_iff.1 hj).1
    have e1:i * sz=off * sz+(i - off) * sz:=by rw [<- Nat.add_mul]; congr 1; omega
    have hm:(i - off+1) * sz<=ns.length * sz:=Nat.mul_le_mul_right _ (by omega)
    rw [Nat.succ_mul]at hm
    refine ⟨y, ?_,hr⟩
    rw [hget,if_neg (by omega),if_pos (by omega)]
    rw [<- hy]
    show vs[_]? =vs[_]?
    congr 1; omega
   ·rw [if_neg c2]at hi
    refine ⟨h.1 i r hi,λj x hj=> ?_⟩
    obtain ⟨y,hy,hr⟩:=h.2 i r hi j x hj
    have:(off+ns.length) * sz<=i * sz:=Nat.mul_le_mul_right _ (by omega)
    rw [Nat.add_mul]at this
    exact ⟨y,by rw [hget,if_neg (by omega),if_neg (by omega)]; exact hy,hr⟩
 exact ⟨λi r hi=>(at_ i r hi).1,λi r hi=>(at_ i r hi).2⟩
theorem qrk{c:Go.Call}{d x:Operand}{dt xt el:TypeId}{n:Nat}{dc xc:C}{i:Int}(ho:o.op= .call c)(hcal:c.callee= .builtin .copy)(hargs:c.args=#[d,x])(hts:c.argTypes=#[dt,xt])
  (hud:P.underlying dt=some (.slice el)) (hsz:szOf P el=some (n+1)) (hI:Inv S K w0 Kn φ (look H) w) (hdr:RTV S w Kn φ (.c dc) (ρ d)) (hxr:RTV S w Kn φ (.c xc) (ρ x))
  (hl:q6g (n+1) dc xc H=some (i,u,ids)):Runs P o ρ S K w0 w Kn φ (look H) nxt nxt (lv (.int .i64 i)) u:=by
 unfold q6g at hl
 split at hl
 case h_2=>simp at hl
 rename_i sz' id off len sz2 id2 off2 len2
 have key:∀szo rows cp rows2,look H id=some (.cap szo rows cp)->sz'=n+1->sz2=n+1->off<=rows.length->off2+min len2 len<=rows2.length->(φ id2).sz=n+1->
   RowsAt S w (n+1) (λi=>w.cell? ⟨(φ id2).blk,i,none⟩) (φ id2).base rows2->
   Runs P o ρ S K w0 w Kn φ (look H) nxt nxt (lv (.int .i64 (min len2 len:Nat))) [(id,some (.cap (n+1) (splice rows off ((rows2.drop off2).take (min len2 len))) cp))]:=by
  intro szo rows cp rows2 hob e1 e3 hoff hle hsz2 hR2
  subst e1 e3
  generalize hv0:ρ d=val at hdr
  generalize hv1:ρ x=val1 at hxr
  cases hdr with
  | c hdr=>
  cases hxr with
  | c hxr=>
  obtain ⟨cap2,addr2,rfl,_,_,hcap2,haddr2,_,_⟩:=hxr.osl_inv
  have hnl:((rows2.drop off2).take (min len2 len)).length=min len2 len:=by simp; omega
  obtain ⟨arr,h2,h3,h4,h5⟩:=q74 (P:=P) (sz:=n+1) (Nat.succ_pos n) (hR2.sub' (addr:=addr2) off2 (min len2 len) λh=>by rw [haddr2 (by omega),hsz2])
  rw [hnl]at h2 h3
  have h1:(Builtin.lenOf (.slice (some ⟨(φ id2).blk,addr2,none⟩) len2 cap2)).run P w= .ok len2 w:=rfl
  have h2:(Builtin.firstCells (n+1) (min len2 len) (.slice (some ⟨(φ id2).blk,addr2,none⟩) len2 cap2)).run P w= .ok arr w:=h2 w rfl
  have hmn:Nat.min len2 len=min len2 len:=rfl
  obtain ⟨hk0,h0⟩:=hI.obj _ _ hob
  generalize hphi:φ id=l at *
  cases h0 with
  | @cap _ _ _ old hsz0 hl hS hK hown hext hfit hrr hvis hcc=>
  obtain ⟨cap,addr,rfl,hszl,hk,hcap,haddr,hextc,hcl⟩:=hdr.osl_inv
  rw [hphi]at hv0 haddr hextc hszl hcl
  have e2:szo=n+1:=by rw [<- hl,hszl]
  subst e2
  rw [hl]at haddr hextc
  have run:∀w',(storeCells ⟨l.blk,addr,none⟩ arr.toList).run P w= .ok () w'->(execOp ρ o).run P w= .ok (.value (goInt ((min len2 len:Nat):Int))) w':=by
   intro w' hst
   simp only [execOp,ho,hcal,resolve,hargs,Sem.run_bind,Sem.run_pure,Result.andThen_ok,invoke,builtin,Builtin.copy_,hts,List.map_toArray,List.map_cons,List.map_nil,hv0,hv1,List.getElem?_toArray,
    List.getElem?_cons_zero,List.getElem?_cons_succ,q0a hud,q21 hsz,h1,hmn,h2,hst]
  generalize hnew:(rows2.drop off2).take (min len2 len)=new at *
  rcases Nat.eq_zero_or_pos (min len2 len)with hz | hz
  ·have ha:arr.toList= []:=by
    rw [hz,Nat.zero_mul]at h3
    exact List.length_eq_zero_iff.1 (by simpa using h3)
   have hns:new= []:=List.length_eq_zero_iff.1 (by rw [hnl]; exact hz)
   have hsame:splice rows off new=rows:=by rw [hns]; simp [splice]
   have hupd:updF [(id,some (Ob.cap (n+1) (splice rows off new) cp))] (look H)=look H:=by
    funext j
    rw [q06,hsame]
    split
    ·rename_i e; rw [<- e,hob]
    ·rfl
   refine ⟨.value _,_,_,run w (by rw [ha]; rfl), .inl rfl,Done.set (Stp.refl _ _) (by rw [hupd]; exact hI) (.c (.d (.lit rfl)))⟩
  ·have hpos:0 < cap:=by have:=Nat.min_le_right len2 len; omega
   have haddr:=haddr hpos
   obtain ⟨ty,hty⟩:=hown
   have hlen:arr.toList.length=min len2 len * (n+1):=by simpa using h3
   have hml:min len2 len * (n+1)<=len * (n+1):=Nat.mul_le_mul_right _ (Nat.min_le_right _ _)
   have hmc:len * (n+1)<=cap * (n+1):=Nat.mul_le_mul_right _ hcap
   have hst:=run_storeCells_at P l.blk addr ty arr.toList 0 old w hty (by rw [hlen,hext]; omega) (λv hv=>by rw [q5p]; exact h5 v hv)
   simp only [Nat.add_zero]at hst
   have hown:Own w l.blk old:=⟨ty,hty⟩
   obtain ⟨p1,p2,p3,p4,p5⟩:=q4r (w:=w) (b:=l.blk) (o:=addr) (n:=arr.toList.length) (vs:=arr.toList) hown rfl
   have hset:=hI.set (o':= .cap (n+1) (splice rows off new) cp) hob rfl (by rw [hphi]; exact p2) p3 p4 (by rw [hphi]; exact p5 (by rw [hlen,hext]; omega)) ⟨rfl,rfl,rfl,Nat.le_refl _⟩ (λhstp=>by
    rw [hphi]
    have h6:=(qnj (vs:=arr.toList) (off:=off) hrr hoff (by rw [hnl]; exact hlen) (by simpa using h4) (by rw [hnl,hext]; omega)).mono hstp
    rw [<- haddr]at h6
    have hsl:(splice rows off new).length=max rows.length (off+min len2 len):=by rw [qbz _ _ _ hoff,hnl]
    have:=Nat.min_le_right len2 len
    exact .cap hsz0 hl hS hK p1 (by simp only [List.size_toArray]; rw [q0p _ _ _ (by rw [hlen]; simp only [Array.length_toList,hext]; omega)]; simpa using hext) hfit h6 (by rw [hsl]; omega) hcc)
   exact ⟨.value _,_,_,run _ hst, .inl rfl,Done.set hset.1 hset.2 (.c (.d (.lit rfl)))⟩
 split at hl
 ·rename_i szo rows cp szo2 rows2 hob hob2
  split at hl
  ·rename_i hb
   obtain ⟨e1,e3,hoff,hle⟩:=hb
   obtain ⟨rfl,rfl,_⟩:((min len2 len:Nat):Int)=i/\ [(id,some (Ob.cap (n+1) (splice rows off ((rows2.drop off2).take (min len2 len))) cp))]=u/\ [id,id2]=ids:=by simpa using hl
   obtain ⟨_,hl2,hR2⟩:=q4i hI (.inl hob2)
   have hs2:(φ id2).sz=n+1:=by
    cases hxr with
    | c hxr=>obtain ⟨_,_,_,h9,_⟩:=hxr.osl_inv; rw [h9,e3]
   obtain rfl:szo2=n+1:=by rw [<- hl2,hs2]
   exact key _ _ _ _ hob e1 e3 hoff hle hs2 hR2
  ·simp at hl
 ·rename_i szo rows cp szo2 rows2 cp2 hob hob2
  split at hl
  ·rename_i hb
   obtain ⟨e1,e3,hoff,hle⟩:=hb
   obtain ⟨rfl,rfl,_⟩:((min len2 len:Nat):Int)=i/\ [(id,some (Ob.cap (n+1) (splice rows off ((rows2.drop off2).take (min len2 len))) cp))]=u/\ [id,id2]=ids:=by simpa using hl
   obtain ⟨_,h0⟩:=hI.obj _ _ hob2
   cases h0 with
   | cap hsz0 hl2 hS hK hown hext hfit hrr hvis hcc=>
    have hs2:(φ id2).sz=n+1:=by
     cases hxr with
     | c hxr=>obtain ⟨_,_,_,h9,_⟩:=hxr.osl_inv; rw [h9,e3]
    obtain rfl:szo2=n+1:=by rw [<- hl2,hs2]
    exact key _ _ _ _ hob e1 e3 hoff hle hs2 ⟨hrr.1,λi r hi j x hj=>let ⟨y,hy,hd⟩:=hrr.2 i r hi j x hj; ⟨y,(hown.cell _).trans hy,hd⟩⟩
  ·simp at hl
 ·simp at hl
theorem qtl{c:Go.Call}{d x:Operand}{dt xt el:TypeId}{n:Nat}(ho:o.op= .call c)(hcal:c.callee= .builtin .copy)(hargs:c.args=#[d,x])(hts:c.argTypes=#[dt,xt])
  (hud:P.underlying dt=some (.slice el)) (hsz:szOf P el=some (n+1)) (hI:Inv S K w0 Kn φ (look H) w) {td tx:Option TV} (hd:∀y,td=some y->RTV S w Kn φ y (ρ d)) (hx:∀y,tx=some y->RTV S w Kn φ y (ρ x))
  (h:ev1 call (.copy (n+1)) [td,tx] H nxt=some (v,u,ids,n')):Runs P o ρ S K w0 w Kn φ (look H) nxt n' v u:=by
 match td,tx,h,hd,hx with
 | some (.c dc),some (.c xc),h,hd,hx=>
  change (match q4z (n+1) dc xc H with | some (i,u,ids)=>some (lv (.int .i64 i),u,ids,nxt) | none=>(match q6g (n+1) dc xc H with | some (i,u,ids)=>some (lv (.int .i64 i),u,ids,nxt) | none=>none))=_ at h
  split at h
  ·rename_i i u1 ids1 hl
   obtain ⟨rfl,rfl,rfl,rfl⟩:lv (.int .i64 i)=v/\u1=u/\ids1=ids/\nxt=n':=by simpa using h
   unfold q4z at hl
   cases hx _ rfl with
   | c hxr=>
   split at hl
   ·rename_i new ids2 hrx
    obtain ⟨rfl,rfl,rfl⟩:0=i/\ []=u1/\ids2=ids1:=by simpa using hl
    obtain ⟨hv,_⟩:=(hd _ rfl).lit
    obtain ⟨h1,arr,h2,h3,_,_⟩:=q9s (P:=P) (sz:=n+1) (Nat.succ_pos n) hI hxr hrx 0 (Nat.zero_le _)
    have he:(Nat.min new.length 0)=0:=Nat.min_zero _
    refine Runs.pure hI ?_ (.c (.d (.lit rfl)))
    simp only [execOp,ho,hcal,resolve,hargs,Sem.run_bind,Sem.run_pure,Result.andThen_ok,invoke,builtin,Builtin.copy_,hts,List.map_toArray,List.map_cons,List.map_nil,hv,List.getElem?_toArray,
     List.getElem?_cons_zero,List.getElem?_cons_succ,q0a hud,q21 hsz,h1,he,h2,goInt]
    rfl
   ·rename_i new ids2 sz' id off len hrx
    split at hl
    ·rename_i szo rows hob
     split at hl
     ·rename_i hb
      obtain ⟨e1,hle⟩:=hb
      subst e1
      obtain ⟨rfl,rfl,rfl⟩:((min new.length len:Nat):Int)=i/\ [(id,some (Ob.arr (n+1) (splice rows off (new.take len))))]=u1/\id :: ids2=ids1:=by simpa using hl
      have hdr:=hd _ rfl
      generalize hv0:ρ d=val at hdr
      cases hdr with
      | c hdr=>
      obtain ⟨h1,arr,h2,h3,h4,h5⟩:=q9s (P:=P) (sz:=n+1) (Nat.succ_pos n) hI hxr hrx (min new.length len) (Nat.min_le_left _ _)
      have htk:new.take (min new.length len)=new.take len:=by
       rcases Nat.le_total new.length len with hc | hc
       ·rw [Nat.min_eq_left hc,List.take_of_length_le (Nat.le_refl _),List.take_of_length_le hc]
       ·rw [Nat.min_eq_right hc]
      rw [htk]at h4
      have htl:(new.take len).length=min new.length len:=by simp [Nat.min_comm]
      have hmn:Nat.min new.length len=min new.length len:=rfl
      obtain ⟨hk0,h0⟩:=hI.obj _ _ hob
      generalize hphi:φ id=l at *
      cases h0 with
      | @arr _ _ old hsz0 hl hS hK hown hext hfit hrr hvis=>
      obtain ⟨cap,addr,rfl,hszl,hk,hcap,haddr,hextc,hcl⟩:=hdr.osl_inv
      rw [hphi]at hv0 haddr hextc hszl hcl
      have e2:szo=n+1:=by rw [<- hl,hszl]
      subst e2
      rw [hl]at haddr hextc
      have run:∀w',(storeCells ⟨l.blk,addr,none⟩ arr.toList).run P w= .ok () w'->(execOp ρ o).run P w= .ok (.value (goInt ((min new.length len:Nat):Int))) w':=by
       intro w' hst
       simp only [execOp,ho,hcal,resolve,hargs,Sem.run_bind,Sem.run_pure,Result.andThen_ok,invoke,builtin,Builtin.copy_,hts,List.map_toArray,List.map_cons,List.map_nil,hv0,List.getElem?_toArray,
        List.getElem?_cons_zero,List.getElem?_cons_succ,q0a hud,q21 hsz,h1,hmn,h2,hst]
      rcases Nat.eq_zero_or_pos (min new.length len)with hz | hz
      ·have ha:arr.toList= []:=by
        rw [hz,Nat.zero_mul]at h3
        exact List.length_eq_zero_iff.1 (by simpa using h3)
       have hns:new.take len= []:=List.length_eq_zero_iff.1 (by rw [htl]; exact hz)
       have hsame:splice rows off (new.take len)=rows:=by rw [hns]; simp [splice]
       have hupd:updF [(id,some (Ob.arr (n+1) (splice rows off (new.take len))))] (look H)=look H:=by
        funext j
        rw [q06,hsame]
        split
        ·rename_i e; rw [<- e,hob]
        ·rfl
       refine ⟨.value _,_,_,run w (by rw [ha]; rfl), .inl rfl,Done.set (Stp.refl _ _) (by rw [hupd]; exact hI) (.c (.d (.lit rfl)))⟩
      ·have hpos:0 < cap:=by have:=Nat.min_le_right new.length len; omega
       have haddr:=haddr hpos
       obtain ⟨ty,hty⟩:=hown
       have hlen:arr.toList.length=min new.length len * (n+1):=by simpa using h3
       have hml:min new.length len * (n+1)<=len * (n+1):=Nat.mul_le_mul_right _ (Nat.min_le_right _ _)
       have hmc:len * (n+1)<=cap * (n+1):=Nat.mul_le_mul_right _ hcap
       have hst:=run_storeCells_at P l.blk addr ty arr.toList 0 old w hty (by rw [hlen,hext]; omega) (λv hv=>by rw [q5p]; exact h5 v hv)
       simp only [Nat.add_zero]at hst
       have hown:Own w l.blk old:=⟨ty,hty⟩
       obtain ⟨p1,p2,p3,p4,p5⟩:=q4r (w:=w) (b:=l.blk) (o:=addr) (n:=arr.toList.length) (vs:=arr.toList) hown rfl
       have hset:=hI.set (o':= .arr (n+1) (splice rows off (new.take len))) hob rfl (by rw [hphi]; exact p2) p3 p4 (by rw [hphi]; exact p5 (by rw [hlen,hext]; omega)) ⟨rfl,rfl,rfl,Nat.le_refl _⟩ (λhstp=>by
        rw [hphi]
        have h6:=(qjk (vs:=arr.toList) (off:=off) hrr (by rw [htl]; have:=Nat.min_le_right new.length len; omega) (by rw [htl]; exact hlen) (by simpa using h4) (by rw [hext]; exact hfit)).mono hstp
        rw [<- haddr]at h6
        have hsl:(splice rows off (new.take len)).length=rows.length:=q0p _ _ _ (by rw [htl]; have:=Nat.min_le_right new.length len; omega)
        exact .arr hsz0 hl hS hK p1 (by simp only [List.size_toArray]; rw [q0p _ _ _ (by rw [hlen]; simp only [Array.length_toList,hext]; omega)]; simpa using hext) (by rw [hsl]; exact hfit) h6 (by rw [hsl]; exact hvis))
       exact ⟨.value _,_,_,run _ hst, .inl rfl,Done.set hset.1 hset.2 (.c (.d (.lit rfl)))⟩
     ·simp at hl
    ·simp at hl
   ·simp at hl
  ·split at h
   ·rename_i i u1 ids1 hl
    obtain ⟨rfl,rfl,rfl,rfl⟩:lv (.int .i64 i)=v/\u1=u/\ids1=ids/\nxt=n':=by simpa using h
    exact qrk ho hcal hargs hts hud hsz hI (hd _ rfl) (hx _ rfl) hl
   ·simp at h
theorem qqu{c:Go.Call}{d:Operand}{dt el:TypeId}{n:Nat}{z:List Value}(ho:o.op= .call c)(hcal:c.callee= .builtin .clear)(hargs:c.args=#[d])(hts:c.argTypes=#[dt])
  (hud:P.underlying dt=some (.slice el)) (_hsz:szOf P el=some (n+1)) (hz:q37 P el=some z) (hzl:z.length=n+1) (hI:Inv S K w0 Kn φ (look H) w) {td:Option TV} (hd:∀y,td=some y->RTV S w Kn φ y (ρ d))
  (h:ev1 call (.clear z) [td] H nxt=some (v,u,ids,n')):Runs P o ρ S K w0 w Kn φ (look H) nxt n' v u:=by
 obtain ⟨zv,hzr,hzv,hzp⟩:=q6l hz w
 match td,h,hd with
 | some (.c dc),h,hd=>
  change (match q64 z dc H with | some (u,ids)=>some (TV.tup [],u,ids,nxt) | none=>none)=_ at h
  split at h
  ·rename_i u1 ids1 hl
   obtain ⟨rfl,rfl,rfl,rfl⟩:TV.tup []=v/\u1=u/\ids1=ids/\nxt=n':=by simpa using h
   unfold q64 at hl
   split at hl
   ·rename_i sz' id off len
    split at hl
    ·rename_i szo rows hob
     split at hl
     ·rename_i hb
      obtain ⟨e1,hle⟩:=hb
      rw [hzl]at e1
      subst e1
      obtain ⟨rfl,_⟩:=Prod.mk.inj (Option.some.inj hl)
      have hdr:=hd _ rfl
      generalize hv0:ρ d=val at hdr
      cases hdr with
      | c hdr=>
      obtain ⟨hk0,h0⟩:=hI.obj _ _ hob
      generalize hphi:φ id=l at *
      cases h0 with
      | @arr _ _ old hsz0 hlz hS hK hown hext hfit hrr hvis=>
      obtain ⟨cap,addr,rfl,hszl,hk,hcap,haddr,hextc,hcl⟩:=hdr.osl_inv
      rw [hphi]at hv0 haddr hextc hszl hcl
      have e2:szo=n+1:=by rw [<- hlz,hszl]
      subst e2
      rw [hlz]at haddr hextc
      have hzs:zv.cells.size=n+1:=by rw [<- hzl,<- hzv]; simp
      obtain ⟨inf,hzr'⟩:∃inf:Unit,True:=⟨(),trivial⟩
      cases len with
      | zero=>
       have hsame:splice rows off (List.replicate 0 (litsD z))=rows:=by simp [splice]
       have hupd:updF [(id,some (Ob.arr (n+1) (splice rows off (List.replicate 0 (litsD z)))))] (look H)=look H:=by
        funext j
        rw [q06,hsame]
        split
        ·rename_i e; rw [<- e,hob]
        ·rfl
       refine ⟨.value (.tuple #[]), .tuple #[],w, ?_, .inl rfl,Done.set (Stp.refl _ _) (by rw [hupd]; exact hI) (.tup rfl λi x hi=>by simp at hi)⟩
       simp only [execOp,ho,hcal,resolve,hargs,Sem.run_bind,Sem.run_pure,Result.andThen_ok,invoke,builtin,Builtin.clear_,hts,List.map_toArray,List.map_cons,List.map_nil,hv0,List.getElem?_toArray,
        List.getElem?_cons_zero,q0a hud]
      | succ len=>
       have hpos:0 < cap:=by omega
       have haddr:=haddr hpos
       obtain ⟨ty,hty⟩:=hown
       let arr:=(Builtin.zeroCells zv.cells (len+1)).toList
       have hlen:arr.length=(len+1) * (n+1):=by simp [arr,Builtin.zeroCells,hzs]
       have hget:∀k,k < (len+1) * (n+1)->arr[k]? =z[k % (n+1)]? :=λk hk=>by
        have harr:arr=(List.range ((len+1) * (n+1))).map λi=>z.getD (i % (n+1)) undef:=by
         have:=qah (n:=(len+1) * (n+1)) hzv hzl (Nat.succ_pos n)
         simp only [arr,Builtin.zeroCells,hzs]
         rw [hzs]at this
         exact this
        have hm:k % (n+1) < z.length:=by rw [hzl]; exact Nat.mod_lt _ (Nat.succ_pos _)
        rw [harr,List.getElem?_map,List.getElem?_range hk]
        simp [List.getD,List.getElem?_eq_getElem hm]
       have hmc:(len+1) * (n+1)<=cap * (n+1):=Nat.mul_le_mul_right _ hcap
       have hst:=run_storeCells_at P l.blk addr ty arr 0 old w hty (by rw [hlen,hext]; omega) (λv hv=>by
        rw [q5p]
        obtain ⟨k,hk⟩:=List.getElem?_of_mem hv
        have hkl:=(List.getElem?_eq_some_iff.1 hk).1
        rw [hlen]at hkl
        rw [hget k hkl]at hk
        exact q9p (hzp v (List.mem_of_getElem? hk)))
       simp only [Nat.add_zero]at hst
       have hown:Own w l.blk old:=⟨ty,hty⟩
       obtain ⟨p1,p2,p3,p4,p5⟩:=q4r (w:=w) (b:=l.blk) (o:=addr) (n:=arr.length) (vs:=arr) hown rfl
       have hrl:(List.replicate (len+1) (litsD z)).length=len+1:=by simp
       have hset:=hI.set (o':= .arr (n+1) (splice rows off (List.replicate (len+1) (litsD z)))) hob rfl (by rw [hphi]; exact p2) p3 p4 (by rw [hphi]; exact p5 (by rw [hlen,hext]; omega)) ⟨rfl,rfl,rfl,Nat.le_refl _⟩ (λhstp=>by
        rw [hphi]
        have h6:=(qjk (vs:=arr) (ns:=List.replicate (len+1) (litsD z)) (off:=off) hrr (by rw [hrl]; omega) (by rw [hrl]; exact hlen) ⟨λi r hi=>by
          rw [List.getElem?_replicate]at hi
          split at hi
          ·rw [<- Option.some.inj hi]; simp [litsD,hzl]
          ·simp at hi,λi r hi j x hj=>by
          rw [List.getElem?_replicate]at hi
          split at hi
          ·rename_i hil
           obtain rfl:=Option.some.inj hi
           simp only [litsD,List.getElem?_map]at hj
           obtain ⟨y,hy,rfl⟩:=Option.map_eq_some_iff.1 hj
           have hjl:j < n+1:=by rw [<- hzl]; exact (List.getElem?_eq_some_iff.1 hy).1
           have hm:(i+1) * (n+1)<=(len+1) * (n+1):=Nat.mul_le_mul_right _ hil
           rw [Nat.succ_mul]at hm
           refine ⟨y, ?_, .lit (hzp y (List.mem_of_getElem? hy))⟩
           show arr[0+i * (n+1)+j]? =_
           rw [hget _ (by omega),Nat.zero_add,Nat.mul_comm,Nat.mul_add_mod,Nat.mod_eq_of_lt hjl]; exact hy
          ·simp at hi⟩ (by rw [hext]; exact hfit)).mono hstp
        rw [<- haddr]at h6
        have hsl:(splice rows off (List.replicate (len+1) (litsD z))).length=rows.length:=q0p _ _ _ (by rw [hrl]; omega)
        exact .arr hsz0 hlz hS hK p1 (by simp only [List.size_toArray]; rw [q0p _ _ _ (by rw [hlen]; simp only [Array.length_toList,hext]; omega)]; simpa using hext) (by rw [hsl]; exact hfit) h6 (by rw [hsl]; exact hvis))
       refine ⟨.value (.tuple #[]), .tuple #[],_, ?_, .inl rfl,Done.set hset.1 hset.2 (.tup rfl λi x hi=>by simp at hi)⟩
       simp only [execOp,ho,hcal,resolve,hargs,Sem.run_bind,Sem.run_pure,Result.andThen_ok,invoke,builtin,Builtin.clear_,hts,List.map_toArray,List.map_cons,List.map_nil,hv0,List.getElem?_toArray,
        List.getElem?_cons_zero,q0a hud,hzr]
       rw [hst]
       rfl
     ·simp at hl
    ·simp at hl
   ·simp at hl
  ·simp at h
theorem qw2{c:Go.Call}{d:Operand}{dt el:TypeId}(ho:o.op= .call c)(hcal:c.callee= .builtin .cap)(hargs:c.args=#[d])(hts:c.argTypes=#[dt])
  (hud:P.underlying dt=some (.slice el)) (hI:Inv S K w0 Kn φ (look H) w) {td:Option TV} (hd:∀y,td=some y->RTV S w Kn φ y (ρ d))
  (h:ev1 call .capK [td] H nxt=some (v,u,ids,n')):Runs P o ρ S K w0 w Kn φ (look H) nxt n' v u:=by
 match td,h,hd with
 | some (.c dc),h,hd=>
  change (match evCap dc H with | some (n,ids)=>some (lv (.int .i64 n),([]:Upd),ids,nxt) | none=>none)=_ at h
  split at h
  ·rename_i m ids1 hl
   obtain ⟨rfl,rfl,rfl,rfl⟩:lv (.int .i64 m)=v/\ []=u/\ids1=ids/\nxt=n':=by simpa using h
   unfold evCap at hl
   split at hl
   ·rename_i sz id off len
    split at hl
    ·rename_i szo rows cp hob
     obtain ⟨rfl,_⟩:=Prod.mk.inj (Option.some.inj hl)
     have hdr:=hd _ rfl
     generalize hv0:ρ d=val at hdr
     cases hdr with
     | c hdr=>
     obtain ⟨cap,addr,rfl,_,_,_,_,_,hcl⟩:=hdr.osl_inv
     obtain ⟨_,h0⟩:=hI.obj _ _ hob
     cases h0 with
     | cap hsz0 hl hS hK hown hext hfit hrr hvis hcc=>
     have e:cp - off=cap:=by omega
     refine Runs.pure hI ?_ (.c (.d (.lit rfl)))
     simp only [execOp,ho,hcal,resolve,hargs,Sem.run_bind,Sem.run_pure,Result.andThen_ok,invoke,builtin,Builtin.cap_,hts,List.map_toArray,List.map_cons,List.map_nil,hv0,List.getElem?_toArray,
      List.getElem?_cons_zero,q0a hud,e]
     rfl
    ·simp at hl
   ·simp at hl
  ·simp at h
theorem qa6{w:World}{ts rs:Array TypeId}{tS e:TypeId}{sz:Nat}(hts:ts[0]? =some tS)(ht:P.underlying tS=some (.slice e))(hz:szOf P e=some (sz+1))
  {a b:Addr} {la ca lb cb:Nat} (hne:a.block≠b.block) {A B:Array Value} (hA:Own w a.block A) (hB:Own w b.block B) (hkB:B.size≠0):
  (Extern.SlicesOverlaps.overlaps ts rs #[.slice (some a) la ca, .slice (some b) lb cb]).run P w= .ok (.bool false) w:=by
 have hnb:(a.block != b.block)=true:=by simpa using hne
 have hnb':(a.block == b.block)=false:=by simpa using hne
 obtain ⟨tA,hA1⟩:=hA
 obtain ⟨tB,hB1⟩:=hB
 have hsa:w.shape? a.block=some (tA,A.size):=by simp [World.shape?,hA1]
 have hsb:w.shape? b.block=some (tB,B.size):=by simp [World.shape?,hB1]
 have hfa:w.frozen? a=false:=by simp [World.frozen?,hA1]
 have hfe:w.frozen? { block:=a.block,off:=A.size }=false:=by simp [World.frozen?,hA1]
 change Sem.run P (α:=Value) (do
  let some t := ts[0]? | stuck "slices.overlaps: no parameter types"
  let .slice elem ← underlying t | stuck "slices.overlaps: slice type expected"
  let size <- sizeOf elem
  match (some a:Option Addr),(some b:Option Addr)with
  | some a,some b=>
   if la=0\/lb=0\/size=0 then pure (Value.bool false)
   else if a.block != b.block && (<- frozen a) && (<- frozen b)then unsupported .addressObserved
   else do
    if a.block != b.block then do
     noView a; noView b
     if ← mayBeOne a b then return Value.bool ((← choose (.extern "sameAddr.stringBytes" 2)) == 1)
    pure (Value.bool (a.block == b.block && a.off < b.off+lb * size && b.off < a.off+la * size))
  | _,_=>pure (Value.bool false)) w=_
 by_cases h0:la=0\/lb=0
 ·simp only [hts,Sem.run_bind,q0a ht,q21 hz,Result.andThen_ok]
  rw [if_pos (h0.elim .inl λh=> .inr (.inl h))]
  rfl
 ·cases hk:B.size with
  | zero=>exact absurd hk hkB
  | succ kB=>
   rw [hk]at hsb
   simp [hts,q0a ht,q21 hz,h0,hnb,hnb',frozen,noView,viewAt,mayBeOne,stringish,shape,Sem.run,hsa,hsb,hfa,hfe]
theorem qkv {f : FuncId} {fn : Func} {e : Array Value → Sem Value} (hf : P.funcs[f]? = some fn) (hname : (fn.name == "runtime.NumGoroutine") = false)
  (hb:fn.body.isNone=true) (hn:Extern.findNext fn=none) (he:Extern.find fn=some e) (args:Array Value) (w:World):
  (callFunc f args).run P w=((e args).run P w).andThen λv w'=> .ok (.value v) w':=by
 have h1 : fn.name ≠ "runtime.NumGoroutine" := by simpa using hname
 have h2:fn.body=none:=by simpa using hb
 simp [callFunc,hf,h1,h2,hn,he,mark,Sem.run]
theorem qtj : Extern.allGenericRows.lookup "slices.overlaps" = none := by kernel_rfl
theorem qpd : Extern.allTypedRows.lookup "slices.overlaps" = some Extern.SlicesOverlaps.overlaps := by kernel_rfl
theorem qvp{c:Go.Call}{f:FuncId}{x y:Operand}(ho:o.op= .call c)(hcal:c.callee= .value (.func f))(hargs:c.args=#[x,y])(hf:isOvl P f=true)(hρf:ρ (.func f)= .func (.func f) #[] #[])
  (hI:Inv S K w0 Kn φ (look H) w) {tx ty:Option TV} (hx:∀z,tx=some z->RTV S w Kn φ z (ρ x)) (hy:∀z,ty=some z->RTV S w Kn φ z (ρ y))
  (h:ev1 call .ovl [tx,ty] H nxt=some (v,u,ids,n')):Runs P o ρ S K w0 w Kn φ (look H) nxt n' v u:=by
 match tx,ty,h,hx,hy with
 | some (.c xc),some (.c yc),h,hx,hy=>
  change (match evOvl xc yc H with | some ids=>some (lv (.bool false),([]:Upd),ids,nxt) | none=>none)=_ at h
  split at h
  ·rename_i ids1 hl
   obtain ⟨rfl,rfl,rfl,rfl⟩:lv (.bool false)=v/\ []=u/\ids1=ids/\nxt=n':=by simpa using h
   unfold evOvl at hl
   split at hl
   ·rename_i sz1 a off1 len1 sz2 b off2 len2
    split at hl
    ·rename_i s1 rows1 s2 rows2 cp hoa hob
     split at hl
     ·rename_i hc
      obtain ⟨hne,hcp⟩:=hc
      have hxr:=hx _ rfl
      have hyr:=hy _ rfl
      generalize hv0:ρ x=val at hxr
      generalize hv1:ρ y=val1 at hyr
      cases hxr with
      | c hxr=>
      cases hyr with
      | c hyr=>
      obtain ⟨cap1,addr1,rfl,_⟩:=hxr.osl_inv
      obtain ⟨cap2,addr2,rfl,_⟩:=hyr.osl_inv
      have hd:=hI.dist a b _ _ hoa hob rfl rfl hne
      obtain ⟨_,h0⟩:=hI.obj _ _ hoa
      obtain ⟨_,h1⟩:=hI.obj _ _ hob
      cases h0 with
      | @arr _ _ A _ _ _ _ hownA=>
      cases h1 with
      | @cap _ _ _ B hsz0 _ _ _ hownB hext hfit=>
      have hB0:B.size≠0:=by
       rw [hext]
       have:1 * 1<=cp * s2:=Nat.mul_le_mul hcp hsz0
       omega
      unfold isOvl at hf
      split at hf
      case h_2=>simp at hf
      rename_i fn hfn
      simp only [Bool.and_eq_true,Option.isNone_iff_eq_none,Bool.not_eq_true',beq_iff_eq]at hf
      obtain ⟨⟨⟨⟨⟨⟨⟨f1,f2⟩,f3⟩,f4⟩,f5⟩,f6⟩,f7⟩,f8⟩:=hf
      split at f8
      case h_2=>simp at f8
      rename_i t r hpar
      split at f8
      case h_2=>simp at f8
      rename_i el hel
      split at f8
      case h_2=>simp at f8
      rename_i n hsz
      have hp0:fn.params[0]? =some t:=by rw [<- Array.getElem?_toList,hpar]; rfl
      have hfind:Extern.find fn=some (Extern.SlicesOverlaps.overlaps fn.params fn.resultTypes):=by
       unfold Extern.find
       simp only [f4,f5,f6,f7,qtj,qpd]
       rfl
      have hrun:=qkv (P:=P) (f:=f) hfn f1 (by rw [f2]; rfl) f3 hfind #[.slice (some ⟨(φ a).blk,addr1,none⟩) len1 cap1, .slice (some ⟨(φ b).blk,addr2,none⟩) len2 cap2] w
      rw [qa6 hp0 hel hsz hd hownA hownB hB0]at hrun
      refine Runs.pure hI (val:= .bool false) ?_ (.c (.d (.lit rfl)))
      simp only [execOp,ho,hcal,resolve,hargs,Deferred.ofValue,Sem.run_bind,Sem.run_pure,Result.andThen_ok,invoke,List.map_toArray,List.map_cons,List.map_nil,hv0,hv1,hρf,Array.append_empty,Array.empty_append]
      simpa using hrun
     ·simp at hl
    ·simp at hl
   ·simp at hl
  ·simp at h
theorem qkg{n a m:Nat}{z:List Value}{zv:Value}{arr:Array Value}(hzv:zv.cells.toList=z)(hzl:z.length=n+1)(hzp:∀y∈z,plain y=true)(harr:arr=Builtin.zeroCells zv.cells m)(hle:a<=m):
  RowsAt S w (n+1) (λi=>arr[i]?) 0 (List.replicate a (litsD z)):=by
 have hsz:zv.cells.size=n+1:=by rw [<- hzl,<- hzv]; simp
 have hl:arr.toList=(List.range (m * (n+1))).map λi=>z.getD (i % (n+1)) undef:=by
  rw [harr]
  unfold Builtin.zeroCells
  rw [qah hzv hzl (Nat.succ_pos _),hsz]
 refine ⟨λi r hi=> ?_,λi r hi j x hj=> ?_⟩
 ·obtain ⟨_,rfl⟩:i < a/\litsD z=r:=by
   rw [List.getElem?_replicate]at hi
   split at hi
   ·rename_i hlt; exact ⟨hlt,Option.some.inj hi⟩
   ·simp at hi
  simp [litsD,hzl]
 ·obtain ⟨hlt,rfl⟩:i < a/\litsD z=r:=by
   rw [List.getElem?_replicate]at hi
   split at hi
   ·rename_i hlt; exact ⟨hlt,Option.some.inj hi⟩
   ·simp at hi
  simp only [litsD,List.getElem?_map]at hj
  obtain ⟨y,hy,rfl⟩:=Option.map_eq_some_iff.1 hj
  have hjl:j < n+1:=by rw [<- hzl]; exact (List.getElem?_eq_some_iff.1 hy).1
  refine ⟨y, ?_, .lit (hzp y (List.mem_of_getElem? hy))⟩
  have hidx:i * (n+1)+j < m * (n+1):=by
   have:(i+1) * (n+1)<=m * (n+1):=Nat.mul_le_mul_right _ (by omega)
   rw [Nat.succ_mul]at this; omega
  show arr[0+i * (n+1)+j]? =some y
  rw [<- Array.getElem?_toList,hl,Nat.zero_add,List.getElem?_map,List.getElem?_range hidx]
  have e1:(i * (n+1)+j) % (n+1)=j:=by
   rw [Nat.add_comm,Nat.add_mul_mod_self_right]; exact Nat.mod_eq_of_lt hjl
  simp [e1,List.getD,hy]
theorem qwd{c:Go.Call}{s x:Operand}{st xt el:TypeId}{kd:IntKind}{n:Nat}{z:List Value}(ho:o.op= .call c)(hcal:c.callee= .builtin .append)(hargs:c.args=#[s,x])(hts:c.argTypes=#[st,xt])
  (hus:P.underlying st=some (.slice el)) (hux:P.underlying xt=some (.int kd)) (hsz:szOf P el=some (n+1)) (hz:q37 P el=some z) (hzl:z.length=n+1) (hby:q5w P el=true)
  (hI:Inv S K w0 Kn φ (look H) w) (hn0:nxt < n'->¬Kn nxt) {ta tx:Option TV} (ha:∀y,ta=some y->RTV S w Kn φ y (ρ s)) (hx:∀y,tx=some y->RTV S w Kn φ y (ρ x))
  (h:ev1 call (.apm z) [ta,tx] H nxt=some (v,u,ids,n')):Runs P o ρ S K w0 w Kn φ (look H) nxt n' v u:=by
 obtain ⟨inf,hinf,hb0,hb1⟩:=q86 hby
 obtain ⟨zv,hzr,hzv,hzp⟩:=q6l hz w
 match ta,tx,h,ha,hx with
 | some (.c sc),some (.c (.d (.lit (.int k1 k)))),h,ha,hx=>
  change evApm z sc k H nxt=_ at h
  unfold evApm at h
  split at h
  case h_2=>simp at h
  rename_i sz' id off len
  split at h
  case h_2=>simp at h
  rename_i szo rows cp hob
  split at h
  case isFalse=>simp at h
  rename_i hc
  obtain ⟨e1,hk0,hlim,hvis,hcp⟩:=hc
  rw [hzl]at e1
  subst e1
  simp only [lim]at hlim
  obtain ⟨rfl,rfl,rfl,rfl⟩:TV.c (.osl z.length nxt 0 (len+k.toNat))=v/\ [(nxt,some (Ob.arr z.length ((rows.drop off).take len++List.replicate k.toNat (litsD z))))]=u/\ [id]=ids/\nxt+1=n':=by simpa using h
  have hn:=hn0 (Nat.lt_succ_self _)
  obtain ⟨hvx,_⟩:=(hx _ rfl).lit
  have hr:=ha _ rfl
  generalize hv0:ρ s=val at hr
  cases hr with
  | c hr=>
  obtain ⟨_,h0⟩:=hI.obj _ _ hob
  generalize hphi:φ id=l at *
  cases h0 with
  | @cap _ _ _ arr hsz0 hl hS hK hown hext hfit hrr hvv hcc=>
  obtain ⟨cap,addr,rfl,hszl,hk,hcap,haddr,hextc,hcl⟩:=hr.osl_inv
  rw [hphi]at hv0 haddr hextc hszl hcl
  have e2:szo=n+1:=by rw [<- hl,hszl]
  subst e2
  rw [hl]at haddr
  have hlt:cap < len+k.toNat:=by omega
  have hkp:0 < k.toNat:=by omega
  have hlen:((rows.drop off).take len).length=len:=by simp; omega
  have hRc:RowsAt S w (n+1) (λi=>w.cell? ⟨l.blk,i,none⟩) addr ((rows.drop off).take len):=by
   have hR:=hrr.sub' (addr:=addr) off len λh=>haddr (by omega)
   exact ⟨hR.1,λi r hi j x hj=>let ⟨y,hy,hd⟩:=hR.2 i r hi j x hj; ⟨y,(hown.cell _).trans hy,hd⟩⟩
  obtain ⟨old,hold,hos,hoR,hoone⟩:=q74 (P:=P) (sz:=n+1) (Nat.succ_pos n) hRc
  rw [hlen]at hold hos
  have hinfo:∀w:World,(typeInfo el).run P w= .ok inf w:=λw=>by simp [typeInfo,hinf]
  have hzr':∀w:World,(zeroValue el).run P w= .ok zv w:=by
   intro w'
   simp only [zeroValue,typeInfo,Sem.run_bind,run_program,Result.andThen_ok,hinf,Sem.run_pure]at hzr ⊢
   cases hzz:inf.zero with
   | none=>rw [hzz]at hzr; simp at hzr
   | some q=>rw [hzz]at hzr; simp at hzr ⊢; exact hzr
  have hunx:∀w:World,(underlying xt).run P w= .ok (.int kd) w:=q0a hux
  have hwk:IntKind.i64.wrap k=k:=q96 hk0 (by omega)
  have hkn:¬k < 0:=by omega
  have hmul:k * (inf.bytes:Int)<=2147483648 * 16384:=Int.mul_le_mul (by omega) (by omega) (by omega) (by omega)
  have hbig:¬k * (inf.bytes:Int) > 2 ^ 48:=by omega
  have hcapn:¬Builtin.nextslicecap (len+k.toNat) cap * inf.bytes > 2 ^ 48:=by
   have h1:=qsg hlim hlt
   have h2:Builtin.nextslicecap (len+k.toNat) cap * inf.bytes<=6442454016 * 16384:=Nat.mul_le_mul h1 hb1
   omega
  have hbz:¬inf.bytes=0:=by omega
  have hnle:¬len+k.toNat<=cap:=by omega
  have hmx:¬(((len+k.toNat:Nat):Int) > IntKind.i64.max):=by
   have:IntKind.i64.max=9223372036854775807:=rfl
   rw [this]; omega
  have hns:¬k.toNat * (n+1)=0:=by
   have:1 * 1<=k.toNat * (n+1):=Nat.mul_le_mul hkp (by omega)
   omega
  have ho2:(Builtin.firstCells (n+1) len (.slice (some ⟨l.blk,addr,none⟩) len cap)).run P { w with drawn:=w.drawn+1 }= .ok old { w with drawn:=w.drawn+1 }:=hold { w with drawn:=w.drawn+1 } rfl
  have hzs:zv.cells.size=n+1:=by rw [<- hzl,<- hzv]; simp
  have zsize:∀m,(Builtin.zeroCells zv.cells m).size=m * (n+1):=by
   intro m; simp [Builtin.zeroCells,hzs]
  have hnc:len+k.toNat<=(Question.appendCap (len+k.toNat) cap el).cut (w.tape w.drawn (.appendCap (len+k.toNat) cap el)):=by simp [Question.cut]
  have hrun:(execOp ρ o).run P w= .ok (.value (.slice (some ⟨w.heap.size,0,none⟩) (len+k.toNat) ((Question.appendCap (len+k.toNat) cap el).cut (w.tape w.drawn (.appendCap (len+k.toNat) cap el)))))
    {({ w with drawn:=w.drawn+1 }:World)with heap:=w.heap.push (.cells (old++Builtin.zeroCells zv.cells k.toNat++Builtin.zeroCells zv.cells ((Question.appendCap (len+k.toNat) cap el).cut (w.tape w.drawn (.appendCap (len+k.toNat) cap el)) - (len+k.toNat))) el) }:=by
   simp only [execOp,ho,hcal,resolve,hargs,Sem.run_bind,Sem.run_pure,Result.andThen_ok,invoke,builtin,Builtin.append_,hts,List.map_toArray,List.map_cons,List.map_nil,hv0,hvx,List.getElem?_toArray,
    List.getElem?_cons_zero,List.getElem?_cons_succ,q0a hus,q21 hsz,hunx,qbe (n:=k) (k:=k1) rfl,hwk,hkn,if_false,hinfo,hbig,hnle,hmx,false_and,hcapn,if_true,hns,run_choose,Question.forced,run_askRoom,ho2,hzr',newRow,run_newObj,Bool.not_true,Bool.false_eq_true]
  generalize hcv:(Question.appendCap (len+k.toNat) cap el).cut (w.tape w.drawn (.appendCap (len+k.toNat) cap el))=newCap at *
  refine ⟨.value _,_,_,hrun, .inl rfl, ?_⟩
  have hD:=Done.arr (K:=K) (w0:=w0) (hI.drew (w.drawn+1) (Nat.le_succ _)) hn (sz:=n+1) (cap:=newCap) (arr:=old++Builtin.zeroCells zv.cells k.toNat++Builtin.zeroCells zv.cells (newCap - (len+k.toNat))) (rows:=(rows.drop off).take len++List.replicate k.toNat (litsD z)) el (Nat.succ_pos n)
   (by rw [List.length_append,hlen,List.length_replicate]; exact hnc)
   (by
    simp only [Array.size_append,hos,zsize]
    rw [<- Nat.add_mul,<- Nat.add_mul]
    exact Nat.mul_le_mul_right _ (by omega))
   (RowsAt.mono (Stp.drew S w _) (by
    refine q63 ⟨hoR.1,λi r hi j x hj=> ?_⟩ ?_
    ·obtain ⟨y,hy,hr⟩:=hoR.2 i r hi j x hj
     refine ⟨y, ?_,hr⟩
     have hlt:=(Array.getElem?_eq_some_iff.1 hy).1
     show (old++_++_)[_]? =_
     rw [Array.getElem?_append_left (by rw [Array.size_append]; omega),Array.getElem?_append_left hlt]
     exact hy
    ·have hz2:=qkg (S:=S) (w:=w) (a:=k.toNat) (m:=k.toNat) hzv hzl hzp rfl (Nat.le_refl _)
     refine ⟨hz2.1,λi r hi j x hj=> ?_⟩
     obtain ⟨y,hy,hr⟩:=hz2.2 i r hi j x hj
     refine ⟨y, ?_,hr⟩
     have hlt:=(Array.getElem?_eq_some_iff.1 hy).1
     show (old++_++_)[_]? =_
     rw [hlen,Array.getElem?_append_left (by rw [Array.size_append,hos]; omega),Array.getElem?_append_right (by rw [hos]; omega)]
     rw [<- hy,hos]
     show (Builtin.zeroCells zv.cells k.toNat)[_]? =(Builtin.zeroCells zv.cells k.toNat)[_]?
     congr 1; omega))
  rw [List.length_append,hlen,List.length_replicate]at hD
  rw [hzl]
  obtain ⟨a1, S', φ', a2, a3, a4, a5⟩ := hD
  exact ⟨a1, S', φ', (Stp.drew S w _).trans a2, a3, a4, a5⟩
end
end Go.Ev
