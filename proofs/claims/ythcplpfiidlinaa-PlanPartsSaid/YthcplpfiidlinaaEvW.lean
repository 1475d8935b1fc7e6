/- A region in any order, against the text's order. Conditions: operations whose names meet are ordered by the text; operations whose objects meet are ordered by the text, or the check at the run says that they do not meet. -/
import Derived.Test.YthcplpfiidlinaaEvR
import Derived.Orders
import Derived.Scope
namespace Go.Ev
def kcl:Ev.K->Nat
 | .mv | .pick | .build _ _ | .nilCheck | .bin _ | .eqBool _ | .eqNil _ _ | .eqAgg _ _ | .un _ | .convInt _ | .convSame | .mkFn _ | .fieldAddr _ _ | .field _ _ _
 | .indexAddr _ _ | .indexStr | .index _ _ _ | .extract _ | .len _ | .minmax _ | .bad=>0
 | .load _ _ | .lookup _ _ _ _ _ | .slice _ _ _ _=>1
 | _=>2
theorem qqh{call:Call}{k:Ev.K}{vs:List (Option TV)}{H:Heap}{nxt n:Nat}{v:TV}{u:Upd}{ids:List Nat}(hk:kcl k<=1)(h:ev1 call k vs H nxt=some (v,u,ids,n)):u= []:=by
 cases k <;> first
  | (simp [kcl]at hk; done)
  | (unfold ev1 at h
     repeat' split at h
     all_goals first
      | (simp at h; done)
      | (simp only [Option.some.injEq,Prod.mk.injEq]at h; exact h.2.1.symm)
      | (simp_all; done))
theorem qrj{call:Call}{k:Ev.K}{vs:List (Option TV)}{H:Heap}{nxt n:Nat}{v:TV}{u:Upd}{ids:List Nat}(hk:kcl k=0)(h:ev1 call k vs H nxt=some (v,u,ids,n)):ids= []:=by
 cases k <;> first
  | (simp [kcl]at hk; done)
  | (unfold ev1 at h
     repeat' split at h
     all_goals first
      | (simp at h; done)
      | (simp only [Option.some.injEq,Prod.mk.injEq]at h; exact h.2.2.1.symm)
      | (simp_all; done))
def q6h(acc:List Nat):List Edge->Nat
 | []=>0
 | e :: r=>if Region.binds .any e then (q6h acc r) ||| 2 ^ e.on ||| acc.getD e.on 0 else q6h acc r
def ancs:List Oper->List Nat->List Nat
 | [],acc=>acc
 | o :: r,acc=>ancs r (acc++ [q6h acc o.after.toList])
def ordOk(m:List Nat):List Oper->Nat->Bool
 | [],_=>true
 | o :: r,i=>m.getD i 0 == q6h m o.after.toList && o.after.toList.all (λe=> !(Region.binds .any e) || decide (e.on < i)) && ordOk m r (i+1)
def q11(m:List Nat)(i j:Nat):Bool:=(m.getD j 0).testBit i
def opT:Operand->Option Nat
 | .tmp t=>some t
 | _=>none
def qo0(o:COp):List Nat:=o.args.filterMap opT++(match o.guard with | some (t,_)=> [t] | none=> [])
def hits(d:Option Nat)(l:List Nat):Bool:=match d with | some d=>l.contains d | none=>false
def confl(a b:COp):Bool:=hits a.dst (qo0 b) || hits b.dst (qo0 a) || hits a.dst b.dst.toList
def qaa(m:List Nat)(i:Nat)(a:COp):List COp->Nat->Bool
 | [],_=>true
 | b :: r,j=>(q11 m i j || !confl a b) && qaa m i a r (j+1)
def sched(m:List Nat):List COp->Nat->Bool
 | [],_=>true
 | a :: r,i=>qaa m i a r (i+1) && sched m r (i+1)
def qmk:Value->Value->Bool
 | .int k a, .int k' b=>decide (k=k') && decide (a=b)
 | .bool a, .bool b=>decide (a=b)
 | .string a, .string b=>decide (a.toList=b.toList)
 | .float k a, .float k' b=>decide (k=k') && decide (a=b)
 | .slice none 0 0, .slice none 0 0 | .pointer none, .pointer none | .map none, .map none | .nilFunc, .nilFunc | .nilIface, .nilIface=>true
 | _,_=>false
def sameZ:List Value->List Value->Bool
 | [], []=>true
 | x :: xs,y :: ys=>qmk x y && sameZ xs ys
 | _,_=>false
def softK:Ev.K->Ev.K->Bool
 | .lookup ka ks va z false, .mapEntry ka' ks' va' z'=>decide (ka=ka') && decide (ks=ks') && decide (va=va') && sameZ z z'
 | _,_=>false
def qc9(m:List Nat)(i:Nat)(a:COp):List COp->Nat->List (Nat×Nat)
 | [],_=> []
 | b :: r,j=>if q11 m i j || kcl b.k == 0 || kcl b.k+kcl a.k<=2 then qc9 m i a r (j+1)else (i,if softK a.k b.k then 1000+j else j) :: qc9 m i a r (j+1)
def qa0(m:List Nat):List COp->Nat->List (Nat×Nat)
 | [],_=> []
 | a :: r,i=>(if kcl a.k == 0 then []else qc9 m i a r (i+1))++qa0 m r (i+1)
def qat(ops:List Oper)(cops:List COp)(keep:List Nat):CC:=
 let m:=ancs ops []
 if ordOk m ops 0 && sched m cops 0 && decide (cops.length<=1000)then .drawn cops (qa0 m cops 0) keep else .bad
theorem qe6{acc:List Nat}{j:Nat}:∀ {es:List Edge},(q6h acc es).testBit j=true->∃e∈es,Region.binds .any e=true/\(e.on=j\/(acc.getD e.on 0).testBit j=true):=by
 intro es
 induction es with
 | nil=>intro h; simp [q6h]at h
 | cons e r ih=>
  intro h
  simp only [q6h]at h
  split at h
  ·rename_i hb
   simp only [Nat.testBit_or,Bool.or_eq_true,Nat.testBit_two_pow,decide_eq_true_eq]at h
   rcases h with (h | h) | h
   ·obtain ⟨e',he,h'⟩:=ih h
    exact ⟨e',List.mem_cons_of_mem _ he,h'⟩
   ·exact ⟨e,List.mem_cons_self,hb, .inl h⟩
   ·exact ⟨e,List.mem_cons_self,hb, .inr h⟩
  ·obtain ⟨e',he,h'⟩:=ih h
   exact ⟨e',List.mem_cons_of_mem _ he,h'⟩
theorem ql1{m:List Nat}:∀ {l:List Oper} {i:Nat},ordOk m l i=true->∀(k:Nat) (o:Oper),l[k]? =some o->
  (∀ j,q11 m j (i+k)=true->∃e∈o.after,Region.binds .any e=true/\(e.on=j\/q11 m j e.on=true))/\∀e∈o.after,Region.binds .any e=true->e.on < i+k:=by
 intro l
 induction l with
 | nil=>intro i _ k o hk; simp at hk
 | cons o0 r ih=>
  intro i h k o hk
  simp only [ordOk,Bool.and_eq_true]at h
  obtain ⟨⟨h1,h2⟩,h3⟩:=h
  cases k with
  | zero=>
   obtain rfl:o0=o:=by simpa using hk
   refine ⟨λj hj=> ?_,λe he hb=> ?_⟩
   ·unfold q11 at hj
    rw [Nat.add_zero,(by simpa using h1:m.getD i 0=_)]at hj
    obtain ⟨e,he,h'⟩:=qe6 hj
    exact ⟨e,by simpa using he,h'⟩
   ·have:=List.all_eq_true.1 h2 e (by simpa using he)
    simpa [hb]using this
  | succ k=>
   have:=ih h3 k o (by simpa using hk)
   rw [show i+1+k=i+(k+1) by omega]at this
   exact this
theorem qdt{m:List Nat}{i:Nat}{a:COp}:∀ {l:List COp} {j:Nat},qaa m i a l j=true->∀(k:Nat) (b:COp),l[k]? =some b->q11 m i (j+k)=true\/confl a b=false:=by
 intro l
 induction l with
 | nil=>intro j _ k b hk; simp at hk
 | cons b0 r ih=>
  intro j h k b hk
  simp only [qaa,Bool.and_eq_true]at h
  cases k with
  | zero=>
   obtain rfl:b0=b:=by simpa using hk
   simpa using h.1
  | succ k=>
   have:=ih h.2 k b (by simpa using hk)
   rwa [show j+1+k=j+(k+1) by omega]at this
theorem qju{m:List Nat}:∀ {l:List COp} {i:Nat},sched m l i=true->∀(k k':Nat) (a b:COp),l[k]? =some a->l[k']? =some b->k < k'->q11 m (i+k) (i+k')=true\/confl a b=false:=by
 intro l
 induction l with
 | nil=>intro i _ k k' a b hk; simp at hk
 | cons a0 r ih=>
  intro i h k k' a b hk hk' hlt
  simp only [sched,Bool.and_eq_true]at h
  cases k' with
  | zero=>omega
  | succ k'=>
   cases k with
   | zero=>
    obtain rfl:a0=a:=by simpa using hk
    have:=qdt h.1 k' b (by simpa using hk')
    rwa [show i+1+k'=i+(k'+1) by omega]at this
   | succ k=>
    have:=ih h.2 k k' a b (by simpa using hk) (by simpa using hk') (by omega)
    rwa [show i+1+k=i+(k+1) by omega,show i+1+k'=i+(k'+1) by omega]at this
theorem qhq{m:List Nat}{i:Nat}{a:COp}:∀ {l:List COp} {j:Nat},∀(k:Nat) (b:COp),l[k]? =some b->q11 m i (j+k)=true\/kcl b.k=0\/kcl b.k+kcl a.k<=2\/(i,if softK a.k b.k then 1000+(j+k)else j+k)∈qc9 m i a l j:=by
 intro l
 induction l with
 | nil=>intro j k b hk; simp at hk
 | cons b0 r ih=>
  intro j k b hk
  cases k with
  | zero=>
   obtain rfl:b0=b:=by simpa using hk
   simp only [qc9]
   split
   ·rename_i h
    simp only [Bool.or_eq_true,beq_iff_eq,decide_eq_true_eq]at h
    rcases h with (h | h) | h
    ·exact .inl h
    ·exact .inr (.inl h)
    ·exact .inr (.inr (.inl h))
   ·exact .inr (.inr (.inr (List.mem_cons_self ..)))
  | succ k=>
   have:=ih (j:=j+1) k b (by simpa using hk)
   rw [show j+1+k=j+(k+1) by omega]at this
   rcases this with h | h | h | h
   ·exact .inl h
   ·exact .inr (.inl h)
   ·exact .inr (.inr (.inl h))
   ·refine .inr (.inr (.inr ?_))
    simp only [qc9]
    split
    ·exact h
    ·exact List.mem_cons_of_mem _ h
theorem qhz{m:List Nat}:∀ {l:List COp} {i:Nat},∀(k k':Nat) (a b:COp),l[k]? =some a->l[k']? =some b->k < k'->
  q11 m (i+k) (i+k')=true\/kcl a.k=0\/kcl b.k=0\/kcl b.k+kcl a.k<=2\/(i+k,if softK a.k b.k then 1000+(i+k')else i+k')∈qa0 m l i:=by
 intro l
 induction l with
 | nil=>intro i k k' a b hk; simp at hk
 | cons a0 r ih=>
  intro i k k' a b hk hk' hlt
  cases k' with
  | zero=>omega
  | succ k'=>
   cases k with
   | zero=>
    obtain rfl:a0=a:=by simpa using hk
    have:=qhq (m:=m) (i:=i) (a:=a0) (j:=i+1) k' b (by simpa using hk')
    rw [show i+1+k'=i+(k'+1) by omega]at this
    rcases this with h | h | h | h
    ·exact .inl h
    ·exact .inr (.inr (.inl h))
    ·exact .inr (.inr (.inr (.inl h)))
    ·by_cases e:kcl a0.k=0
     ·exact .inr (.inl e)
     ·refine .inr (.inr (.inr (.inr ?_)))
      simp only [qa0,beq_iff_eq,e,if_false]
      exact List.mem_append_left _ h
   | succ k=>
    have:=ih (i:=i+1) k k' a b (by simpa using hk) (by simpa using hk') (by omega)
    rw [show i+1+k=i+(k+1) by omega,show i+1+k'=i+(k'+1) by omega]at this
    rcases this with h | h | h | h | h
    ·exact .inl h
    ·exact .inr (.inl h)
    ·exact .inr (.inr (.inl h))
    ·exact .inr (.inr (.inr (.inl h)))
    ·exact .inr (.inr (.inr (.inr (by simp only [qa0]; exact List.mem_append_right _ h))))
theorem qo1{a b:Value}(h:qmk a b=true):a=b:=by
 unfold qmk at h
 split at h <;> first | rfl | (simp at h; done) | skip
 ·obtain ⟨rfl,rfl⟩:_/\_:=by simpa using h
  rfl
 ·obtain rfl:_=_:=by simpa using h
  rfl
 ·rename_i x y
  have:x.toList=y.toList:=by simpa using h
  rw [ByteArray.toList_eq,ByteArray.toList_eq]at this
  obtain ⟨⟨x⟩⟩:=x
  obtain ⟨⟨y⟩⟩:=y
  have e:x=y:=by simpa using this
  rw [e]
 ·obtain ⟨rfl,rfl⟩:_/\_:=by simpa using h
  rfl
theorem qrr:∀ {a b:List Value},sameZ a b=true->a=b:=by
 intro a
 induction a with
 | nil=>intro b h; cases b <;> simp_all [sameZ]
 | cons x a ih=>
  intro b h
  cases b with
  | nil=>simp [sameZ]at h
  | cons y b=>
   simp only [sameZ,Bool.and_eq_true]at h
   rw [qo1 h.1,ih h.2]
theorem qr1:∀ {ks:List Kd} {a b:List Value},kOk ks a=true->kOk ks b=true->∃r,eqVs ks a b=some r:=by
 intro ks
 induction ks with
 | nil=>intro a b h1 h2; cases a <;> cases b <;> simp_all [kOk,eqVs]
 | cons k ks ih=>
  intro a b h1 h2
  cases a with
  | nil=>simp [kOk]at h1
  | cons x a=>
   cases b with
   | nil=>simp [kOk]at h2
   | cons y b=>
    simp only [kOk,Bool.and_eq_true]at h1 h2
    obtain ⟨r,hr⟩:=ih h1.2 h2.2
    have hk:∃q,eqK k x y=some q:=by
     have ha:=h1.1
     have hb:=h2.1
     cases k <;> cases x <;> cases y <;> simp_all [kOk1,eqK]
    obtain ⟨q,hq⟩:=hk
    exact ⟨q && r,by simp [eqVs,hq,hr]⟩
theorem qnw{ks:List Kd}{key:List Value}{e:MEnt}:∀ {es:List MEnt} {i:Nat},
  findE ks key (es++ [e]) i=(match findE ks key es i with | some (some j)=>some (some j) | some none=>(match eqVs ks key e.1 with | some true=>some (some (i+es.length)) | some false=>some none | none=>none) | none=>none):=by
 intro es
 induction es with
 | nil=>
  intro i
  simp only [List.nil_append,findE,List.length_nil,Nat.add_zero]
  cases eqVs ks key e.1 with
  | none=>rfl
  | some b=>cases b <;> rfl
 | cons x es ih=>
  intro i
  simp only [List.cons_append,findE]
  cases eqVs ks key x.1 with
  | none=>rfl
  | some b=>
   cases b with
   | true=>rfl
   | false=>
    simp only [ih,List.length_cons]
    rw [show i+1+es.length=i+(es.length+1) by omega]
theorem qq2{ks:List Kd}{key:List Value}:∀ {es:List MEnt} {i j:Nat},findE ks key es i=some (some j)->j < i+es.length:=by
 intro es
 induction es with
 | nil=>intro i j h; simp [findE]at h
 | cons x es ih=>
  intro i j h
  simp only [findE]at h
  split at h
  ·obtain rfl:i=j:=by simpa using h
   simp
  ·have:=ih h; simp only [List.length_cons]; omega
  ·simp at h
theorem qjc{ka:Bool}{ks:List Kd}{k:TV}{key:List Value}(h:keyTV ka ks k=some key):kOk ks key=true:=by
 cases k with
 | agg cs=>
  simp only [keyTV]at h
  split at h
  ·exact (qal h).2
  ·simp at h
 | c x=>
  simp only [keyTV]at h
  split at h
  ·exact (qal h).2
  ·simp at h
 | tup xs=>simp [keyTV]at h
theorem qol{call1 call2:Call}{k1 k2:Ev.K}{vs1 vs2:List (Option TV)}{H H':Heap}{nx1 nx2 n n2 id:Nat}{v v2:TV}{u u2:Upd}{ids2:List Nat}(hk:softK k1 k2=true)
  (h1:ev1 call1 k1 vs1 H nx1=some (v,u, [id],n)) (h2:ev1 call2 k2 vs2 H' nx2=some (v2,u2,ids2,n2)) (hs:look H' id=look H id) (ht:id∈u2.map (·.1)):
  ev1 call1 k1 vs1 (u2++H) nx1=some (v,u, [id],n):=by
 unfold softK at hk
 split at hk
 ·rename_i ka ks va z ka' ks' va' z'
  simp only [Bool.and_eq_true,decide_eq_true_eq]at hk
  obtain ⟨⟨⟨rfl,rfl⟩,rfl⟩,hz⟩:=hk
  obtain rfl:=qrr hz
  match vs1,vs2,h1,h2 with
  | [some (.c m1),some kt1], [some (.c m2),some kt2],h1,h2=>
   change (match q1u ka ks va z false m1 kt1 H with | some (v,ids)=>some (v,([]:Upd),ids,nx1) | none=>none)=_ at h1
   change (match q4s ka ks va z m2 kt2 H' with | some (v,u,ids)=>some (v,u,ids,nx2) | none=>none)=_ at h2
   show (match q1u ka ks va z false m1 kt1 (u2++H)with | some (v,ids)=>some (v,([]:Upd),ids,nx1) | none=>none)=_
   have key:q1u ka ks va z false m1 kt1 H=some (v, [id])->q1u ka ks va z false m1 kt1 (u2++H)=some (v, [id]):=by
    clear h1
    intro h1
    split at h2
    ·rename_i v3 u3 ids3 h3
     obtain ⟨_,rfl,_,_⟩:v3=v2/\u3=u2/\ids3=ids2/\nx2=n2:=by simpa using h2
     unfold q4s at h3
     split at h3
     ·rename_i id2 key2 hkey2
      have hok2:=qjc hkey2
      split at h3
      ·rename_i ka2 va2 es clock hob
       split at h3
       ·rename_i hkv
        obtain ⟨rfl,rfl⟩:=hkv
        -- what is laid anew
        have hu:∃es' clock',u3= [(id2,some (.map ka2 va2 es' clock'))]/\(es'=es\/es'=es++ [(key2,litsD z,clock)]):=by
         split at h3
         ·split at h3
          ·obtain ⟨_,rfl,_⟩:=(by simpa using h3:_/\_/\_)
           exact ⟨_,_,rfl, .inl rfl⟩
          ·simp at h3
         ·split at h3
          ·obtain ⟨_,rfl,_⟩:=(by simpa using h3:_/\_/\_)
           exact ⟨_,_,rfl, .inr rfl⟩
          ·simp at h3
         ·simp at h3
        obtain ⟨es',clock',rfl,hes⟩:=hu
        obtain rfl:id=id2:=by simpa using ht
        have hl2:look ([(id,some (Ob.map ka2 va2 es' clock'))]++H) id=some (.map ka2 va2 es' clock'):=by rw [q18,q06,if_pos rfl]
        rw [hs]at hob
        unfold q1u at h1 ⊢
        split at h1
        ·split at h1
         ·simp at h1
         ·simp at h1
        ·rename_i id1 key1 hkey1
         have hok1:=qjc hkey1
         have hid:id1=id:=by
          repeat' split at h1
          all_goals first
           | (simp at h1; done)
           | (obtain ⟨_,h4⟩:=Prod.mk.inj (Option.some.inj h1); simpa using h4)
         subst hid
         simp only [hob,hl2,and_self,if_true]at h1 ⊢
         rcases hes with rfl | rfl
         ·exact h1
         ·rw [qnw]
          split at h1
          ·rename_i j hf
           have hlt:=qq2 hf
           rw [Nat.zero_add]at hlt
           simp only [hf]
           have e1:(es++ [(key2,litsD z,clock)]).getD j default=es.getD j default:=by
            simp only [List.getD_eq_getElem?_getD]
            rw [List.getElem?_append_left hlt]
           rw [e1]; exact h1
          ·rename_i hf
           simp only [hf]
           obtain ⟨r,hr⟩:=qr1 hok1 hok2
           simp only [hr]
           cases r with
           | false=>exact h1
           | true=>
            have e1:(es++ [(key2,litsD z,clock)]).getD (0+es.length) default=(key2,litsD z,clock):=by
             simp [List.getD_eq_getElem?_getD]
            simp only [e1]
            exact h1
          ·simp at h1
        ·simp at h1
       ·simp at h3
      ·simp at h3
     ·simp at h3
    ·simp at h2
   split at h1
   ·rename_i v1 ids1 hl
    obtain ⟨rfl,rfl,rfl,rfl⟩:v1=v/\ []=u/\ids1= [id]/\nx1=n:=by simpa using h1
    rw [key hl]
   ·simp at h1
 ·simp at hk
abbrev Eff:=Option (TV×Upd×List Nat×Nat)
def effV:Eff->Option TV
 | some (v,_)=>some v
 | none=>some (.tup [])
def effU:Eff->Upd
 | some (_,u,_)=>u
 | none=> []
def effR:Eff->List Nat
 | some (_,_,r,_)=>r
 | none=> []
def Step(call:Call)(base i:Nat)(o:COp)(e:Env)(h:Heap)(f:Eff)(e':Env)(h':Heap):Prop:=
 match f with
 | some (v,u,ids,n)=>wants e o.guard=some true/\ev1 call o.k (o.args.map (opv e)) h (base+room * i)=some (v,u,ids,n)/\n<=base+room * (i+1)/\e'=put e o.dst v/\h'=u++h
 | none=>wants e o.guard=some false/\e'=drop e o.dst/\h'=h
theorem qhu{calls:Nat->Call}{base:Nat}:∀(l:List COp) (i:Nat) (e:Env) (h:Heap) (e':Env) (h':Heap) (tr:List (List Nat×List Nat)),q4n calls base l i e h=some (e',h',tr)->
  ∃(E:Nat->Env) (Hp:Nat->Heap) (ef:Nat->Eff),E 0=e/\Hp 0=h/\E l.length=e'/\Hp l.length=h'/\
   ∀(k:Nat) (o:COp),l[k]? =some o->Step (calls (i+k)) base (i+k) o (E k) (Hp k) (ef k) (E (k+1)) (Hp (k+1))/\tr[k]? =some (effR (ef k),(effU (ef k)).map (·.1)):=by
 intro l
 induction l with
 | nil=>
  intro i e h e' h' tr hh
  obtain ⟨rfl,rfl,rfl⟩:e=e'/\h=h'/\ []=tr:=by simpa [q4n]using hh
  exact ⟨λ_=>e,λ_=>h,λ_=>none,rfl,rfl,rfl,rfl,λk o hk=>by simp at hk⟩
 | cons o r ih=>
  intro i e h e' h' tr hh
  simp only [q4n]at hh
  have fin:∀(f:Eff) (e1:Env) (h1:Heap) (tr1:List (List Nat×List Nat)),q4n calls base r (i+1) e1 h1=some (e',h',tr1)->Step (calls i) base i o e h f e1 h1->tr=(effR f,(effU f).map (·.1)) :: tr1->
    ∃(E:Nat->Env) (Hp:Nat->Heap) (ef:Nat->Eff),E 0=e/\Hp 0=h/\E (o :: r).length=e'/\Hp (o :: r).length=h'/\
     ∀(k:Nat) (o':COp),(o :: r)[k]? =some o'->Step (calls (i+k)) base (i+k) o' (E k) (Hp k) (ef k) (E (k+1)) (Hp (k+1))/\tr[k]? =some (effR (ef k),(effU (ef k)).map (·.1)):=by
   intro f e1 h1 tr1 hrun hs htr
   obtain ⟨E,Hp,ef,a1,a2,a3,a4,a5⟩:=ih (i+1) e1 h1 e' h' tr1 hrun
   refine ⟨λk=>match k with | 0=>e | k+1=>E k,λk=>match k with | 0=>h | k+1=>Hp k,λk=>match k with | 0=>f | k+1=>ef k,rfl,rfl,a3,a4,λk o' hk=> ?_⟩
   subst htr
   cases k with
   | zero=>
    obtain rfl:o=o':=by simpa using hk
    refine ⟨?_,by simp⟩
    simp only [Nat.add_zero,a1,a2]
    exact hs
   | succ k=>
    have:=a5 k o' (by simpa using hk)
    rw [show i+1+k=i+(k+1) by omega]at this
    exact ⟨this.1,by simpa using this.2⟩
  split at hh
  ·rename_i hw
   split at hh
   ·rename_i v u ids n hev
    split at hh
    ·rename_i hn
     split at hh
     ·rename_i e1 h1 tr1 hrun
      obtain ⟨rfl,rfl,rfl⟩:e1=e'/\h1=h'/\_=tr:=by simpa using hh
      exact fin (some (v,u,ids,n)) _ _ tr1 hrun ⟨hw,hev,hn,rfl,rfl⟩ rfl
     ·simp at hh
    ·simp at hh
   ·simp at hh
  ·rename_i hw
   split at hh
   ·rename_i e1 h1 tr1 hrun
    obtain ⟨rfl,rfl,rfl⟩:e1=e'/\h1=h'/\_=tr:=by simpa using hh
    exact fin none _ _ tr1 hrun ⟨hw,rfl,rfl⟩ rfl
   ·simp at hh
  ·simp at hh
section
variable (dst:Nat->Option Nat)(ef:Nat->Eff)(D:Nat->Bool)(e0:Nat->Option TV)(h0:Nat->Option Ob)
def envX:Nat->Nat->Option TV
 | 0,t=>e0 t
 | k+1,t=>if D k=true/\dst k=some t then effV (ef k)else envX k t
def heapX:Nat->Nat->Option Ob
 | 0,i=>h0 i
 | k+1,i=>if D k=true then (match fnd (effU (ef k)) i with | some o=>o | none=>heapX k i)else heapX k i
end
def tch(ef:Nat->Eff)(k id:Nat):Prop:=id∈(effU (ef k)).map (·.1)
theorem q9i{α:Type}{u:List (Nat×α)}{id:Nat}(h:id∉u.map (·.1)):fnd u id=none:=by
 induction u with
 | nil=>rfl
 | cons p r ih=>
  obtain ⟨i,x⟩:=p
  simp only [List.map_cons,List.mem_cons,not_or]at h
  have:(i == id)=false:=by simpa using λe:i=id=>h.1 e.symm
  simp [fnd,this,ih h.2]
theorem qre{α:Type}{u:List (Nat×α)}{id:Nat}(h:id∈u.map (·.1)):∃x,fnd u id=some x:=by
 induction u with
 | nil=>simp at h
 | cons p r ih=>
  obtain ⟨i,x⟩:=p
  by_cases e:i=id
  ·exact ⟨x,by simp [fnd,e]⟩
  ·have e':(i == id)=false:=by simpa using e
   simp only [List.map_cons,List.mem_cons]at h
   rcases h with h | h
   ·exact absurd h.symm e
   ·simpa [fnd,e']using ih h
section
variable {dst:Nat->Option Nat}{ef:Nat->Eff}{D D':Nat->Bool}{E:Nat->Env}{Hp:Nat->Heap}
theorem qgz{n i t:Nat}(hstep:∀k,k < n->∀t,fnd (E (k+1)) t=if dst k=some t then effV (ef k)else fnd (E k) t)(hi:i<=n)
  (h1:∀k,k < i->dst k=some t->D k=true) (h2:∀k,i<=k->k < n->dst k=some t->D k=false):envX dst ef D (fnd (E 0)) n t=fnd (E i) t:=by
 have a:∀k,k<=i->envX dst ef D (fnd (E 0)) k t=fnd (E k) t:=by
  intro k
  induction k with
  | zero=>intro _; rfl
  | succ k ih=>
   intro hk
   rw [envX,hstep k (by omega)]
   by_cases hd:dst k=some t
   ·rw [if_pos ⟨h1 k (by omega) hd,hd⟩,if_pos hd]
   ·rw [if_neg (λh=>hd h.2),if_neg hd,ih (by omega)]
 have b:∀d,i+d<=n->envX dst ef D (fnd (E 0)) (i+d) t=fnd (E i) t:=by
  intro d
  induction d with
  | zero=>intro _; exact a i (Nat.le_refl _)
  | succ d ih=>
   intro hd
   rw [<- Nat.add_assoc,envX,if_neg,ih (by omega)]
   rintro ⟨hD,hdst⟩
   rw [h2 (i+d) (by omega) (by omega) hdst]at hD
   simp at hD
 have:=b (n - i) (by omega)
 rwa [Nat.add_sub_cancel' hi]at this
theorem qda{n i id:Nat}(hstep:∀k,k < n->∀id,look (Hp (k+1)) id=match fnd (effU (ef k)) id with | some o=>o | none=>look (Hp k) id)(hi:i<=n)
  (h1:∀k,k < i->tch ef k id->D k=true) (h2:∀k,i<=k->k < n->tch ef k id->D k=false):heapX ef D (look (Hp 0)) n id=look (Hp i) id:=by
 have a:∀k,k<=i->heapX ef D (look (Hp 0)) k id=look (Hp k) id:=by
  intro k
  induction k with
  | zero=>intro _; rfl
  | succ k ih=>
   intro hk
   rw [heapX,hstep k (by omega),ih (by omega)]
   by_cases ht:tch ef k id
   ·rw [if_pos (h1 k (by omega) ht)]
   ·rw [q9i ht]; simp
 have b:∀d,i+d<=n->heapX ef D (look (Hp 0)) (i+d) id=look (Hp i) id:=by
  intro d
  induction d with
  | zero=>intro _; exact a i (Nat.le_refl _)
  | succ d ih=>
   intro hd
   rw [<- Nat.add_assoc,heapX,ih (by omega)]
   by_cases ht:tch ef (i+d) id
   ·rw [if_neg (by simp [h2 (i+d) (by omega) (by omega) ht])]
   ·rw [q9i ht]; simp
 have:=b (n - i) (by omega)
 rwa [Nat.add_sub_cancel' hi]at this
theorem qr7{e0:Nat->Option TV}{n i t:Nat}(hi:i < n)(hD:∀k,k≠i->D' k=D k)(hDi:D' i=true)(hDi0:D i=false)
  (h:dst i=some t->∀k,i < k->k < n->D k=true->dst k≠some t):
  envX dst ef D' e0 n t=if dst i=some t then effV (ef i)else envX dst ef D e0 n t:=by
 have a:∀k,k<=i->envX dst ef D' e0 k t=envX dst ef D e0 k t:=by
  intro k
  induction k with
  | zero=>intro _; rfl
  | succ k ih=>intro hk; rw [envX,envX,hD k (by omega),ih (by omega)]
 have b:∀d,i+1+d<=n->envX dst ef D' e0 (i+1+d) t=if dst i=some t then effV (ef i)else envX dst ef D e0 (i+1+d) t:=by
  intro d
  induction d with
  | zero=>
   intro _
   show envX dst ef D' e0 (i+1) t=if dst i=some t then effV (ef i)else envX dst ef D e0 (i+1) t
   rw [envX,envX,hDi,hDi0,a i (Nat.le_refl _)]
   simp
  | succ d ih=>
   intro hd
   rw [<- Nat.add_assoc,envX,envX,hD (i+1+d) (by omega),ih (by omega)]
   by_cases hc:D (i+1+d)=true/\dst (i+1+d)=some t
   ·rw [if_pos hc,if_pos hc,if_neg]
    intro hdi
    exact h hdi (i+1+d) (by omega) (by omega) hc.1 hc.2
   ·rw [if_neg hc,if_neg hc]
 have:=b (n - (i+1)) (by omega)
 rwa [Nat.add_sub_cancel' (by omega)]at this
theorem qnp{h0:Nat->Option Ob}{n i id:Nat}(hi:i < n)(hD:∀k,k≠i->D' k=D k)(hDi:D' i=true)(hDi0:D i=false)
  (h:tch ef i id->∀k,i < k->k < n->D k=true->¬tch ef k id):
  heapX ef D' h0 n id=match fnd (effU (ef i)) id with | some o=>o | none=>heapX ef D h0 n id:=by
 have a:∀k,k<=i->heapX ef D' h0 k id=heapX ef D h0 k id:=by
  intro k
  induction k with
  | zero=>intro _; rfl
  | succ k ih=>intro hk; rw [heapX,heapX,hD k (by omega),ih (by omega)]
 have b:∀d,i+1+d<=n->heapX ef D' h0 (i+1+d) id=match fnd (effU (ef i)) id with | some o=>o | none=>heapX ef D h0 (i+1+d) id:=by
  intro d
  induction d with
  | zero=>
   intro _
   show heapX ef D' h0 (i+1) id=match fnd (effU (ef i)) id with | some o=>o | none=>heapX ef D h0 (i+1) id
   rw [heapX,heapX,hDi,hDi0,a i (Nat.le_refl _)]
   simp
  | succ d ih=>
   intro hd
   rw [<- Nat.add_assoc,heapX,heapX,hD (i+1+d) (by omega),ih (by omega)]
   by_cases ht:tch ef i id
   ·by_cases hc:D (i+1+d)=true
    ·rw [q9i (h ht (i+1+d) (by omega) (by omega) hc)]; simp
    ·rw [if_neg hc,if_neg hc]
   ·rw [q9i ht]
 have:=b (n - (i+1)) (by omega)
 rwa [Nat.add_sub_cancel' (by omega)]at this
end
end Go.Ev

namespace Go.Ev
section
variable {P:Program}{S K:Nat->Prop}{w0 w:World}{Kn:Nat->Prop}{φ:Nat->Loc}{gv:List Value}{nt:Nat}{a:Act}{call:Call}{calls:Nat->Call}{sig:Sig}{s s':St}
 {ops:Array Oper} {l:List COp} {m:List Nat} {base:Nat} {E:Nat->Env} {Hp:Nat->Heap} {ef:Nat->Eff}
def dstOf(l:List COp)(k:Nat):Option Nat:=(l[k]?).bind (·.dst)
def SoftP(calls:Nat->Call)(l:List COp)(base:Nat)(E:Nat->Env)(Hp:Nat->Heap)(ef:Nat->Eff)(i j:Nat):Prop:=
 ∃c v u id n,l[i]? =some c/\ef i=some (v,u, [id],n)/\ev1 (calls i) c.k (c.args.map (opv (E i))) (effU (ef j)++Hp i) (base+room * i)=some (v,u, [id],n)
structure Plan (P:Program) (sig:Sig) (nt:Nat) (calls:Nat->Call) (ops:Array Oper) (l:List COp) (m:List Nat) (base:Nat) (E:Nat->Env) (Hp:Nat->Heap) (ef:Nat->Eff):Prop where
 len:l.length=ops.size
 cop:∀(k:Nat) (o:Oper),ops[k]? =some o->l[k]? =some (q1n P sig nt ops o)
 step:∀(k:Nat) (c:COp),l[k]? =some c->Step (calls k) base k c (E k) (Hp k) (ef k) (E (k+1)) (Hp (k+1))
 ord:∀(k:Nat) (o:Oper),ops[k]? =some o->(∀ j,q11 m j k=true->∃e∈o.after,Region.binds .any e=true/\(e.on=j\/q11 m j e.on=true))/\∀e∈o.after,Region.binds .any e=true->e.on < k
 con:∀(i j:Nat) (a b:COp),l[i]? =some a->l[j]? =some b->i < j->q11 m i j=true\/confl a b=false
 apt:∀(i j:Nat),i < j->j < ops.size->q11 m i j=true\/((∀ id,tch ef i id->id∉effR (ef j)/\¬tch ef j id)/\((∀ id,tch ef j id->id∉effR (ef i))\/SoftP calls l base E Hp ef i j))
theorem Step.env{i:Nat}{o:COp}{e e':Env}{h h':Heap}{f:Eff}(hs:Step call base i o e h f e' h')(t:Nat):fnd e' t=if o.dst=some t then effV f else fnd e t:=by
 cases f with
 | none=>obtain ⟨_,rfl,_⟩:=hs; rw [qe0]; rfl
 | some p=>obtain ⟨v,u,r,n⟩:=p; obtain ⟨_,_,_,rfl,_⟩:=hs; rw [q3v]; rfl
theorem Step.heap{i:Nat}{o:COp}{e e':Env}{h h':Heap}{f:Eff}(hs:Step call base i o e h f e' h')(id:Nat):look h' id=match fnd (effU f) id with | some o=>o | none=>look h id:=by
 cases f with
 | none=>obtain ⟨_,_,rfl⟩:=hs; rfl
 | some p=>obtain ⟨v,u,r,n⟩:=p; obtain ⟨_,_,_,_,rfl⟩:=hs; rw [q18]; rfl
theorem qui{e':Env}{h':Heap}{e:Env}{h:Heap}{tr:List (List Nat×List Nat)}(hl:l=ops.toList.map (q1n P sig nt ops))(hord:ordOk m ops.toList 0=true)(hsch:sched m l 0=true)
  (hev:q4n calls base l 0 e h=some (e',h',tr)) (hdyn:dynOk tr (qa0 m l 0)=true) (hsmall:l.length<=1000):
  ∃E Hp ef,Plan P sig nt calls ops l m base E Hp ef/\E 0=e/\Hp 0=h/\E ops.size=e'/\Hp ops.size=h':=by
 obtain ⟨E,Hp,ef,h1,h2,h3,h4,h5⟩:=qhu l 0 e h e' h' tr hev
 have hlen:l.length=ops.size:=by rw [hl]; simp
 refine ⟨E,Hp,ef,⟨hlen, ?_, ?_, ?_, ?_, ?_⟩,h1,h2,hlen▸h3,hlen▸h4⟩
 ·intro k o hk
  rw [hl,List.getElem?_map,Array.getElem?_toList,hk]; rfl
 ·intro k c hk
  have:=(h5 k c hk).1
  rwa [Nat.zero_add]at this
 ·intro k o hk
  have:=ql1 hord k o (by rw [Array.getElem?_toList]; exact hk)
  rwa [Nat.zero_add]at this
 ·intro i j a b ha hb hij
  have:=qju hsch i j a b ha hb hij
  rwa [Nat.zero_add,Nat.zero_add]at this
 ·intro i j hij hj
  have hi':i < l.length:=by omega
  have hj':j < l.length:=by omega
  obtain ⟨a,ha⟩:∃a,l[i]? =some a:=⟨_,List.getElem?_eq_getElem hi'⟩
  obtain ⟨b,hb⟩:∃b,l[j]? =some b:=⟨_,List.getElem?_eq_getElem hj'⟩
  have sa:=h5 i a ha
  have sb:=h5 j b hb
  have noU:∀(k:Nat) (c:COp),Step (calls (0+k)) base (0+k) c (E k) (Hp k) (ef k) (E (k+1)) (Hp (k+1))->kcl c.k<=1->∀id,¬tch ef k id:=by
   intro k c hs hc id ht
   unfold tch at ht
   generalize hf:ef k=f at hs ht
   cases f with
   | none=>simp [effU]at ht
   | some p=>
    obtain ⟨v,u,r,n⟩:=p
    obtain ⟨_,hev1,_⟩:=hs
    rw [show effU (some (v,u,r,n))=u from rfl,qqh hc hev1]at ht
    simp at ht
  have noR:∀(k:Nat) (c:COp),Step (calls (0+k)) base (0+k) c (E k) (Hp k) (ef k) (E (k+1)) (Hp (k+1))->kcl c.k=0->∀id,id∉effR (ef k):=by
   intro k c hs hc id ht
   generalize hf:ef k=f at hs ht
   cases f with
   | none=>simp [effR]at ht
   | some p=>
    obtain ⟨v,u,r,n⟩:=p
    obtain ⟨_,hev1,_⟩:=hs
    rw [show effR (some (v,u,r,n))=r from rfl,qrj hc hev1]at ht
    simp at ht
  rcases qhz (m:=m) (i:=0) i j a b ha hb hij with h | h | h | h | h
  ·rw [Nat.zero_add,Nat.zero_add]at h; exact .inl h
  ·exact .inr ⟨λid ht=>absurd ht (noU i a sa.1 (by omega) id), .inl λid _=>noR i a sa.1 h id⟩
  ·exact .inr ⟨λid _=>⟨noR j b sb.1 h id,noU j b sb.1 (by omega) id⟩, .inl λid ht=>absurd ht (noU j b sb.1 (by omega) id)⟩
  ·by_cases ea:kcl a.k<=1
   ·by_cases eb:kcl b.k<=1
    ·exact .inr ⟨λid ht=>absurd ht (noU i a sa.1 ea id), .inl λid ht=>absurd ht (noU j b sb.1 eb id)⟩
    ·have:kcl a.k=0:=by omega
     exact .inr ⟨λid ht=>absurd ht (noU i a sa.1 (by omega) id), .inl λid _=>noR i a sa.1 this id⟩
   ·have:kcl b.k=0:=by omega
    exact .inr ⟨λid _=>⟨noR j b sb.1 this id,noU j b sb.1 (by omega) id⟩, .inl λid ht=>absurd ht (noU j b sb.1 (by omega) id)⟩
  ·rw [Nat.zero_add,Nat.zero_add]at h
   have hapart:apart (effR (ef i),(effU (ef i)).map (·.1)) (effR (ef j),(effU (ef j)).map (·.1))=true->
     (∀ id,tch ef i id->id∉effR (ef j)/\¬tch ef j id)/\((∀ id,tch ef j id->id∉effR (ef i))\/SoftP calls l base E Hp ef i j):=by
    intro this
    simp only [apart,Bool.and_eq_true,List.all_eq_true,Bool.not_eq_true',List.contains_eq_mem,decide_eq_false_iff_not]at this
    exact ⟨λid ht=>⟨(this.1 id ht).1,(this.1 id ht).2⟩, .inl λid ht=>this.2 id ht⟩
   have hd:=List.all_eq_true.1 hdyn _ h
   by_cases hso:softK a.k b.k=true
   ·rw [if_pos hso]at hd
    simp only at hd
    rw [if_pos (by omega),show 1000+j - 1000=j by omega]at hd
    simp only [qn5,sa.2,sb.2,Bool.or_eq_true]at hd
    rcases hd with hd | hd
    ·exact .inr (hapart hd)
    ·right
     split at hd
     ·rename_i id hab
      obtain ⟨hR,hU⟩:=Prod.mk.inj hab
      refine ⟨λid ht=>by unfold tch at ht; rw [hU]at ht; simp at ht, ?_⟩
      by_cases htj:tch ef j id
      ·right
       -- nobody between lays that object anew
       have hsame:∀k,i<=k->k<=j->look (Hp k) id=look (Hp i) id:=by
        intro k hk
        induction k with
        | zero=>intro _; rw [show i=0 by omega]
        | succ k ih=>
         intro hkj
         by_cases e:i=k+1
         ·rw [e]
         ·have hik:i<=k:=by omega
          rw [<- ih hik (by omega)]
          obtain ⟨c,hc⟩:∃c,l[k]? =some c:=⟨_,List.getElem?_eq_getElem (by omega)⟩
          have sk:=h5 k c hc
          rw [sk.1.heap id]
          have hn:id∉(effU (ef k)).map (·.1):=by
           by_cases e2:k=i
           ·subst e2; rw [hU]; simp
           ·have hm:(effR (ef k),(effU (ef k)).map (·.1))∈(tr.take j).drop (i+1):=by
             refine List.mem_of_getElem? (i:=k - (i+1)) ?_
             rw [List.getElem?_drop,show i+1+(k - (i+1))=k by omega,List.getElem?_take,if_pos (by omega)]
             exact sk.2
            have:=List.all_eq_true.1 hd _ hm
            simpa using this
          rw [q9i hn]
       have sai:=sa.1
       have sbj:=sb.1
       generalize hfi:ef i=fi at sai hR hU
       generalize hfj:ef j=fj at sbj
       cases fi with
       | none=>simp [effR]at hR
       | some p=>
        obtain ⟨v,u,ids,n⟩:=p
        obtain rfl:ids= [id]:=hR
        cases fj with
        | none=>unfold tch at htj; rw [hfj]at htj; simp [effU]at htj
        | some q=>
         obtain ⟨v2,u2,ids2,n2⟩:=q
         unfold tch at htj
         rw [hfj]at htj
         obtain ⟨_,hev1,_⟩:=sai
         obtain ⟨_,hev2,_⟩:=sbj
         rw [Nat.zero_add]at hev1 hev2
         exact ⟨a,v,u,id,n,ha,hfi,by rw [hfj]; exact qol hso hev1 hev2 (hsame j (by omega) (Nat.le_refl _)) htj⟩
      ·left
       intro id2 ht2
       rw [hR]
       simp only [List.mem_singleton]
       rintro rfl
       exact htj ht2
     ·simp at hd
   ·rw [if_neg hso]at hd
    simp only at hd
    rw [if_neg (by omega)]at hd
    simp only [sa.2,sb.2]at hd
    exact .inr (hapart hd)
def qfx(ops:Array Oper)(D:Nat->Bool):Prop:=∀(k:Nat) (o:Oper),ops[k]? =some o->D k=true->∀e∈o.after,Region.binds .any e=true->D e.on=true
theorem Plan.closed(hp:Plan P sig nt calls ops l m base E Hp ef){D:Nat->Bool}(hc:qfx ops D){i:Nat}:∀(N j:Nat),j < N->j < ops.size->D j=true->q11 m i j=true->D i=true:=by
 intro N
 induction N with
 | zero=>intro j hj; omega
 | succ N ih=>
  intro j hj hjn hD hb
  have ho:ops[j]? =some ops[j]:=Array.getElem?_eq_getElem hjn
  obtain ⟨h1,h2⟩:=hp.ord j _ ho
  obtain ⟨e,he,hbd,h⟩:=h1 i hb
  have hDe:=hc j _ ho hD e he hbd
  rcases h with h | h
  ·rw [<- h]; exact hDe
  ·have:=h2 e he hbd
   exact ih e.on (by omega) (by omega) hDe h
theorem Plan.pred(hp:Plan P sig nt calls ops l m base E Hp ef){D:Nat->Bool}(hc:qfx ops D){i j:Nat}{o:Oper}(hi:ops[i]? =some o)(hall:∀e∈o.after,Region.binds .any e=true->D e.on=true)
  (hb:q11 m j i=true):D j=true:=by
 obtain ⟨h1,h2⟩:=hp.ord i _ hi
 obtain ⟨e,he,hbd,h⟩:=h1 j hb
 have hDe:=hall e he hbd
 rcases h with h | h
 ·rw [<- h]; exact hDe
 ·have:=h2 e he hbd
  have hlt:i < ops.size:=(Array.getElem?_eq_some_iff.1 hi).1
  exact hp.closed hc (e.on+1) e.on (by omega) (by omega) hDe h
theorem qp8{d:Option Nat}{l:List Nat}{t:Nat}(hd:d=some t)(h:t∈l):hits d l=true:=by
 subst hd; simpa [hits]using h
theorem Plan.sees(hp:Plan P sig nt calls ops l m base E Hp ef){D:Nat->Bool}(hc:qfx ops D){i:Nat}{o:Oper}{c:COp}(hi:ops[i]? =some o)(hci:l[i]? =some c)(hD:D i=false)
  (hall:∀e∈o.after,Region.binds .any e=true->D e.on=true):
  (∀ t∈qo0 c,envX (dstOf l) ef D (fnd (E 0)) ops.size t=fnd (E i) t)/\(∃ G,(∀ id∈effR (ef i),heapX ef D (look (Hp 0)) ops.size id=look G id)/\∀v u ids n,ef i=some (v,u,ids,n)->ev1 (calls i) c.k (c.args.map (opv (E i))) G (base+room * i)=some (v,u,ids,n))/\
  (∀ t,c.dst=some t->∀k,i < k->k < ops.size->D k=true->dstOf l k≠some t)/\(∀ id,tch ef i id->∀k,i < k->k < ops.size->D k=true->¬tch ef k id):=by
 have hlt:i < ops.size:=(Array.getElem?_eq_some_iff.1 hi).1
 have get:∀k,k < ops.size->∃b,l[k]? =some b:=λk hk=>⟨_,List.getElem?_eq_getElem (by rw [hp.len]; exact hk)⟩
 have lat:∀k,i < k->k < ops.size->q11 m i k=true->D k=false:=by
  intro k _ hk hb
  cases hDk:D k with
  | false=>rfl
  | true=>rw [hp.closed hc (k+1) k (by omega) hk hDk hb]at hD; simp at hD
 refine ⟨λt ht=> ?_, ?_,λt ht k hik hk hDk hdk=> ?_,λid ht k hik hk hDk htk=> ?_⟩
 ·refine qgz (λk hk t=> ?_) (Nat.le_of_lt hlt) (λk hk hd=> ?_) (λk hik hk hd=> ?_)
  ·obtain ⟨b,hb⟩:=get k hk
   have:=(hp.step k b hb).env t
   rw [this]; simp [dstOf,hb]
  ·obtain ⟨b,hb⟩:=get k (by omega)
   have hbd:b.dst=some t:=by simpa [dstOf,hb]using hd
   rcases hp.con k i b c hb hci hk with h | h
   ·exact hp.pred hc hi hall h
   ·simp [confl,qp8 hbd ht]at h
  ·rcases Nat.lt_or_ge i k with h1 | h1
   ·obtain ⟨b,hb⟩:=get k (by omega)
    have hbd:b.dst=some t:=by simpa [dstOf,hb]using hd
    rcases hp.con i k c b hci hb h1 with h | h
    ·exact lat k h1 hk h
    ·simp [confl,qp8 hbd ht]at h
   ·obtain rfl:k=i:=by omega
    exact hD
 ·have hev:∀v u ids n,ef i=some (v,u,ids,n)->ev1 (calls i) c.k (c.args.map (opv (E i))) (Hp i) (base+room * i)=some (v,u,ids,n):=by
   intro v u ids n hf
   have hs:=hp.step i c hci
   rw [hf]at hs
   exact hs.2.1
  by_cases hsoft:∃k,i < k/\k < ops.size/\D k=true/\∃id∈effR (ef i),tch ef k id
  ·-- the last of those that came ahead
   obtain ⟨k,⟨hik,hk,hDk,id0,hid0,ht0⟩,hmax⟩:∃k,(i < k/\k < ops.size/\D k=true/\∃id∈effR (ef i),tch ef k id)/\∀k',k < k'->¬(i < k'/\k' < ops.size/\D k'=true/\∃id∈effR (ef i),tch ef k' id):=by
    have:∀(N:Nat) (k:Nat),ops.size - k<=N->(i < k/\k < ops.size/\D k=true/\∃id∈effR (ef i),tch ef k id)->
      ∃k,(i < k/\k < ops.size/\D k=true/\∃id∈effR (ef i),tch ef k id)/\∀k',k < k'->¬(i < k'/\k' < ops.size/\D k'=true/\∃id∈effR (ef i),tch ef k' id):=by
     intro N
     induction N with
     | zero=>intro k h1 h2; omega
     | succ N ihN=>
      intro k h1 h2
      by_cases hm:∃k',k < k'/\(i < k'/\k' < ops.size/\D k'=true/\∃id∈effR (ef i),tch ef k' id)
      ·obtain ⟨k',h3,h4⟩:=hm
       exact ihN k' (by omega) h4
      ·exact ⟨k,h2,λk' h3 h4=>hm ⟨k',h3,h4⟩⟩
    obtain ⟨k,h⟩:=hsoft
    exact this _ k (Nat.le_refl _) h
   rcases hp.apt i k hik hk with h | ⟨_,h | h⟩
   ·rw [lat k hik hk h]at hDk; simp at hDk
   ·exact absurd hid0 (h id0 ht0)
   ·obtain ⟨c',v,u,id,n,hc',hf,hev'⟩:=h
    obtain rfl:c=c':=Option.some.inj (hci.symm.trans hc')
    have hR:effR (ef i)= [id]:=by rw [hf]; rfl
    refine ⟨effU (ef k)++Hp i,λid' hid'=> ?_,λv' u' ids' n' hf'=> ?_⟩
    ·obtain rfl:id'=id:=by rw [hR]at hid'; simpa using hid'
     obtain rfl:id0=id':=by rw [hR]at hid0; simpa using hid0
     obtain ⟨x,hx⟩:=qre ht0
     have hlast:∀n',k < n'->n'<=ops.size->heapX ef D (look (Hp 0)) n' id0=x:=by
      intro n' hkn
      induction n' with
      | zero=>omega
      | succ n' ihn=>
       intro hn'
       simp only [heapX]
       by_cases e:n'=k
       ·subst e
        rw [hx]; simp [hDk]
       ·have hno:¬(D n'=true/\tch ef n' id0):=λhh=>hmax n' (by omega) ⟨by omega,by omega,hh.1,id0,hid',hh.2⟩
        have:=ihn (by omega) (by omega)
        cases hDn:D n' with
        | false=>simpa [hDn]using this
        | true=>
         have hnt:¬tch ef n' id0:=λh=>hno ⟨hDn,h⟩
         rw [q9i hnt]; simpa [hDn]using this
     rw [hlast ops.size hk (Nat.le_refl _),q18]
     simp only [updF,hx]
    ·rw [hf]at hf'
     obtain ⟨rfl,rfl,rfl,rfl⟩:v=v'/\u=u'/\ [id]=ids'/\n=n':=by simpa using hf'
     exact hev'
  ·refine ⟨Hp i,λid hid=> ?_,hev⟩
   refine qda (λk hk id=> ?_) (Nat.le_of_lt hlt) (λk hk hd=> ?_) (λk hik hk hd=> ?_)
   ·obtain ⟨b,hb⟩:=get k hk
    exact (hp.step k b hb).heap id
   ·rcases hp.apt k i hk hlt with h | h
    ·exact hp.pred hc hi hall h
    ·exact absurd hid (h.1 id hd).1
   ·rcases Nat.lt_or_ge i k with h1 | h1
    ·cases hDk:D k with
     | false=>rfl
     | true=>exact absurd ⟨k,h1,hk,hDk,id,hid,hd⟩ hsoft
    ·obtain rfl:k=i:=by omega
     exact hD
 ·obtain ⟨b,hb⟩:=get k hk
  have hbd:b.dst=some t:=by simpa [dstOf,hb]using hdk
  rcases hp.con i k c b hci hb hik with h | h
  ·rw [lat k hik hk h]at hDk; simp at hDk
  ·simp [confl,ht,hbd,hits]at h
 ·rcases hp.apt i k hik hk with h | h
  ·rw [lat k hik hk h]at hDk; simp at hDk
  ·exact absurd htk (h.1 id ht).2
def cnt(D:Nat->Bool):Nat->Nat
 | 0=>0
 | k+1=>cnt D k+if D k=true then 0 else 1
theorem qtx{D D':Nat->Bool}{i:Nat}(hD:∀k,k≠i->D' k=D k)(h1:D' i=true)(h0:D i=false):∀n,i < n->cnt D' n+1=cnt D n:=by
 have a:∀k,k<=i->cnt D' k=cnt D k:=by
  intro k
  induction k with
  | zero=>intro _; rfl
  | succ k ih=>intro hk; simp only [cnt]; rw [ih (by omega),hD k (by omega)]
 intro n
 induction n with
 | zero=>intro h; omega
 | succ n ih=>
  intro h
  simp only [cnt]
  by_cases e:i=n
  ·subst e
   rw [a i (Nat.le_refl _),h1,h0]; simp
  ·have:=ih (by omega)
   rw [hD n (λh=>e h.symm)]
   omega
theorem qrg{D:Nat->Bool}:∀ {n:Nat},cnt D n=0->∀k,k < n->D k=true:=by
 intro n
 induction n with
 | zero=>intro _ k hk; omega
 | succ n ih=>
  intro h k hk
  simp only [cnt]at h
  by_cases e:k=n
  ·subst e
   by_cases hd:D k=true
   ·exact hd
   ·simp [hd]at h
  ·exact ih (by omega) k (by omega)
theorem qt0(n:Nat):cnt (λ_=>false) n=n:=by
 induction n with
 | zero=>rfl
 | succ n ih=>simp [cnt,ih]
theorem qhj{e e':Env}{g:Option (Nat×Bool)}(h:∀t∈(match g with | some (t,_)=> [t] | none=>([]:List Nat)),fnd e' t=fnd e t):wants e' g=wants e g:=by
 cases g with
 | none=>rfl
 | some p=>
  obtain ⟨t,b⟩:=p
  simp only [wants,h t (by simp)]
theorem qpe{e e':Env}:∀ {args:List Operand},(∀ t∈args.filterMap opT,fnd e' t=fnd e t)->args.map (opv e')=args.map (opv e):=by
 intro args h
 refine List.map_congr_left λx hx=> ?_
 cases x with
 | tmp t=>exact h t (List.mem_filterMap.2 ⟨.tmp t,hx,rfl⟩)
 | _=>rfl
theorem qqa(hok:∀i,q5b P (calls i))(hnt:nt < 1000000000){Q:Exit->Act->World->Prop}(hp:Plan P sig nt calls ops l m base E Hp ef){S0:Nat->Prop}{ws:World}{gh:List C}
  (hQ : ∀ S' Kn' φ' a' w', Stp S0 ws S' w' → Rel S' K w0 Kn' φ' gv nt ⟨E ops.size, Hp ops.size, base + room * l.length, gh⟩ a' w' → Q .normal a' w') :
  ∀(fuel:Nat) (listed:Array Bool) (S:Nat->Prop) (Kn:Nat->Prop) (φ:Nat->Loc) (a:Act) (w:World) (ec:Env) (hc:Heap),
  listed.size=ops.size->cnt (λk=>listed.getD k false) ops.size<=fuel->qfx ops (λk=>listed.getD k false)->
  (∀ t,fnd ec t=envX (dstOf l) ef (λk=>listed.getD k false) (fnd (E 0)) ops.size t)->(∀ id,look hc id=heapX ef (λk=>listed.getD k false) (look (Hp 0)) ops.size id)->
  Inv S K w0 Kn φ (look hc) w->Env.ok S w Kn φ ec a.tmps->a.tmps.size=nt->a.defers= []->
  (∀ j,Kn j->j < base\/∃i,i < ops.size/\listed.getD i false=true/\base+room * i<=j/\j < base+room * (i+1))->
  (∀ (i:Nat) (c:C) (v:Value),gh[i]? =some c->gv[i]? =some v->RG S w Kn φ c v)->Stp S0 ws S w->wpAny P .any ops Q fuel listed a w:=by
 intro fuel
 induction fuel with
 | zero=>
  intro listed S Kn φ a w ec hc hsz hcnt hcl henv hheap hI hE hts hdf hKn hgh hstp
  have hall:=qrg (Nat.le_zero.1 hcnt)
  refine ⟨?_, ?_⟩
  ·rw [List.eq_nil_iff_forall_not_mem]
   intro i hi
   obtain ⟨h0,o,ho,_⟩:=mem_ready.1 hi
   have hlt:i < ops.size:=(Array.getElem?_eq_some_iff.1 ho).1
   have h2:=hall i hlt
   have hlt2:i < listed.size:=by omega
   simp [Array.getD,hlt2]at h0 h2
   rw [h0]at h2; simp at h2
  ·refine hQ S Kn φ a w hstp ⟨?_, ?_,hts,hdf, ?_,hgh⟩
   ·have:look hc=look (Hp ops.size):=by
     funext id
     rw [hheap]
     refine qda (λk hk id=> ?_) (Nat.le_refl _) (λk hk _=>hall k hk) (λk h1 h2 _=>by omega)
     exact (hp.step k _ (List.getElem?_eq_getElem (by rw [hp.len]; exact hk))).heap id
    rw [<- this]; exact hI
   ·intro t x hx
    refine hE t x ?_
    rw [henv,<- hx]
    refine qgz (λk hk t=> ?_) (Nat.le_refl _) (λk hk _=>hall k hk) (λk h1 h2 _=>by omega)
    have hb:l[k]? =some _:=List.getElem?_eq_getElem (by rw [hp.len]; exact hk)
    have:=(hp.step k _ hb).env t
    rw [this]; simp only [dstOf,hb,Option.bind_some]
   ·intro j hj hk
    have hj':base+room * l.length<=j:=hj
    rw [hp.len]at hj'
    rcases hKn j hk with h | ⟨i,hi,_,h1,h2⟩
    ·omega
    ·have:room * (i+1)<=room * ops.size:=Nat.mul_le_mul_left _ (by omega)
     omega
 | succ fuel ih=>
  intro listed S Kn φ a w ec hc hsz hcnt hcl henv hheap hI hE hts hdf hKn hgh hstp
  have fin:(∀ k,k < ops.size->listed.getD k false=true)->Q .normal a w:=by
   intro hall
   refine hQ S Kn φ a w hstp ⟨?_, ?_,hts,hdf, ?_,hgh⟩
   ·have:look hc=look (Hp ops.size):=by
     funext id
     rw [hheap]
     refine qda (λk hk id=> ?_) (Nat.le_refl _) (λk hk _=>hall k hk) (λk h1 h2 _=>by omega)
     exact (hp.step k _ (List.getElem?_eq_getElem (by rw [hp.len]; exact hk))).heap id
    rw [<- this]; exact hI
   ·intro t x hx
    refine hE t x ?_
    rw [henv,<- hx]
    refine qgz (λk hk t=> ?_) (Nat.le_refl _) (λk hk _=>hall k hk) (λk h1 h2 _=>by omega)
    have hb:l[k]? =some _:=List.getElem?_eq_getElem (by rw [hp.len]; exact hk)
    have:=(hp.step k _ hb).env t
    rw [this]; simp only [dstOf,hb,Option.bind_some]
   ·intro j hj hk
    have hj':base+room * l.length<=j:=hj
    rw [hp.len]at hj'
    rcases hKn j hk with h | ⟨i,hi,_,h1,h2⟩
    ·omega
    ·have:room * (i+1)<=room * ops.size:=Nat.mul_le_mul_left _ (by omega)
     omega
  refine ⟨λhnil=>fin ?_,λi hi=> ?_⟩
  ·-- nothing is ready: all is done
   intro k
   induction k using Nat.strongRecOn with
   | _ k ihk=>
    intro hk
    cases hd:listed.getD k false with
    | true=>rfl
    | false=>
     exfalso
     have ho:ops[k]? =some ops[k]:=Array.getElem?_eq_getElem hk
     have:k∈Region.ready .any ops listed:=by
      rw [mem_ready]
      refine ⟨?_,_,ho,λe he hbk=> ?_⟩
      ·have hlt2:k < listed.size:=by omega
       simp [Array.getD,hlt2]at hd ⊢
       exact hd
      ·have:=(hp.ord k _ ho).2 e he hbk
       exact ihk e.on this (by omega)
     rw [hnil]at this
     simp at this
  ·obtain ⟨h0,o,ho,hall⟩:=mem_ready.1 hi
   have hlt:i < ops.size:=(Array.getElem?_eq_some_iff.1 ho).1
   have hlt2:i < listed.size:=by omega
   have hD:listed.getD i false=false:=by
    simp [Array.getD,hlt2]at h0 ⊢
    exact h0
   have hci:=hp.cop i o ho
   have hstep:=hp.step i _ hci
   obtain ⟨s1,s2,s3,s4⟩:=hp.sees (D:=λk=>listed.getD k false) hcl ho hci hD hall
   have hD':∀k,k≠i->(listed.setIfInBounds i true).getD k false=listed.getD k false:=λk hk=>getD_set_ne false (λe=>hk e.symm)
   have hDi:(listed.setIfInBounds i true).getD i false=true:=by simp [hlt2]
   have hcnt':cnt (λk=>(listed.setIfInBounds i true).getD k false) ops.size<=fuel:=by
    have:=qtx (D:=λk=>listed.getD k false) (D':=λk=>(listed.setIfInBounds i true).getD k false) hD' hDi hD ops.size hlt
    omega
   have hcl':qfx ops (λk=>(listed.setIfInBounds i true).getD k false):=by
    intro k o' ho' hk e he hb
    by_cases e1:k=i
    ·subst e1
     obtain rfl:o=o':=by
      have:=ho.symm.trans ho'
      exact Option.some.inj this
     exact getD_set_true (hall e he hb)
    ·have hk':listed.getD k false=true:=by rw [<- hD' k e1]; exact hk
     exact getD_set_true (hcl k o' ho' hk' e he hb)
   have hdstD:dstOf l i=o.dst:=by simp [dstOf,hci,q1n]
   have henv':∀t,envX (dstOf l) ef (λk=>(listed.setIfInBounds i true).getD k false) (fnd (E 0)) ops.size t=if o.dst=some t then effV (ef i)else fnd ec t:=by
    intro t
    rw [qr7 (D:=λk=>listed.getD k false) hlt hD' hDi hD (λhd=>s3 t (by rw [hdstD]at hd; exact hd)),hdstD,henv t]
   have hheap':∀id,heapX ef (λk=>(listed.setIfInBounds i true).getD k false) (look (Hp 0)) ops.size id=match fnd (effU (ef i)) id with | some o=>o | none=>look hc id:=by
    intro id
    rw [qnp (D:=λk=>listed.getD k false) hlt hD' hDi hD (λht=>s4 id ht),hheap id]
    all_goals (cases fnd (effU (ef i)) id <;> rfl)
   have hwe:wants ec (q1n P sig nt ops o).guard=wants (E i) (q1n P sig nt ops o).guard:=by
    refine qhj λt ht=> ?_
    rw [henv t]
    exact s1 t (List.mem_append_right _ ht)
   have hae:(q1n P sig nt ops o).args.map (opv ec)=(q1n P sig nt ops o).args.map (opv (E i)):=by
    refine qpe λt ht=> ?_
    rw [henv t]
    exact s1 t (List.mem_append_left _ ht)
   simp only [wpOp,ho]
   generalize hfe:ef i=f at hstep henv' hheap' s2
   cases f with
   | none=>
    obtain ⟨hw,_,_⟩:=hstep
    rw [<- hwe]at hw
    have hwant:=q68 hE (by rw [hts]; exact hnt) hw
    rw [if_neg (by simp [hwant])]
    refine ih _ S Kn φ _ w (drop ec o.dst) hc (by simp [hsz]) hcnt' hcl' ?_ ?_ hI (Env.drop_ok hE) (by rw [qam]; exact hts) (by rw [q7n]; exact hdf) ?_ hgh hstp
    ·intro t; rw [henv' t,qe0]; rfl
    ·intro id; rw [hheap' id]; rfl
    ·intro j hj
     rcases hKn j hj with h | ⟨k,hk,h1,h2⟩
     ·exact .inl h
     ·exact .inr ⟨k,hk,getD_set_true h1,h2⟩
   | some p=>
    obtain ⟨v,u,ids,n⟩:=p
    obtain ⟨hw,hev,hn,_,_⟩:=hstep
    rw [<- hwe]at hw
    obtain ⟨G,g1,g2⟩:=s2
    have hev3:=g2 v u ids n rfl
    rw [<- hae]at hev3
    have hev2:=qm7 (H':=hc) hev3 (λid hid=>by rw [hheap id]; exact g1 id hid)
    have hwant:=q68 hE (by rw [hts]; exact hnt) hw
    rw [if_pos hwant]
    left
    have hdst:∀x,o.dst=some x->x < a.tmps.size:=by
     intro x hx
     rw [hts]
     rcases Nat.lt_or_ge x nt with h1 | h1
     ·exact h1
     ·exfalso
      have:(q1n P sig nt ops o).k= .bad:=by
       simp only [q1n,hx]
       rw [if_neg (by simp; omega)]
      rw [this,q0y]at hev2
      simp at hev2
    have hk:compK P sig o.op=((q1n P sig nt ops o).k,(q1n P sig nt ops o).args):=by
     have:(q1n P sig nt ops o).k=(compK P sig o.op).1:=by
      simp only [q1n]
      rw [if_pos]
      cases hd:o.dst with
      | none=>rfl
      | some d=>have:=hdst d hd; rw [hts]at this; simpa using this
     rw [this]; rfl
    have hfr:∀j,base+room * i<=j->j < n->¬Kn j:=by
     intro j h1 h2 hk
     rcases hKn j hk with h | ⟨k,hkn,h3,h4,h5⟩
     ·omega
     ·have hne:k≠i:=by rintro rfl; rw [h3]at hD; simp at hD
      rcases Nat.lt_or_ge k i with h6 | h6
      ·have:room * (k+1)<=room * i:=Nat.mul_le_mul_left _ (by omega)
       omega
      ·have:room * (i+1)<=room * k:=Nat.mul_le_mul_left _ (by omega)
       omega
    have hgo:=qjg (hok i) hk hI hE hfr hev2
    refine hgo _ _ λval w' hDn=> ?_
    obtain ⟨hle, S', φ', h1, h2, h3, h4⟩ := hDn
    refine ih _ S' (KnU Kn (base + room * i) n) φ' _ w' (put ec o.dst v) (u ++ hc) (by simp [hsz]) hcnt' hcl' ?_ ?_ ?_ (Env.put_ok hE h1 h2 hdst h3) (by rw [qam]; exact hts) (by rw [q7n]; exact hdf) ?_ ?_ (hstp.trans h1)
    ·intro t; rw [henv' t,q3v]; rfl
    ·intro id; rw [hheap' id,q18]; rfl
    ·rw [q18]; exact h4
    ·intro j hj
     rcases hj with hj | hj
     ·rcases hKn j hj with h | ⟨k,hk,h1,h2⟩
      ·exact .inl h
      ·exact .inr ⟨k,hk,getD_set_true h1,h2⟩
     ·exact .inr ⟨i,hlt,hDi,hj.1,by omega⟩
    ·intro i c v hc hv
     exact (hgh i c v hc hv).mono h1 h2
theorem qgg(hok:∀i,q5b P (calls i))(hnt:nt < 1000000000){Q:Exit->Act->World->Prop}{e':Env}{h':Heap}{tr:List (List Nat×List Nat)}(hl:l=ops.toList.map (q1n P sig nt ops))
  (hord:ordOk m ops.toList 0=true) (hsch:sched m l 0=true) (hev:q4n calls s.next l 0 s.env s.heap=some (e',h',tr)) (hdyn:dynOk tr (qa0 m l 0)=true) (hsmall:l.length<=1000)
  (hR:Rel S K w0 Kn φ gv nt s a w)
  (hQ : ∀ S' Kn' φ' a' w', Stp S w S' w' → Rel S' K w0 Kn' φ' gv nt ⟨e', h', s.next + room * l.length, s.gh⟩ a' w' → Q .normal a' w') :
  wpAny P .any ops Q ops.size (Array.replicate ops.size false) a { w with drawn:=w.drawn+1 }:=by
 obtain ⟨E,Hp,ef,hp,h1,h2,h3,h4⟩:=qui hl hord hsch hev hdyn hsmall
 have hd:∀k,(Array.replicate ops.size false).getD k false=false:=by
  intro k
  simp only [Array.getD_eq_getD_getElem?,Array.getElem?_replicate]
  split <;> rfl
 have hst:Stp S w S { w with drawn:=w.drawn+1 }:=Stp.drew S w _
 refine qqa (gv:=gv) (K:=K) (w0:=w0) hok hnt hp (S0:=S) (ws:=w) (gh:=s.gh) ?_ ops.size _ S Kn φ a _ s.env s.heap (by simp) ?_ ?_ ?_ ?_ (hR.inv.drew _ (Nat.le_succ _)) ?_ hR.size hR.defers ?_ ?_ hst
 ·rw [h3,h4]; exact hQ
 ·simp only [hd,qt0]; exact Nat.le_refl _
 ·intro k o _ hk
  simp only [hd]at hk
  simp at hk
 ·intro t
  simp only [hd]
  rw [h1]
  have:∀k,envX (dstOf l) ef (λ_=>false) (fnd s.env) k t=fnd s.env t:=by
   intro k
   induction k with
   | zero=>rfl
   | succ k ih=>simp [envX,ih]
  exact (this _).symm
 ·intro id
  simp only [hd]
  rw [h2]
  have:∀k,heapX ef (λ_=>false) (look s.heap) k id=look s.heap id:=by
   intro k
   induction k with
   | zero=>rfl
   | succ k ih=>simp [heapX,ih]
  exact (this _).symm
 ·intro t x hx
  exact (hR.env t x hx).mono hst (Ren.refl _ _)
 ·intro j hj
  rcases Nat.lt_or_ge j s.next with h | h
  ·exact .inl h
  ·exact absurd hj (hR.fresh j h)
 ·intro i c v hc hv
  exact (hR.gh i c v hc hv).mono hst (Ren.refl _ _)
end
end Go.Ev

namespace Go.Ev
def comp(P:Program)(sig:Sig)(nt:Nat):Code->CC
 | .skip=> .skip
 | .region _ ops draw=>if draw then qat ops.toList (ops.toList.map (q1n P sig nt ops)) []else .region (ops.toList.map (q1n P sig nt ops)) []
 | .seq a b=> .seq (comp P sig nt a) (comp P sig nt b)
 | .cond c a b=> .cond c (comp P sig nt a) (comp P sig nt b)
 | .block id a=> .block id (comp P sig nt a)
 | .loop a=> .loop [] (comp P sig nt a)
 | .scope a=>comp P sig nt a
 | .label _=> .skip
 | .exit id=> .exit id
 | .ret=> .ret
 | _=> .bad
def outE:Out->Exit
 | .normal=> .normal
 | .exit id=> .exit id
 | .ret=> .ret
def Sub(s s1:St):Prop:=∀(S K:Nat->Prop) (w0:World) (Kn:Nat->Prop) (φ:Nat->Loc) (gv:List Value) (nt:Nat) (a:Act) (w:World),
 Rel S K w0 Kn φ gv nt s a w → ∃ S' Kn' φ', Stp S w S' w ∧ Rel S' K w0 Kn' φ' gv nt s1 a w
theorem Sub.refl(s:St):Sub s s:=λS _ _ Kn φ _ _ _ w h=>⟨S,Kn,φ,Stp.refl S w,h⟩
theorem Sub.trans{s s1 s2:St}(a:Sub s s1)(b:Sub s1 s2):Sub s s2:=λS K w0 Kn φ gv nt ac w h=>
 let ⟨S1,Kn1,φ1,h1,h2⟩:=a S K w0 Kn φ gv nt ac w h
 let ⟨S2,Kn2,φ2,h3,h4⟩:=b S1 K w0 Kn1 φ1 gv nt ac w h2
 ⟨S2,Kn2,φ2,h1.trans h3,h4⟩
def wk(Q:St->Prop)(s:St):Prop:=∃s1,Sub s s1/\Q s1
theorem wk.of{Q:St->Prop}{s:St}(h:Q s):wk Q s:=⟨s,Sub.refl s,h⟩
def WO(P:Program):List COp->St->(St->Prop)->Prop
 | [],s,Q=>wk Q s
 | o :: r,s,Q=>∃s1,Sub s s1/\
  ((wants s1.env o.guard=some true/\∃call v u ids n,q5b P call/\ev1 call o.k (o.args.map (opv s1.env)) s1.heap s1.next=some (v,u,ids,n)/\WO P r ⟨put s1.env o.dst v,u++s1.heap,n,s1.gh⟩ Q)\/
   (wants s1.env o.guard=some false/\WO P r ⟨drop s1.env o.dst,s1.heap,s1.next,s1.gh⟩ Q))
def After(R:St->Prop)(Q:Out->St->Prop):Out->St->Prop
 | .normal,s=>R s
 | .exit id,s=>Q (.exit id) s
 | .ret,s=>Q .ret s
def OutOf(id:Nat)(Q:Out->St->Prop):Out->St->Prop
 | .exit id',s=>if id'=id then Q .normal s else Q (.exit id') s
 | .normal,s=>Q .normal s
 | .ret,s=>Q .ret s
def W(P:Program):CC->St->(Out->St->Prop)->Prop
 | .skip,s,Q=>wk (Q .normal) s
 | .region ops _,s,Q=>WO P ops s λs'=>wk (Q .normal) s'
 | .drawn ops dyn _,s,Q=>∃s1,Sub s s1/\∃calls e h tr,(∀ i,q5b P (calls i))/\q4n calls s1.next ops 0 s1.env s1.heap=some (e,h,tr)/\dynOk tr dyn=true/\
   wk (Q .normal) ⟨e,h,s1.next+room * ops.length,s1.gh⟩
 | .seq a b,s,Q=>W P a s (After (λs'=>W P b s' Q) Q)
 | .cond c a b,s0,Q=>∃s,Sub s0 s/\∃t,opv s.env c=some (.c (.d (.lit (.bool t))))/\(t=true->W P a s Q)/\(t=false->W P b s Q)
 | .block id a,s,Q=>W P a s (OutOf id Q)
 | .loop _ a,s,Q=>∃(I:Nat->St->Prop) (n:Nat),wk (I n) s/\∀n s,I n s->W P a s (After (λs'=>∃m,m < n/\wk (I m) s') Q)
 | .exit id,s,Q=>wk (Q (.exit id)) s
 | .ret,s,Q=>wk (Q .ret) s
 | .bad,_,_=>False
section
variable {P:Program}{S K:Nat->Prop}{w0 w:World}{Kn:Nat->Prop}{φ:Nat->Loc}{gv:List Value}{nt:Nat}{a:Act}{sig:Sig}{s s':St}
theorem qpx{all:Array Oper}{R:Exit->Act->World->Prop}(hnt:nt < 1000000000){Q:St->Prop}:∀(l:List Nat) (os:List Oper) (s:St) (S:Nat->Prop) (Kn:Nat->Prop) (φ:Nat->Loc) (a:Act) (w:World),
  (∀ (i j:Nat),l[i]? =some j->all[j]? =os[i]?)->l.length=os.length->WO P (os.map (q1n P sig nt all)) s Q->Rel S K w0 Kn φ gv nt s a w->
  (∀ S' Kn' φ' s' a' w', Q s' → Stp S w S' w' → Rel S' K w0 Kn' φ' gv nt s' a' w' → R .normal a' w') → wpOps P all R l a w := by
 intro l
 induction l with
 | nil=>
  intro os s S Kn φ a w _ hl h hR hQ
  obtain rfl:os= []:=List.length_eq_zero_iff.1 hl.symm
  obtain ⟨s1,h1,h2⟩:=h
  obtain ⟨S1,Kn1,φ1,h3,h4⟩:=h1 S K w0 Kn φ gv nt a w hR
  exact hQ S1 Kn1 φ1 s1 a w h2 h3 h4
 | cons i l ih=>
  intro os s S Kn φ a w hi hl h hR hQ
  cases os with
  | nil=>simp at hl
  | cons o os=>
   have ho:all[i]? =some o:=by simpa using hi 0 i rfl
   simp only [List.map_cons,WO]at h
   obtain ⟨s1,hsub,h⟩:=h
   obtain ⟨S1,Kn1,φ1,hs1,hR1⟩:=hsub S K w0 Kn φ gv nt a w hR
   simp only [wpOps,ho]
   rcases h with ⟨hw,call,v,u,ids,n,hok,hev,h⟩ | ⟨hw,h⟩
   ·have hwant:=q68 hR1.env (by rw [hR1.size]; exact hnt) hw
    rw [if_pos hwant]
    left
    have hdst:∀x,o.dst=some x->x < a.tmps.size:=by
     intro x hx
     rw [hR1.size]
     rcases Nat.lt_or_ge x nt with h1 | h1
     ·exact h1
     ·exfalso
      have:(q1n P sig nt all o).k= .bad:=by
       simp only [q1n,hx]
       rw [if_neg (by simp; omega)]
      rw [this,q0y]at hev
      simp at hev
    have hk:compK P sig o.op=((q1n P sig nt all o).k,(q1n P sig nt all o).args):=by
     have:(q1n P sig nt all o).k=(compK P sig o.op).1:=by
      simp only [q1n]
      rw [if_pos]
      cases hd:o.dst with
      | none=>rfl
      | some d=>have:=hdst d hd; rw [hR1.size]at this; simpa using this
     rw [this]; rfl
    have hgo:=qjg hok hk hR1.inv hR1.env (λj hj _=>hR1.fresh j hj) hev
    refine hgo _ _ λval w' hD=> ?_
    obtain ⟨hle, S', φ', h1, h2, h3, h4⟩ := hD
    refine ih os _ S' (KnU Kn1 s1.next n) φ' _ w' (fun i' j hj => hi (i' + 1) j (by simpa using hj)) (by simpa using hl) h ⟨?_, ?_, ?_, ?_, ?_, ?_⟩ fun S2 Kn2 φ2 s2 a2 w2 h0 h5 h6 => hQ S2 Kn2 φ2 s2 a2 w2 h0 ((hs1.trans h1).trans h5) h6
    ·simp only [q18]; exact h4
    ·exact Env.put_ok hR1.env h1 h2 hdst h3
    ·rw [qam]; exact hR1.size
    ·rw [q7n]; exact hR1.defers
    ·intro j hj hk
     simp only at hj
     rcases hk with hk | hk
     ·exact hR1.fresh j (by omega) hk
     ·omega
    ·intro i c v hc hv
     exact (hR1.gh i c v hc hv).mono h1 h2
   ·have hwant:=q68 hR1.env (by rw [hR1.size]; exact hnt) hw
    rw [if_neg (by simp [hwant])]
    refine ih os _ S1 Kn1 φ1 _ w (λi' j hj=>hi (i'+1) j (by simpa using hj)) (by simpa using hl) h ⟨hR1.inv, ?_, ?_, ?_,hR1.fresh,hR1.gh⟩ λS2 Kn2 φ2 s2 a2 w2 h0 h5 h6=>hQ S2 Kn2 φ2 s2 a2 w2 h0 (hs1.trans h5) h6
    ·exact Env.drop_ok hR1.env
    ·rw [qam]; exact hR1.size
    ·rw [q7n]; exact hR1.defers
theorem qep{c:Code}{Q:Exit->Act->World->Prop}(J:Nat->Act->World->Prop)(n:Nat)(h₀:J n a w)
  (round:∀n a w,J n a w->c.wp P (Exit.then (λa w=>∃m,m < n/\J m a w) Q) a w):(Code.loop c).wp P Q a w:=by
 intro b k cs
 have key:∀n a w,J n a w->∃e a' w',Q e a' w'/\Arrives P (lone (b.at a (.code c :: .inLoop c :: k)) cs w) b k cs e a' w':=by
  intro n
  induction n using Nat.strongRecOn with
  | _ n ih=>
   intro a w hJ
   obtain ⟨e,a₁,w₁,hq,harr⟩:=round n a w hJ b (.inLoop c :: k) cs
   cases e with
   | normal=>
    obtain ⟨m,hlt,hq⟩:=hq
    obtain ⟨e₂,a₂,w₂,hq₂,harr₂⟩:=ih m hlt a₁ w₁ hq
    exact ⟨e₂,a₂,w₂,hq₂, .of_steps (Steps.trans harr (.one step_inLoop)) harr₂⟩
   | exit id=>exact ⟨_,a₁,w₁,hq, .pass (x:= .inLoop c) rfl (λ_ _=> .inl (by simp)) harr⟩
   | goto l=>exact ⟨_,a₁,w₁,hq, .pass (x:= .inLoop c) rfl (λ_ _=> .inl (by simp)) harr⟩
   | ret=>exact ⟨_,a₁,w₁,hq, .pass (x:= .inLoop c) rfl (λ_ _=> .inl (by simp)) harr⟩
   | panic ch=>exact ⟨_,a₁,w₁,hq, .pass (x:= .inLoop c) rfl (λ_ _=> .inl (by simp)) harr⟩
   | outgrown=>exact ⟨_,a₁,w₁,hq, .pass (x:= .inLoop c) rfl (λ_ _=> .inl (by simp)) harr⟩
 obtain ⟨e,a',w',hq,harr⟩:=key n a w h₀
 exact ⟨e,a',w',hq, .of_steps (.one step_loop) harr⟩
def Post(S K:Nat->Prop)(w0 w:World)(gv:List Value)(nt:Nat)(Q:Out->St->Prop)(e:Exit)(a':Act)(w':World):Prop:=
 ∃ o s', Q o s' ∧ e = outE o ∧ ∃ S' Kn' φ', Stp S w S' w' ∧ Rel S' K w0 Kn' φ' gv nt s' a' w'
theorem Post.trans{S':Nat->Prop}{w':World}(h:Stp S w S' w'){Q:Out->St->Prop}{e:Exit}{a':Act}{w'':World}(hp:Post S' K w0 w' gv nt Q e a' w''):Post S K w0 w gv nt Q e a' w'':=by
 obtain ⟨o, s', h0, h1, S'', Kn', φ', h2, h3⟩ := hp
 exact ⟨o, s', h0, h1, S'', Kn', φ', h.trans h2, h3⟩
theorem Post.of_wk {Q : Out → St → Prop} {o : Out} {a' : Act} {w' : World} {S' Kn' : Nat → Prop} {φ' : Nat → Loc} (h : wk (Q o) s') (hs : Stp S w S' w') (hR : Rel S' K w0 Kn' φ' gv nt s' a' w') : Post S K w0 w gv nt Q (outE o) a' w' := by
 obtain ⟨s1,h1,h2⟩:=h
 obtain ⟨S1, Kn1, φ1, h3, h4⟩ := h1 S' K w0 Kn' φ' gv nt a' w' hR
 exact ⟨o,s1,h2,rfl,S1,Kn1,φ1,hs.trans h3,h4⟩
theorem qk8(hnt:nt < 1000000000)(hm:P.follows .mixedOrders=true):∀(code:Code) (s:St) (Q:Out->St->Prop) (S:Nat->Prop) (Kn:Nat->Prop) (φ:Nat->Loc) (a:Act) (w:World),
  W P (comp P sig nt code) s Q->Rel S K w0 Kn φ gv nt s a w->code.wp P (Post S K w0 w gv nt Q) a w:=by
 intro code
 induction code with
 | skip=>
  intro s Q S Kn φ a w h hR
  exact wp_skip (Post.of_wk h (Stp.refl _ _) hR)
 | region id ops draw=>
  intro s Q S Kn φ a w h hR
  simp only [comp]at h
  cases draw with
  | false=>
   simp only [Bool.false_eq_true,if_false,W]at h
   refine wp_region ?_
   refine qpx (gv := gv) (K := K) (w0 := w0) hnt (List.range ops.size) ops.toList s S Kn φ a w ?_ (by simp) h hR fun S' Kn' φ' s' a' w' h0 h1 h2 => Post.of_wk (o := .normal) h0 h1 h2
   intro i j hj
   obtain ⟨hlt,rfl⟩:i < ops.size/\i=j:=by
    have:=List.getElem?_eq_some_iff.1 hj
    obtain ⟨h1,h2⟩:=this
    simp at h1 h2
    exact ⟨h1,h2⟩
   simp
  | true=>
   simp only [if_true]at h
   unfold qat at h
   simp only at h
   split at h
   ·rename_i hc
    simp only [Bool.and_eq_true]at hc
    simp only [W]at h
    obtain ⟨s1,hsub,calls,e1,h1,tr,hok,hev,hdyn,hq⟩:=h
    obtain ⟨S1,Kn1,φ1,hs1,hR1⟩:=hsub S K w0 Kn φ gv nt a w hR
    refine wp_region_any hm ?_
    exact qgg hok hnt rfl hc.1.1 hc.1.2 hev hdyn (by simpa using hc.2) hR1 fun S' Kn' φ' a' w' h1 h2 => Post.of_wk (o := .normal) hq (hs1.trans h1) h2
   ·simp [W]at h
 | seq x y ihx ihy=>
  intro s Q S Kn φ a w h hR
  simp only [comp,W]at h
  refine wp_seq ?_
  refine wp_mono (ihx s _ S Kn φ a w h hR) λe a' w' hp=> ?_
  obtain ⟨o, s', h0, rfl, S', Kn', φ', h1, h2⟩ := hp
  cases o with
  | normal => exact wp_mono (ihy s' Q S' Kn' φ' a' w' h0 h2) fun e a'' w'' hp => hp.trans h1
  | exit id => exact ⟨.exit id, s', h0, rfl, S', Kn', φ', h1, h2⟩
  | ret => exact ⟨.ret, s', h0, rfl, S', Kn', φ', h1, h2⟩
 | cond c x y ihx ihy=>
  intro s Q S Kn φ a w h hR
  simp only [comp,W]at h
  obtain ⟨s1,hsub,t,ht,h1,h2⟩:=h
  obtain ⟨S1,Kn1,φ1,hs1,hR1⟩:=hsub S K w0 Kn φ gv nt a w hR
  have hv:=(q8z hR1.inv.glob hR1.env ht).lit.1
  refine wp_cond hv ?_
  cases t with
  | true=>exact wp_mono (ihx s1 Q S1 Kn1 φ1 a w (h1 rfl) hR1) λ_ _ _ hp=>hp.trans hs1
  | false=>exact wp_mono (ihy s1 Q S1 Kn1 φ1 a w (h2 rfl) hR1) λ_ _ _ hp=>hp.trans hs1
 | block id x ih=>
  intro s Q S Kn φ a w h hR
  simp only [comp,W]at h
  refine wp_block ?_
  refine wp_mono (ih s _ S Kn φ a w h hR) λe a' w' hp=> ?_
  obtain ⟨o,s',h0,rfl,hp⟩:=hp
  cases o with
  | normal=>exact ⟨.normal,s',h0,rfl,hp⟩
  | ret=>exact ⟨.ret,s',h0,rfl,hp⟩
  | exit id'=>
   simp only [outE,Exit.inBlock]
   simp only [OutOf]at h0
   by_cases hid:id'=id
   ·rw [if_pos hid]at h0 ⊢
    exact ⟨.normal,s',h0,rfl,hp⟩
   ·rw [if_neg hid]at h0 ⊢
    exact ⟨.exit id',s',h0,rfl,hp⟩
 | loop x ih=>
  intro s Q S Kn φ a w h hR
  simp only [comp,W]at h
  obtain ⟨I,n,⟨s0,hsub,hI⟩,hstep⟩:=h
  obtain ⟨S0,Kn0,φ0,hs0,hR0⟩:=hsub S K w0 Kn φ gv nt a w hR
  refine qep (J:=λn a' w'=>∃s1 S1 Kn1 φ1,Stp S w S1 w'/\Rel S1 K w0 Kn1 φ1 gv nt s1 a' w'/\I n s1) n ⟨s0,S0,Kn0,φ0,hs0,hR0,hI⟩ λn a1 w1 hJ=> ?_
  obtain ⟨s1,S1,Kn1,φ1,h1,h2,h3⟩:=hJ
  refine wp_mono (ih s1 _ S1 Kn1 φ1 a1 w1 (hstep n s1 h3) h2) λe a' w' hp=> ?_
  obtain ⟨o,s2,h0,rfl,S2,Kn2,φ2,h4,h5⟩:=hp
  cases o with
  | normal=>
   obtain ⟨m,hm,s3,h6,h7⟩:=h0
   obtain ⟨S3,Kn3,φ3,h8,h9⟩:=h6 S2 K w0 Kn2 φ2 gv nt a' w' h5
   exact ⟨m,hm,s3,S3,Kn3,φ3,(h1.trans h4).trans h8,h9,h7⟩
  | exit id=>exact ⟨.exit id,s2,h0,rfl,S2,Kn2,φ2,h1.trans h4,h5⟩
  | ret=>exact ⟨.ret,s2,h0,rfl,S2,Kn2,φ2,h1.trans h4,h5⟩
 | exit id=>
  intro s Q S Kn φ a w h hR
  exact wp_exit (Post.of_wk (o:= .exit id) h (Stp.refl _ _) hR)
 | ret=>
  intro s Q S Kn φ a w h hR
  exact wp_ret (Post.of_wk (o:= .ret) h (Stp.refl _ _) hR)
 | scope x ih=>
  intro s Q S Kn φ a w h hR
  refine wp_scope_straight (wp_mono (ih s Q S Kn φ a w h hR) λe a' w' hp=> ?_)
  obtain ⟨o,s',h0,rfl,h1⟩:=hp
  cases o <;> exact ⟨_,s',h0,rfl,h1⟩
 | label l=>
  intro s Q S Kn φ a w h hR
  exact wp_label (Post.of_wk (o:= .normal) h (Stp.refl _ _) hR)
 | _=>
  intro s Q S Kn φ a w h hR
  simp [comp,W]at h
end
end Go.Ev

namespace Go.Ev
def rvOf(P:Program):ResultVar->Option RV
 | .tmp t=>some (.tmp t)
 | .cell a t=>match aggOf P t,szOf P t with | some g,some n=>some (.cell a g n) | _,_=>none
def rvsOf(P:Program):List ResultVar->Option (List RV)
 | []=>some []
 | r :: rs=>match rvOf P r,rvsOf P rs with | some x,some xs=>some (x :: xs) | _,_=>none
def qf5(P:Program)(sig:Sig)(f np:Nat):Option Fn:=
 match P.funcs[f]? with
 | none=>none
 | some g=>
  match g.body with
  | none=>none
  | some code=>
   if (g.name == "runtime.NumGoroutine") = false ∧ np ≤ g.ntmps ∧ g.ntmps < 1000000000 then
    match rvsOf P g.results.toList with
    | some rvs=>some ⟨np,g.ntmps,rvs,comp P sig g.ntmps code⟩
    | none=>none
   else none
section
variable {P:Program}{S K:Nat->Prop}{w0 w:World}{gv:List Value}{nt:Nat}{a:Act}{call:Call}{sig:Sig}{s s':St}
theorem qhp:∀(as:List A) {Kn:Nat->Prop} {φ:Nat->Loc} {hf:Nat->Option Ob} (vs:List Value) (fp:List Nat) (i n:Nat),Inv S K w0 Kn φ hf w->(∀ j,n<=j->¬Kn j)->RAs S w as vs fp->fp.Nodup->
  (∀ b∈fp,¬S b/\¬K b)->Away w φ hf fp->
  ∃ φ', Laid S K w0 w Kn φ hf fp n (enter as i n).2.2.1 (enter as i n).2.1 φ' ∧
   (∀ t x, fnd (enter as i n).1 t = some x → i ≤ t ∧ ∃ v, vs[t - i]? = some v ∧ RTV S w (KnU Kn n (enter as i n).2.2.1) φ' x v) ∧
   (∀ (k : Nat) (c : C) (v : Value), (enter as i n).2.2.2[k]? = some c → (lentV as vs)[k]? = some v → RC S w (KnU Kn n (enter as i n).2.2.1) φ' c v) ∧
   (enter as i n).2.2.2.length=(lentV as vs).length/\as.length=vs.length:=by
 intro as
 induction as with
 | nil=>
  intro Kn φ hf vs fp i n hI hfr h hn hSK ha
  cases vs with
  | cons v vs=>exact h.elim
  | nil=>
   obtain rfl:fp= []:=h
   exact ⟨φ,Laid.nil hI _ _,λt x hx=>by simp [enter,fnd]at hx,λk c v hk=>by simp [enter]at hk,rfl,rfl⟩
 | cons x as ih=>
  intro Kn φ hf vs fp i n hI hfr h hn hSK ha
  cases vs with
  | nil=>exact h.elim
  | cons v vs=>
   obtain ⟨f1,f2,rfl,h1,h2⟩:=h
   have next : ∀ {e : Env} {i' : Nat} {t : Nat} {x : TV} {φ' : Nat → Loc} {Kn' : Nat → Prop}, i + 1 ≤ t ∧ (∃ v, vs[t - (i + 1)]? = some v ∧ RTV S w Kn' φ' x v) → i ≤ t ∧ ∃ v', (v :: vs)[t - i]? = some v' ∧ RTV S w Kn' φ' x v' := by
    intro e i' t x φ' Kn' ⟨q1, v', q2, q3⟩
    refine ⟨by omega,v', ?_,q3⟩
    rw [show t - i=(t - (i+1))+1 by omega]
    simpa using q2
   cases x with
   | d y=>
    obtain ⟨h1,rfl⟩:=h1
    obtain ⟨φ', q1, q2, q3, q4, q5⟩ := ih (Kn := Kn) (φ := φ) (hf := hf) vs f2 (i + 1) n hI hfr h2 (by simpa using hn) (by simpa using hSK) (by simpa using ha)
    refine ⟨φ', q1, fun t x hx => ?_, q3, q4, by simp [q5]⟩
    simp only [enter,fnd]at hx
    by_cases e:i=t
    ·subst e
     simp at hx
     subst hx
     exact ⟨Nat.le_refl _,v,by simp, .c (.d h1)⟩
    ·have e':(i == t)=false:=by simpa using e
     rw [e',cond_false]at hx
     exact next (e:= []) (i':=0) (q2 t x hx)
   | agg xs=>
    obtain ⟨arr,rfl,hlen,h1,rfl⟩:=h1
    obtain ⟨φ', q1, q2, q3, q4, q5⟩ := ih (Kn := Kn) (φ := φ) (hf := hf) vs f2 (i + 1) n hI hfr h2 (by simpa using hn) (by simpa using hSK) (by simpa using ha)
    refine ⟨φ', q1, fun t x hx => ?_, q3, q4, by simp [q5]⟩
    simp only [enter,fnd]at hx
    by_cases e:i=t
    ·subst e
     simp at hx
     subst hx
     refine ⟨Nat.le_refl _,_,by simp; rfl, .agg (by simpa using hlen) λj x hj=> ?_⟩
     rw [List.getElem?_map]at hj
     obtain ⟨d,hd,rfl⟩:=Option.map_eq_some_iff.1 hj
     exact .d (h1 j d hd)
    ·have e':(i == t)=false:=by simpa using e
     rw [e',cond_false]at hx
     exact next (e:= []) (i':=0) (q2 t x hx)
   | mt t0=>
    rw [List.nodup_append]at hn
    obtain ⟨hn1,hn2,hn3⟩:=hn
    simp only [List.mem_append]at hSK
    obtain ⟨φ1,hL1,hr1⟩:=qbv t0 n v f1 hI (λj hj _=>hfr j hj) h1 hn1 (λb hb=>hSK b (.inl hb)) (λj o hj hown x hx hm=>ha j o hj hown x hx (by simp [hm]))
    obtain ⟨φ2,hL2,q2,q3,q4,q5⟩:=ih (Kn:=KnU Kn n (unC n t0).2.2) (φ:=φ1) (hf:=updF (unC n t0).2.1 hf) vs f2 (i+1) (unC n t0).2.2 hL1.inv (λj hj hk=>by
     rcases hk with hk | hk
     ·have:=hL1.le; exact hfr j (by omega) hk
     ·omega) h2 hn2 (λb hb=>hSK b (.inr hb)) (hL1.away hI (λj o hj hown x hx hm=>ha j o hj hown x hx (by simp [hm])) λx hx hx2=>hn3 x hx x hx2 rfl)
    have hcomp:=hL1.comp hL2
    have hcm:updF ((enter as (i+1) (unC n t0).2.2).2.1++(unC n t0).2.1) hf=updF ((unC n t0).2.1++(enter as (i+1) (unC n t0).2.2).2.1) hf:=
     q3z λp hp q hq e=>by
      have h1:=hL2.fresh p hp
      have h2:=hL1.fresh q hq
      omega
    have hsub:∀j,KnU (KnU Kn n (unC n t0).2.2) (unC n t0).2.2 (enter as (i+1) (unC n t0).2.2).2.2.1 j->KnU Kn n (enter as (i+1) (unC n t0).2.2).2.2.1 j:=λj=>(q8b hL1.le hL2.le j).1
    refine ⟨φ2, ?_,λt x hx=> ?_,λk c v' hk hv=> ?_,by simp [enter,lentV,q4],by simp [q5]⟩
    ·simp only [enter]
     have hsw:∀ {p:Nat×Option Ob} {a b:Upd},p∈a++b->p∈b++a:=λhp=>List.mem_append.2 (List.mem_append.1 hp).symm
     exact ⟨hcomp.le,hcomp.ren,hcm▸hcomp.inv,λp hp=>hcomp.fresh p (hsw hp),λp hp x hx=>hcomp.blk p (hsw hp) x (hcm.symm▸hx)⟩
    ·simp only [enter,fnd]at hx ⊢
     by_cases e:i=t
     ·subst e
      simp at hx
      subst hx
      exact ⟨Nat.le_refl _,v,by simp, .c ((hr1.mono (Stp.refl _ _) hL2.ren).kn hsub)⟩
     ·have e':(i == t)=false:=by simpa using e
      rw [e',cond_false]at hx
      obtain ⟨p1,v',p2,p3⟩:=q2 t x hx
      exact next (e:= []) (i':=0) ⟨p1,v',p2,p3.mono (Stp.refl _ _) ⟨hsub,λ_ _=>rfl⟩⟩
    ·simp only [enter]at hk ⊢
     simp only [lentV]at hv
     cases k with
     | zero=>
      obtain rfl:(unC n t0).1=c:=by simpa using hk
      obtain rfl:v=v':=by simpa using hv
      exact (hr1.mono (Stp.refl _ _) hL2.ren).kn hsub
     | succ k=>exact (q3 k c v' (by simpa using hk) (by simpa using hv)).kn hsub
theorem qha{Kn:Nat->Prop}{φ:Nat->Loc}{H:Heap}(hI:Inv S K w0 Kn φ (look H) w){v:TV}{r:R}{own:List Nat}{x:Value}(h:packR H v=some (r,own))(hv:RTV S w Kn φ v x):
  RR S w r x (own.flatMap (blks w φ (look H)))/\∀i∈own,∃o,look H i=some o/\isOwn o=true:=by
 cases hv with
 | c hv=>
  simp only [packR]at h
  split at h
  ·rename_i t ids rd hp
   obtain ⟨rfl,rfl⟩:R.c t=r/\ids=own:=by simpa using h
   exact (q7p hI 300).1 _ _ _ _ _ hp hv
  ·simp at h
 | @agg cs arr hlen hv=>
  simp only [packR]at h
  split at h
  ·rename_i ts ids rd hp
   obtain ⟨rfl,rfl⟩:R.agg ts=r/\ids=own:=by simpa using h
   obtain ⟨h1,⟨fps,h2,h3,h4⟩,h5⟩:=(q7p hI 300).2 _ _ _ _ hp (λi=>arr.getD i undef) hv
   exact ⟨⟨arr,fps,rfl,h1.trans hlen,h2,h3,h4⟩,h5⟩
  ·simp at h
 | tup hlen hv=>simp [packR]at h
theorem qfg{Kn:Nat->Prop}{φ:Nat->Loc}{H:Heap}(hI:Inv S K w0 Kn φ (look H) w):∀(tvs:List TV) (vs:List Value) (rs:List R) (own:List Nat),qbi H tvs=some (rs,own)->tvs.length=vs.length->
  (∀ (i:Nat) (t:TV) (v:Value),tvs[i]? =some t->vs[i]? =some v->RTV S w Kn φ t v)->RRs S w rs vs (own.flatMap (blks w φ (look H)))/\∀i∈own,∃o,look H i=some o/\isOwn o=true:=by
 intro tvs
 induction tvs with
 | nil=>
  intro vs rs own h hl hr
  obtain ⟨rfl,rfl⟩: []=rs/\ []=own:=by simpa [qbi]using h
  obtain rfl:vs= []:=List.length_eq_zero_iff.1 hl.symm
  exact ⟨rfl,λi hi=>by simp at hi⟩
 | cons t tvs ih=>
  intro vs rs own h hl hr
  cases vs with
  | nil=>simp at hl
  | cons v vs=>
   simp only [qbi]at h
   split at h
   ·rename_i r o1 rs1 o2 hp hps
    obtain ⟨rfl,rfl⟩:r :: rs1=rs/\o1++o2=own:=by simpa using h
    obtain ⟨a1,a2⟩:=qha hI hp (hr 0 t v rfl rfl)
    obtain ⟨b1,b2⟩:=ih vs rs1 o2 hps (by simpa using hl) (λi t v hi hv=>hr (i+1) t v (by simpa using hi) (by simpa using hv))
    refine ⟨⟨_,_,by simp,a1,b1⟩,λi hi=> ?_⟩
    rcases List.mem_append.1 hi with hi | hi
    ·exact a2 i hi
    ·exact b2 i hi
   ·simp at h
inductive PackG (h:Heap):List C->List T->List Nat->Prop
 | nil:PackG h [] [] []
 | cons {c:C} {cs:List C} {t:T} {ts:List T} {a i b:List Nat} (h1:packC h 300 c=some (t,a,i)) (h2:PackG h cs ts b):PackG h (c :: cs) (t :: ts) (a++b)
 | gone {c:C} {cs:List C} {ts:List T} {b:List Nat} (h2:PackG h cs ts b):PackG h (c :: cs) (.gone :: ts) b
theorem qi0{Kn:Nat->Prop}{φ:Nat->Loc}{H:Heap}(hI:Inv S K w0 Kn φ (look H) w){cs:List C}{ts:List T}{own:List Nat}(h:PackG H cs ts own):∀(vs:List Value),cs.length=vs.length->
  (∀ (i:Nat) (c:C) (v:Value),cs[i]? =some c->vs[i]? =some v->RG S w Kn φ c v)->RTs S w ts vs (own.flatMap (blks w φ (look H)))/\∀i∈own,∃o,look H i=some o/\isOwn o=true:=by
 induction h with
 | nil=>
  intro vs hl hr
  obtain rfl:vs= []:=List.length_eq_zero_iff.1 hl.symm
  exact ⟨rfl,λi hi=>by simp at hi⟩
 | @cons c cs t ts a rd b hp _ ih=>
  intro vs hl hr
  cases vs with
  | nil=>simp at hl
  | cons v vs=>
   have hrc:RC S w Kn φ c v:=(hr 0 c v rfl rfl).resolve_left λe=>by
    subst e
    simp [goneC,packC]at hp
   obtain ⟨a1,a2⟩:=(q7p hI 300).1 _ _ _ _ _ hp hrc
   obtain ⟨b1,b2⟩:=ih vs (by simpa using hl) (λi t v hi hv=>hr (i+1) t v (by simpa using hi) (by simpa using hv))
   refine ⟨⟨_,_,by simp, .inr a1,b1⟩,λi hi=> ?_⟩
   rcases List.mem_append.1 hi with hi | hi
   ·exact a2 i hi
   ·exact b2 i hi
 | @gone c cs ts b _ ih=>
  intro vs hl hr
  cases vs with
  | nil=>simp at hl
  | cons v vs=>
   obtain ⟨b1,b2⟩:=ih vs (by simpa using hl) (λi t v hi hv=>hr (i+1) t v (by simpa using hi) (by simpa using hv))
   exact ⟨⟨[],_,rfl, .inl ⟨rfl,rfl⟩,b1⟩,b2⟩
def qck(rvs:List RV)(s:St)(rs:List R)(outs:List T):Prop:=
 ∃vs a b,q0t (rvs.map (resTV s))=some vs/\qbi s.heap vs=some (rs,a)/\PackG s.heap s.gh outs b/\(a++b).Nodup
def q80(tmps:Array Value):ResultVar->Sem Value
 | .tmp t=>pure (tmps.getD t undef)
 | .cell a t=>do loadVar t (<- asAddr (tmps.getD a undef))
theorem qgk{t:TypeId}{pv val:Value}(h:(Instr.loadAt t pv).run P w= .ok val w):(do loadVar t (<- asAddr pv):Sem Value).run P w= .ok val w:=by
 cases pv with
 | pointer x=>
  cases x with
  | some a=>simpa [Instr.loadAt,Instr.sureAddr,asAddr]using h
  | none=>simp [Instr.loadAt,Instr.sureAddr]at h
 | _=>simp [Instr.loadAt,Instr.sureAddr]at h
theorem qfh{Kn:Nat->Prop}{φ:Nat->Loc}(hI:Inv S K w0 Kn φ (look s.heap) w)(hE:Env.ok S w Kn φ s.env a.tmps){r:ResultVar}{x:RV}{v:TV}(hr:rvOf P r=some x)(h:resTV s x=some v):
  ∃val,(q80 a.tmps r).run P w= .ok val w/\RTV S w Kn φ v val:=by
 cases r with
 | tmp t=>
  obtain rfl:RV.tmp t=x:=by simpa [rvOf]using hr
  exact ⟨_,by simp [q80],hE t v h⟩
 | cell t ty=>
  simp only [rvOf]at hr
  split at hr
  ·rename_i g n hg hn
   obtain rfl:=Option.some.inj hr
   simp only [resTV]at h
   split at h
   ·rename_i p hp
    split at h
    ·rename_i v' ids hl
     obtain rfl:=Option.some.inj h
     cases hE t _ hp with
     | c hc=>
      obtain ⟨val,h1,h2⟩:=qc5 hg hn hI hc hl
      exact ⟨val,qgk h1,h2⟩
    ·simp at h
   ·simp at h
  ·simp at hr
theorem qdz{Kn:Nat->Prop}{φ:Nat->Loc}(hI:Inv S K w0 Kn φ (look s.heap) w)(hE:Env.ok S w Kn φ s.env a.tmps):∀(rs:List ResultVar) (xs:List RV) (tvs:List TV),rvsOf P rs=some xs->q0t (xs.map (resTV s))=some tvs->
  ∃vs,(rs.mapM (q80 a.tmps)).run P w= .ok vs w/\tvs.length=vs.length/\∀(i:Nat) (t:TV) (v:Value),tvs[i]? =some t->vs[i]? =some v->RTV S w Kn φ t v:=by
 intro rs
 induction rs with
 | nil=>
  intro xs tvs h1 h2
  obtain rfl: []=xs:=by simpa [rvsOf]using h1
  obtain rfl: []=tvs:=by simpa [q0t]using h2
  exact ⟨[],by simp,rfl,λi t v hi=>by simp at hi⟩
 | cons r rs ih=>
  intro xs tvs h1 h2
  simp only [rvsOf]at h1
  split at h1
  ·rename_i x xs1 hx hxs
   obtain rfl:=Option.some.inj h1
   simp only [List.map_cons]at h2
   cases hv:resTV s x with
   | none=>rw [hv]at h2; simp [q0t]at h2
   | some v=>
    rw [hv]at h2
    simp only [q0t]at h2
    split at h2
    ·rename_i tvs1 htv
     obtain rfl:=Option.some.inj h2
     obtain ⟨val,q1,q2⟩:=qfh hI hE hx hv
     obtain ⟨vs,q3,q4,q5⟩:=ih xs1 tvs1 hxs htv
     refine ⟨val :: vs,by simp [List.mapM_cons,q1,q3],by simp [q4],λi t v' hi hv'=> ?_⟩
     cases i with
     | zero=>
      obtain rfl:v=t:=by simpa using hi
      obtain rfl:val=v':=by simpa using hv'
      exact q2
     | succ i=>exact q5 i t v' (by simpa using hi) (by simpa using hv')
    ·simp at h2
  ·simp at h1
theorem qhk{g:Func}{tmps:Array Value}{vs:List Value}(h:(g.results.toList.mapM (q80 tmps)).run P w= .ok vs w):(results g tmps).run P w= .ok (qeu vs) w:=by
 have e:results g tmps=(do let vs <- g.results.mapM (q80 tmps); pure (if h:vs.size=1 then vs[0]else .tuple vs)):=rfl
 have e2:g.results.mapM (q80 tmps)=(do let vs <- g.results.toList.mapM (q80 tmps); pure vs.toArray):=by
  rw [Array.mapM_eq_mapM_toList,bind_pure_comp]
 rw [e,e2]
 simp only [Sem.run_bind,h,Result.andThen_ok,Sem.run_pure]
 match vs with
 | []=>rfl
 | [v]=>rfl
 | v :: v' :: r=>simp [qeu]
def rowD(sz:Nat):Option (List (List D))->D
 | none=> .lit (.slice none 0 0)
 | some rows=> .sl sz rows
mutual
def frzT:T->D
 | .d x=>x
 | .gone=> .lit .nilFunc
 | .sl sz rows=> .sl sz rows
 | .sls sz rows=> .sl 1 (rows.map λr=> [rowD sz r])
 | .pt ts=> .pt (frzL ts)
def frzL:List T->List D
 | []=> []
 | t :: ts=>frzT t :: frzL ts
end
theorem qqr:∀ts:List T,frzL ts=ts.map frzT:=by
 intro ts
 induction ts with
 | nil=>rfl
 | cons t ts ih=>simp [frzL,ih]
theorem RT.frz{S S':Nat->Prop}{w:World}{t:T}{v:Value}{fp:List Nat}(h:RT S w t v fp)(hS:∀b,S b->S' b)(hb:∀b∈fp,S' b):RD S' w (frzT t) v:=by
 have hst:Stp S w S' w:=⟨hS,λ_ _=>rfl⟩
 induction h with
 | d h=>exact h.mono hst
 | @sl sz rows b off len cap arr hsz ho hlen hcap hext hr=>
  subst hlen
  refine .sl (λi j=>arr.getD (off+i * sz+j) undef) (hb b (by simp)) hsz hcap hr.1 (λi r hi j x hj=> ?_) (λi r hi j x hj=> ?_)
  ·obtain ⟨v,h1,h2⟩:=hr.2 i r hi j x hj
   simp only at h1
   rw [ho.cell,h1,Array.getD_eq_getD_getElem?,h1]; rfl
  ·obtain ⟨v,h1,h2⟩:=hr.2 i r hi j x hj
   simp only at h1
   rw [Array.getD_eq_getD_getElem?,h1]; exact h2.mono hst
 | @sls sz rows b off cap arr fps hsz ho hcap hext hfl h=>
  have key:=RD.sl_of (S:=S') (w:=w) (sz:=1) (rows:=rows.map λr=> [rowD sz r]) (b:=b) (off:=off) (len:=rows.length) (cap:=cap) (hb b (by simp)) Nat.one_pos (by simp) hcap ⟨λi r hi=> ?_,λi r hi j x hj=> ?_⟩
  ·exact key
  ·rw [List.getElem?_map]at hi
   obtain ⟨r',_,rfl⟩:=Option.map_eq_some_iff.1 hi
   rfl
  ·rw [List.getElem?_map]at hi
   obtain ⟨r',hr',rfl⟩:=Option.map_eq_some_iff.1 hi
   have hl:=(List.getElem?_eq_some_iff.1 hr').1
   cases j with
   | succ j=>simp at hj
   | zero=>
    obtain rfl:rowD sz r'=x:=by simpa using hj
    obtain ⟨v,h1,h2⟩:=h i r' fps[i] hr' (List.getElem?_eq_getElem (by omega))
    refine ⟨v,by rw [Nat.mul_one,Nat.add_zero]; exact (ho.cell _).trans h1, ?_⟩
    cases r' with
    | none=>obtain ⟨rfl,_⟩:=h2; exact .lit rfl
    | some rows'=>
     obtain ⟨b',q1,q2⟩:=h2
     exact q2.rd hst (hb b' (List.mem_cons_of_mem _ (List.mem_flatten.2 ⟨fps[i],List.getElem_mem _,by rw [q1]; simp⟩)))
 | @pt ts b arr fps ho hlen hfl h ih=>
  simp only [frzT,qqr]
  have hlt:∀(j:Nat) (x:D),(ts.map frzT)[j]? =some x->∃t f,ts[j]? =some t/\fps[j]? =some f/\x=frzT t:=by
   intro j x hj
   rw [List.getElem?_map]at hj
   obtain ⟨t,ht,rfl⟩:=Option.map_eq_some_iff.1 hj
   have hl:=(List.getElem?_eq_some_iff.1 ht).1
   exact ⟨t,_,ht,List.getElem?_eq_getElem (by omega),rfl⟩
  have key:=RD.pt (S:=S') (w:=w) (cells:=ts.map frzT) (b:=b) (off:=0) (λj=>arr.getD j undef) (hb b (by simp)) (λj x hj=> ?_) (λj x hj=> ?_)
  ·exact key
  ·obtain ⟨t,f,h1,h2,rfl⟩:=hlt j x hj
   have hl:=(List.getElem?_eq_some_iff.1 h1).1
   rw [Nat.zero_add,ho.cell,Array.getD_eq_getD_getElem?,Array.getElem?_eq_getElem (by omega)]; rfl
  ·obtain ⟨t,f,h1,h2,rfl⟩:=hlt j x hj
   exact ih j t f h1 h2 λb hbm=>hb b (List.mem_cons_of_mem _ (List.mem_flatten.2 ⟨f,List.mem_of_getElem? h2,hbm⟩))
def frzR:R->R
 | .c t=> .c (.d (frzT t))
 | .agg ts=> .agg (ts.map λt=> .d (frzT t))
def frzRs:List Bool->List R->List R
 | b :: bs,r :: rs=>(if b then frzR r else r) :: frzRs bs rs
 | _,rs=>rs
theorem RR.mono'{S S':Nat->Prop}{w:World}(hS:∀b,S b->S' b){r:R}{v:Value}{fp:List Nat}(h:RR S w r v fp):RR S' w r v fp:=by
 have hst:Stp S w S' w:=⟨hS,λ_ _=>rfl⟩
 cases r with
 | c t=>exact RT.mono hst h λ_ _=>rfl
 | agg ts=>
  obtain ⟨arr,fps,h1,h2,h3,h4,h5⟩:=h
  exact ⟨arr,fps,h1,h2,h3,h4,λi t f hi hf=>(h5 i t f hi hf).mono hst λ_ _=>rfl⟩
theorem RR.frz{S S':Nat->Prop}{w:World}(hS:∀b,S b->S' b){r:R}{v:Value}{fp:List Nat}(h:RR S w r v fp)(hb:∀b∈fp,S' b):RR S' w (frzR r) v []:=by
 cases r with
 | c t=>exact .d (RT.frz h hS hb)
 | agg ts=>
  obtain ⟨arr,fps,h1,h2,h3,h4,h5⟩:=h
  refine ⟨arr,ts.map λ_=> [],h1,by simp [h2],by simp, ?_,λi t f hi hf=> ?_⟩
  ·clear h5 h3 h2
   induction ts with
   | nil=>rfl
   | cons t ts ih=>simp
  ·simp only [List.getElem?_map,Option.map_eq_some_iff]at hi hf
   obtain ⟨t0,ht0,rfl⟩:=hi
   obtain ⟨_,_,rfl⟩:=hf
   have hl:=(List.getElem?_eq_some_iff.1 ht0).1
   have hf:fps[i]? =some _:=List.getElem?_eq_getElem (by omega)
   refine .d ((h5 i t0 _ ht0 hf).frz hS λb hbm=>hb b ?_)
   rw [<- h4]
   exact List.mem_flatten.2 ⟨_,List.mem_of_getElem? hf,hbm⟩
theorem RRs.mono'{S S':Nat->Prop}{w:World}(hS:∀b,S b->S' b):∀ {rs:List R} {vs:List Value} {fp:List Nat},RRs S w rs vs fp->RRs S' w rs vs fp:=by
 intro rs
 induction rs with
 | nil=>intro vs fp h; cases vs <;> exact h
 | cons r rs ih=>
  intro vs fp h
  cases vs with
  | nil=>exact h
  | cons v vs=>
   obtain ⟨f1,f2,h1,h2,h3⟩:=h
   exact ⟨f1,f2,h1,h2.mono' hS,ih h3⟩
theorem RRs.frz{S:Nat->Prop}{w:World}:∀(m:List Bool) (rs:List R) (vs:List Value) (fp:List Nat),RRs S w rs vs fp->fp.Nodup->
  ∃fpK,fpK.Sublist fp/\∀S':Nat->Prop,(∀ b,S b->S' b)->(∀ b∈fp,b∉fpK->S' b)->RRs S' w (frzRs m rs) vs fpK:=by
 intro m
 induction m with
 | nil=>intro rs vs fp h hn; exact ⟨fp,List.Sublist.refl _,λS' hS _=>by cases rs <;> exact h.mono' hS⟩
 | cons b m ih=>
  intro rs vs fp h hn
  cases rs with
  | nil=>exact ⟨fp,List.Sublist.refl _,λS' hS _=>h.mono' hS⟩
  | cons r rs=>
   cases vs with
   | nil=>exact h.elim
   | cons v vs=>
    obtain ⟨f1,f2,rfl,h2,h3⟩:=h
    obtain ⟨n1,n2,n3⟩:=List.nodup_append.1 hn
    obtain ⟨fpK,hsub,hk⟩:=ih rs vs f2 h3 n2
    cases b with
    | true=>
     refine ⟨fpK,hsub.trans (List.sublist_append_right _ _),λS' hS hb=>⟨[],fpK,rfl,h2.frz hS λb hbm=>hb b (List.mem_append_left _ hbm) λhb2=>n3 b hbm b (hsub.subset hb2) rfl,hk S' hS λb hbm hb2=>hb b (List.mem_append_right _ hbm) hb2⟩⟩
    | false=>
     refine ⟨f1++fpK,List.Sublist.append (List.Sublist.refl _) hsub,λS' hS hb=>⟨f1,fpK,rfl,h2.mono' hS,hk S' hS λb hbm hb2=>hb b (List.mem_append_right _ hbm) λhb3=> ?_⟩⟩
     rcases List.mem_append.1 hb3 with h | h
     ·exact n3 b h b hbm rfl
     ·exact hb2 h
theorem RRs.lt{S:Nat->Prop}{w:World}:∀ {rs:List R} {vs:List Value} {fp:List Nat},RRs S w rs vs fp->∀b∈fp,b < w.heap.size:=by
 intro rs
 induction rs with
 | nil=>
  intro vs fp h b hb
  cases vs with
  | nil=>have h':fp= []:=h; subst h'; simp at hb
  | cons _ _=>exact h.elim
 | cons r rs ih=>
  intro vs fp h b hb
  cases vs with
  | nil=>exact h.elim
  | cons v vs=>
   obtain ⟨f1,f2,rfl,h2,h3⟩:=h
   rcases List.mem_append.1 hb with hb | hb
   ·cases r with
    | c t=>exact RT.lt h2 b hb
    | agg ts=>
     obtain ⟨arr,fps,_,q2,q3,rfl,q5⟩:=h2
     obtain ⟨fp,hfp,hbf⟩:=List.mem_flatten.1 hb
     obtain ⟨i,hi,rfl⟩:=List.getElem_of_mem hfp
     exact (q5 i _ _ (List.getElem?_eq_getElem (by omega:i < ts.length)) (List.getElem?_eq_getElem hi)).lt b hbf
   ·exact ih h3 b hb
theorem RTs.mono'{S S':Nat->Prop}{w:World}(hS:∀b,S b->S' b):∀ {ts:List T} {vs:List Value} {fp:List Nat},RTs S w ts vs fp->RTs S' w ts vs fp:=by
 intro ts
 induction ts with
 | nil=>intro vs fp h; cases vs <;> exact h
 | cons r rs ih=>
  intro vs fp h
  cases vs with
  | nil=>exact h
  | cons v vs=>
   obtain ⟨f1,f2,h1,h2,h3⟩:=h
   exact ⟨f1,f2,h1,h2.imp id λh2=>RT.mono ⟨hS,λ_ _=>rfl⟩ h2 λ_ _=>rfl,ih h3⟩
theorem Left.frz{S:Nat->Prop}{w w':World}{fp:List Nat}{rs:List R}{outs:List T}{lent:List Value}{v:Value}(m:List Bool)(h:Left S w fp rs outs lent v w'):Left S w fp (frzRs m rs) outs lent v w':=by
 obtain ⟨S',rvs,fp1,fp2,h1,h2,h3,h4,h5,h6,h7,h8,h9⟩:=h
 obtain ⟨n1,n2,n3⟩:=List.nodup_append.1 h7
 obtain ⟨fpK,hsub,hk⟩:=RRs.frz m rs rvs fp1 h5 n1
 refine ⟨λb=>S' b\/(b∈fp1/\b∉fpK),rvs,fpK,fp2,h1,⟨λb hb=> .inl (h2.sub b hb),h2.same⟩,λb hb=> ?_,λb hb=> ?_,hk _ (λb hb=> .inl hb) (λb hb hb2=> .inr ⟨hb,hb2⟩),
  RTs.mono' (λb hb=> .inl hb) h6, ?_,λb hb=> ?_,h9⟩
 ·rcases hb with hb | hb
  ·exact h3 b hb
  ·exact .inr (h8 b (List.mem_append_left _ hb.1)).2
 ·rcases hb with hb | hb
  ·exact h4 b hb
  ·exact RRs.lt h5 b hb.1
 ·exact (List.Sublist.append hsub (List.Sublist.refl fp2)).nodup h7
 ·rcases List.mem_append.1 hb with hb | hb
  ·exact ⟨λh=>h.elim (h8 b (List.mem_append_left _ (hsub.subset hb))).1 λh=>h.2 hb,(h8 b (List.mem_append_left _ (hsub.subset hb))).2⟩
  ·exact ⟨λh=>h.elim (h8 b (List.mem_append_right _ hb)).1 λh=>n3 b h.1 b hb rfl,(h8 b (List.mem_append_right _ hb)).2⟩
def qs5(rvs:List RV)(m:List Bool)(len:Nat)(rs:List R)(outs:List T):Out->St->Prop
 | .exit _,_=>False
 | .normal,s=>wk (λs=>s.gh.length=len/\∃rs0,qck rvs s rs0 outs/\frzRs m rs0=rs) s
 | .ret,s=>wk (λs=>s.gh.length=len/\∃rs0,qck rvs s rs0 outs/\frzRs m rs0=rs) s
def q65(as:List A):St:=⟨(enter as 0 0).1,(enter as 0 0).2.1,(enter as 0 0).2.2.1,(enter as 0 0).2.2.2⟩
def FnW(P:Program)(F:Fn)(m:List Bool)(as:List A)(rs:List R)(outs:List T):Prop:=
 as.length=F.np/\W P F.body (q65 as) (qs5 F.rvs m (q65 as).gh.length rs outs)
def Ent(s:St)(Q:St->Prop):Prop:=
 ∀(S K:Nat->Prop) (w0:World) (Kn:Nat->Prop) (φ:Nat->Loc) (gv:List Value) (nt:Nat) (a:Act) (w:World),Rel S K w0 Kn φ gv nt s a w->∃s1,Q s1/\Rel S K w0 Kn φ gv nt s1 a w
theorem qro(hm:P.follows .mixedOrders=true){f np:Nat}{F:Fn}(hF:qf5 P sig f np=some F){as:List A}{rs:List R}{outs:List T}
  {m:List Bool} (h:as.length=F.np/\Ent (q65 as) λs=>W P F.body s (qs5 F.rvs m (q65 as).gh.length rs outs)):Good P f as rs outs:=by
 unfold qf5 at hF
 split at hF
 ·simp at hF
 rename_i g hg
 split at hF
 ·simp at hF
 rename_i code hb
 split at hF
 case isFalse=>simp at hF
 rename_i hc
 obtain ⟨hname,hnp,hnt⟩:=hc
 split at hF
 case h_2=>simp at hF
 rename_i rvs hrv
 obtain rfl:=Option.some.inj hF
 obtain ⟨hlen,h⟩:=h
 simp only at hlen h
 intro S w vs fp hlt hargs hnd hfp hglob
 left
 refine ⟨f,vs.toArray, ?_, ?_⟩
 ·simp [callFunc,run_program,hg,hb]
  intro e
  rw [e]at hname
  simp at hname
 refine calls_of_wp hg hb ?_
 have hI0:Inv S (λb=>b < w.heap.size/\b∉fp/\¬S b) w (λ_=>False) (λ_=>default) (look []) w:=by
  refine ⟨hlt,λb hb h=>h.2.2 hb,⟨λb hb=>hb.1,λ_ _=>rfl,Nat.le_refl _,λ_ _=>rfl,λb arr ho=>⟨arr,ho,rfl⟩,Io.refl _⟩,λid o ho=>by simp [look,fnd]at ho,λi j a b ha=>by simp [look,fnd]at ha,hglob,λi sz sl k x hi=>by simp [look,fnd]at hi⟩
 obtain ⟨φ,hL,q1,q2,q3,q4⟩:=qhp as (S:=S) (K:=λb=>b < w.heap.size/\b∉fp/\¬S b) (w0:=w) (w:=w) (Kn:=λ_=>False) (φ:=λ_=>default) (hf:=look []) vs fp 0 0 hI0 (λ_ _ h=>h) hargs hnd
  (λb hb=>⟨hfp b hb,λh=>h.2.1 hb⟩) (λj o ho=>by simp [look,fnd]at ho)
 unfold q65 at h
 generalize hen:enter as 0 0=en at h hL q1 q2 q3
 obtain ⟨e,hp,n,lent⟩:=en
 simp only at h hL q1 q2 q3
 have hRel:Rel S (λb=>b < w.heap.size/\b∉fp/\¬S b) w (KnU (λ_=>False) 0 n) φ (lentV as vs) g.ntmps ⟨e,hp,n,lent⟩
   {tmps:=vs.toArray++Array.replicate (g.ntmps - vs.toArray.size) undef,defers:= [] } w:=by
  refine ⟨?_,λt x hx=> ?_, ?_,rfl,λj hj hk=> ?_,λi c v h1 h2=> .inr (q2 i c v h1 h2)⟩
  ·have:look hp=updF hp (look []):=by rw [<- q18,List.append_nil]
   rw [this]; exact hL.inv
  ·obtain ⟨_,v,hv,hr⟩:=q1 t x hx
   have hv':vs[t]? =some v:=by simpa using hv
   have:(vs.toArray++Array.replicate (g.ntmps - vs.toArray.size) undef).getD t undef=v:=by
    have ht:t < vs.length:=(List.getElem?_eq_some_iff.1 hv').1
    rw [Array.getD_eq_getD_getElem?,Array.getElem?_append_left (by simpa using ht)]
    simp [hv']
   simp only [this]; exact hr
  ·simp; omega
  ·rcases hk with hk | hk
   ·exact hk
   ·have:n<=j:=hj
    omega
 obtain ⟨s1,h,hRel⟩:=h _ _ _ _ _ _ _ _ _ hRel
 refine wp_mono (qk8 hnt hm code s1 _ S _ φ _ w h hRel) λex a' w' hp=> ?_
 obtain ⟨o, s', hl, rfl, S', Kn', φ', hs, hR⟩ := hp
 have main : ∀ (s' : St) (rs : List R) (S' Kn' : Nat → Prop) (φ' : Nat → Loc), Stp S w S' w' → Rel S' (fun b => b < w.heap.size ∧ b ∉ fp ∧ ¬ S b) w Kn' φ' (lentV as vs) g.ntmps s' a' w' → s'.gh.length = lent.length → qck rvs s' rs outs →
   a'.defers= []/\∃v,(results g a'.tmps).run P w'= .ok v w'/\∃v',Ending.returned v=Ending.returned v'/\Left S w fp rs outs (lentV as vs) v' w':=by
  intro s' rs S' Kn' φ' hs hR hgl hlv
  obtain ⟨tvs,oa,ob,htv,hpr,hpc,hnod⟩:=hlv
  obtain ⟨rv,p1,p2,p3⟩:=qdz hR.inv hR.env _ _ _ hrv htv
  obtain ⟨r1,r2⟩:=qfg hR.inv tvs rv rs oa hpr p2 p3
  obtain ⟨t1,t2⟩:=qi0 hR.inv hpc (lentV as vs) (hgl.trans q3) hR.gh
  have hown:∀i∈oa++ob,∃o,look s'.heap i=some o/\isOwn o=true:=by
   intro i hi
   rcases List.mem_append.1 hi with hi | hi
   ·exact r2 i hi
   ·exact t2 i hi
  have hfrm:=hR.inv.frm
  refine ⟨hR.defers,_,qhk p1,_,rfl,S',rv,_,_,rfl,hs,λb hb=> ?_,hR.inv.slt,r1,t1, ?_, ?_, ?_⟩
  ·by_cases h1:b < w.heap.size
   ·by_cases h2:b∈fp
    ·exact .inr (.inl h2)
    ·by_cases h3:S b
     ·exact .inl h3
     ·exact absurd ⟨h1,h2,h3⟩ (hR.inv.sk b hb)
   ·exact .inr (.inr (by omega))
  ·rw [<- List.flatMap_append]; exact qg4 hR.inv hnod hown
  ·rw [<- List.flatMap_append]
   intro b hb
   obtain ⟨i,hi,hb⟩:=List.mem_flatMap.1 hb
   obtain ⟨oi,hoi,hoo⟩:=hown i hi
   obtain ⟨k1,k2,k3⟩:=q54 hR.inv hoi hoo hb
   refine ⟨k1, ?_⟩
   by_cases h1:b < w.heap.size
   ·by_cases h2:b∈fp
    ·exact .inl h2
    ·by_cases h3:S b
     ·exact absurd (hs.sub _ h3) k1
     ·exact absurd ⟨h1,h2,h3⟩ k2
   ·exact .inr (by omega)
  ·refine ⟨λb hb=>hb.1,λb hb=> ?_,hfrm.grow,hfrm.frz,hfrm.own,hfrm.io⟩
   by_cases h3:S b
   ·exact hs.same b h3
   ·exact hfrm.keep b ⟨hb.1,hb.2,h3⟩
 have fin:wk (λs=>s.gh.length=lent.length/\∃rs0,qck rvs s rs0 outs/\frzRs m rs0=rs) s'->
   a'.defers= []/\∃v,(results g a'.tmps).run P w'= .ok v w'/\∃v',Ending.returned v=Ending.returned v'/\Left S w fp rs outs (lentV as vs) v' w':=by
  rintro ⟨s1,hsub,hgl,rs0,hlv,rfl⟩
  obtain ⟨S1, Kn1, φ1, hs1, hR1⟩ := hsub S' _ w Kn' φ' _ _ a' w' hR
  obtain ⟨q1,v,q2,v',q3,q4⟩:=main s1 rs0 S1 Kn1 φ1 (hs.trans hs1) hR1 hgl hlv
  exact ⟨q1,v,q2,v',q3,q4.frz m⟩
 cases o with
 | exit id=>exact hl.elim
 | normal=>exact fin hl
 | ret=>exact fin hl
theorem qt8(hm:P.follows .mixedOrders=true){f np:Nat}{F:Fn}(hF:qf5 P sig f np=some F){as:List A}{rs:List R}{outs:List T}
  {m:List Bool} (h:FnW P F m as rs outs):Good P f as rs outs:=
 qro hm hF ⟨h.1,λ_ _ _ _ _ _ _ _ _ hR=>⟨_,h.2,hR⟩⟩
end
end Go.Ev

namespace Go.Ev
section
variable {P:Program}{s s':St}{e:Env}{h:Heap}{n:Nat}{gh:List C}
theorem Sub.heap{h':Heap}{n':Nat}(hh:∀id,look h' id=look h id\/look h' id=none)(hn:n<=n'):Sub ⟨e,h,n,gh⟩ ⟨e,h',n',gh⟩:=by
 intro S K w0 Kn φ gv nt a w hR
 exact ⟨S,Kn,φ,Stp.refl S w,hR.inv.kill λid o ho=>(hh id).elim (λq=>q▸ho) λq=>by rw [q]at ho; simp at ho,hR.env,hR.size,hR.defers,λj hj=>hR.fresh j (Nat.le_trans hn hj),hR.gh⟩
theorem qkw{id id2 sz sz2 row:Nat}{slots:List Slot}{rows:List (List D)}(ho:look h id=some (.nst sz slots))(hs:slots[row]? =some (.out id2 rows.length))(h2:look h id2=some (.arr sz2 rows)):
  Sub ⟨e,h,n,gh⟩ ⟨e,(id,some (.nst sz (slots.set row (.own rows)))) :: (id2,none) :: h,n,gh⟩:=by
 intro S K w0 Kn φ gv nt a w hR
 have e1:look ((id,some (.nst sz (slots.set row (.own rows)))) :: (id2,none) :: h)=updF [(id,some (.nst sz (slots.set row (.own rows)))),(id2,none)] (look h):=q18 [(id,some (.nst sz (slots.set row (.own rows)))),(id2,none)] h
 exact ⟨S,Kn,φ,Stp.refl S w,e1▸hR.inv.absorb ho hs h2,hR.env,hR.size,hR.defers,hR.fresh,hR.gh⟩
theorem qtm{t id sz szo off len:Nat}{rows rows':List (List D)}(ht:fnd e t=some (.c (.osl sz id off len)))(ho:look h id=some (.arr szo rows))(hr:(rows.drop off).take len=rows')(hle:off+len<=rows.length):
  Sub ⟨e,h,n,gh⟩ ⟨(t, .c (.osl sz n 0 len)) :: e,(id,none) :: (n,some (.arr sz rows')) :: h,n+1,gh⟩:=by
 intro S K w0 Kn φ gv nt a w hR
 have hn:¬Kn n:=hR.fresh n (Nat.le_refl _)
 have hI:=hR.inv
 obtain ⟨hk0,h0⟩:=hI.obj _ _ ho
 have hne:id≠n:=λe=>hn (e▸hk0)
 have hv:=hR.env t _ ht
 generalize hval:a.tmps.getD t undef=val at hv
 cases hv with
 | c hv=>
 have hkill:Inv S K w0 Kn φ (updF [(id,none)] (look h)) w:=hI.kill λi o ho=>by
  rw [q06]at ho
  split at ho
  ·simp at ho
  ·exact ho
 have hfree:∀i o,updF [(id,none)] (look h) i=some o->isOwn o=true->(φ id).blk∉blks w φ (updF [(id,none)] (look h)) i:=by
  intro i o hi hown hm
  have hi':=hi
  rw [q06]at hi'
  split at hi'
  ·simp at hi'
  ·rename_i hne2
   rw [q16 rfl (hi.trans hi'.symm)]at hm
   exact q4e hI hi' ho hown rfl (λe=>hne2 e.symm) hm (q3f id)
 generalize hphi:φ id=l at *
 cases h0 with
 | @arr _ _ arr hsz0 hl hS hK hown hext hfit hrr hvis=>
 obtain ⟨cap,addr,rfl,hszl,hk,hcap,haddr,hextc,hcl⟩:=hv.osl_inv
 rw [hphi]at haddr hextc hszl hcl
 obtain rfl:sz=szo:=by rw [<- hl,hszl]
 rw [hl]at haddr hextc
 subst hr
 have hlen:((rows.drop off).take len).length=len:=by simp; omega
 have hcm:len * sz<=cap * sz:=Nat.mul_le_mul_right _ hcap
 have hR2:RowsAt S w sz (λi=>arr[i]?) addr ((rows.drop off).take len):=hrr.sub' off len λh=>haddr (by omega)
 have hname:=hkill.name hn ⟨l.blk,addr,sz,l.ext,cap⟩ (.arr sz ((rows.drop off).take len)) (λ_ j b hj hb hm=>hfree j b hj hb hm)
  (.arr hsz0 rfl hS hK hown hext (by rw [hlen]; simp only; omega) hR2 (by rw [hlen]; exact hcap))
 have hren:Ren Kn φ (λj=>Kn j\/j=n) (ext φ n ⟨l.blk,addr,sz,l.ext,cap⟩):=q2v _ hn
 refine ⟨S,λj=>Kn j\/j=n,ext φ n ⟨l.blk,addr,sz,l.ext,cap⟩,Stp.refl S w,⟨?_, ?_,hR.size,hR.defers, ?_, ?_⟩⟩
 ·have:look ((id,none) :: (n,some (.arr sz ((rows.drop off).take len))) :: h)=updF [(n,some (.arr sz ((rows.drop off).take len)))] (updF [(id,none)] (look h)):=by
   have e1:look ((id,none) :: (n,some (Ob.arr sz ((rows.drop off).take len))) :: h)=updF ([(id,none)]++ [(n,some (.arr sz ((rows.drop off).take len)))]) (look h):=q18 [(id,none),(n,some (.arr sz ((rows.drop off).take len)))] h
   rw [e1,<- q0n]
   exact q3z (u:= [(id,none)]) λp hp q hq=>by
    obtain rfl:=List.mem_singleton.1 hp
    obtain rfl:=List.mem_singleton.1 hq
    exact hne
  rw [this]
  exact hname
 ·intro t' x hx
  simp only [fnd]at hx
  by_cases et:t=t'
  ·subst et
   simp at hx
   subst hx
   rw [hval]
   have e:ext φ n ⟨l.blk,addr,sz,l.ext,cap⟩ n=⟨l.blk,addr,sz,l.ext,cap⟩:=by simp [ext]
   have:=RC.osl (S:=S) (w:=w) (Kn:=λj=>Kn j\/j=n) (φ:=ext φ n ⟨l.blk,addr,sz,l.ext,cap⟩) (id:=n) (off:=0) (len:=len) (cap:=cap) (addr:=addr)
    (.inr rfl) hcap (by rw [e]; simp) (by rw [e]; exact hextc) (by rw [e]; simp)
   rw [e]at this
   rw [hphi]
   exact .c this
  ·have e':(t == t')=false:=by simpa using et
   rw [e',cond_false]at hx
   exact (hR.env t' x hx).mono (Stp.refl _ _) hren
 ·intro j hj hk
  simp only at hj
  rcases hk with hk | hk
  ·exact hR.fresh j (by simp only; omega) hk
  ·omega
 ·intro i c v hc hv
  exact (hR.gh i c v hc hv).mono (Stp.refl _ _) hren
theorem wk.sub{Q:St->Prop}(hs:Sub s s')(h:wk Q s'):wk Q s:=let ⟨s1,h1,h2⟩:=h; ⟨s1,hs.trans h1,h2⟩
theorem wk.mono{Q Q':St->Prop}(h:wk Q s)(hq:∀s,Q s->Q' s):wk Q' s:=let ⟨s1,h1,h2⟩:=h; ⟨s1,h1,hq _ h2⟩
theorem WO.mono{Q Q':St->Prop}(hq:∀s,Q s->Q' s):∀ {ops:List COp} {s:St},WO P ops s Q->WO P ops s Q':=by
 intro ops
 induction ops with
 | nil=>intro s h; exact wk.mono h hq
 | cons o r ih=>
  intro s h
  obtain ⟨s1,h1,h⟩:=h
  refine ⟨s1,h1, ?_⟩
  rcases h with ⟨hw,call,v,u,ids,n,hok,hev,h⟩ | ⟨hw,h⟩
  ·exact .inl ⟨hw,call,v,u,ids,n,hok,hev,ih h⟩
  ·exact .inr ⟨hw,ih h⟩
theorem WO.sub{Q:St->Prop}{ops:List COp}(hs:Sub s s')(h:WO P ops s' Q):WO P ops s Q:=by
 cases ops with
 | nil=>exact wk.sub hs h
 | cons o r=>obtain ⟨s1,h1,h⟩:=h; exact ⟨s1,hs.trans h1,h⟩
theorem After.mono{R R':St->Prop}{Q Q':Out->St->Prop}(hr:∀s,R s->R' s)(hq:∀o s,Q o s->Q' o s):∀o s,After R Q o s->After R' Q' o s:=by
 intro o s h
 cases o with
 | normal=>exact hr _ h
 | exit id=>exact hq _ _ h
 | ret=>exact hq _ _ h
theorem OutOf.mono{id:Nat}{Q Q':Out->St->Prop}(hq:∀o s,Q o s->Q' o s):∀o s,OutOf id Q o s->OutOf id Q' o s:=by
 intro o s h
 cases o with
 | normal=>exact hq _ _ h
 | ret=>exact hq _ _ h
 | exit id'=>
  simp only [OutOf]at h ⊢
  split at h
  ·rw [if_pos (by assumption)]; exact hq _ _ h
  ·rw [if_neg (by assumption)]; exact hq _ _ h
theorem W.mono:∀ {c:CC} {s:St} {Q Q':Out->St->Prop},(∀ o s,Q o s->Q' o s)->W P c s Q->W P c s Q':=by
 intro c
 induction c with
 | seq a b iha ihb=>intro s Q Q' hq h; exact iha (After.mono (λs h=>ihb hq h) hq) h
 | cond c a b iha ihb=>intro s Q Q' hq h; obtain ⟨s1,h0,t,h1,h2,h3⟩:=h; exact ⟨s1,h0,t,h1,λht=>iha hq (h2 ht),λht=>ihb hq (h3 ht)⟩
 | block id a ih=>intro s Q Q' hq h; exact ih (OutOf.mono hq) h
 | loop keep a ih=>intro s Q Q' hq h; obtain ⟨I,n,h1,h2⟩:=h; exact ⟨I,n,h1,λn s hi=>ih (After.mono (λs h=>h) hq) (h2 n s hi)⟩
 | skip=>intro s Q Q' hq h; exact wk.mono h λs h=>hq _ _ h
 | exit id=>intro s Q Q' hq h; exact wk.mono h λs h=>hq _ _ h
 | ret=>intro s Q Q' hq h; exact wk.mono h λs h=>hq _ _ h
 | region ops keep=>intro s Q Q' hq h; exact WO.mono (λs h=>h.mono λs h=>hq _ _ h) h
 | drawn ops dyn keep=>intro s Q Q' hq h; obtain ⟨s1,h0,calls,e,hh,tr,h1,h2,h3,h4⟩:=h; exact ⟨s1,h0,calls,e,hh,tr,h1,h2,h3,h4.mono λs h=>hq _ _ h⟩
 | bad=>intro s Q Q' hq h; exact h
theorem W.sub:∀ {c:CC} {s s':St} {Q:Out->St->Prop},Sub s s'->W P c s' Q->W P c s Q:=by
 intro c
 induction c with
 | seq a b iha ihb=>intro s s' Q hs h; exact iha hs h
 | cond c a b iha ihb=>intro s s' Q hs h; obtain ⟨s1,h0,h1⟩:=h; exact ⟨s1,hs.trans h0,h1⟩
 | block id a ih=>intro s s' Q hs h; exact ih hs h
 | loop keep a ih=>intro s s' Q hs h; obtain ⟨I,n,h1,h2⟩:=h; exact ⟨I,n,wk.sub hs h1,h2⟩
 | skip=>intro s s' Q hs h; exact wk.sub hs h
 | exit id=>intro s s' Q hs h; exact wk.sub hs h
 | ret=>intro s s' Q hs h; exact wk.sub hs h
 | region ops keep=>intro s s' Q hs h; exact WO.sub hs h
 | drawn ops dyn keep=>intro s s' Q hs h; obtain ⟨s1,h0,h1⟩:=h; exact ⟨s1,hs.trans h0,h1⟩
 | bad=>intro s s' Q hs h; exact h
section
variable {Q:Out->St->Prop}
theorem w_seq{a b:CC}(h:W P a s (After (λs'=>W P b s' Q) Q)):W P (.seq a b) s Q:=h
theorem qv3{id:Nat}{a:CC}(h:W P a s (OutOf id Q)):W P (.block id a) s Q:=h
theorem qwo{c:Operand}{a b:CC}{t:Bool}(hc:opv s.env c=some (.c (.d (.lit (.bool t)))))(h1:t=true->W P a s Q)(h2:t=false->W P b s Q):W P (.cond c a b) s Q:=⟨s,Sub.refl s,t,hc,h1,h2⟩
theorem qr5{ops:List COp}{keep:List Nat}(h:WO P ops s λs'=>wk (Q .normal) s'):W P (.region ops keep) s Q:=h
end
def q3c{α β:Type}(f:α->Option (α ⊕ β)):Nat->α->Option β
 | 0,_=>none
 | n+1,a=>match f a with
  | some (.inl a')=>q3c f n a'
  | some (.inr b)=>some b
  | none=>none
theorem qbf{α β:Type}{f:α->Option (α ⊕ β)}:∀ {n m:Nat} {a:α} {b:β},n<=m->q3c f n a=some b->q3c f m a=some b:=by
 intro n
 induction n with
 | zero=>intro m a b _ h; simp [q3c]at h
 | succ n ih=>
  intro m a b hm h
  cases m with
  | zero=>omega
  | succ m=>
   simp only [q3c]at h ⊢
   split at h
   ·exact ih (by omega) h
   ·exact h
   ·simp at h
open Classical in
noncomputable def loopO{α β:Type}(f:α->Option (α ⊕ β))(a:α):Option β:=
 if h:∃n b,q3c f n a=some b then some (Classical.choose (Classical.choose_spec h))else none
theorem q55{α β:Type}{f:α->Option (α ⊕ β)}{a:α}{b:β}:loopO f a=some b↔∃n,q3c f n a=some b:=by
 constructor
 ·intro h
  unfold loopO at h
  split at h
  ·rename_i hx
   refine ⟨Classical.choose hx, ?_⟩
   rw [Classical.choose_spec (Classical.choose_spec hx)]
   exact h
  ·simp at h
 ·rintro ⟨n,hn⟩
  have hx:∃n b,q3c f n a=some b:=⟨n,b,hn⟩
  unfold loopO
  rw [dif_pos hx]
  have h2:=Classical.choose_spec (Classical.choose_spec hx)
  have h3:=qbf (Nat.le_max_left n (Classical.choose hx)) hn
  have h4:=qbf (Nat.le_max_right n (Classical.choose hx)) h2
  rw [h3]at h4
  rw [<- h4]
theorem qj3{α β:Type}(f:α->Option (α ⊕ β))(a:α):loopO f a=match f a with
  | some (.inl a')=>loopO f a'
  | some (.inr b)=>some b
  | none=>none:=by
 apply Option.ext
 intro b
 rw [q55]
 constructor
 ·rintro ⟨n,hn⟩
  cases n with
  | zero=>simp [q3c]at hn
  | succ n=>
   simp only [q3c]at hn
   split at hn
   ·exact q55.2 ⟨n,hn⟩
   ·exact hn
   ·simp at hn
 ·intro h
  split at h
  ·rename_i a' ha
   obtain ⟨n,hn⟩:=q55.1 h
   exact ⟨n+1,by simp only [q3c,ha]; exact hn⟩
  ·rename_i b' ha
   exact ⟨1,by simp only [q3c,ha]; exact h⟩
  ·simp at h
theorem q1f{α β:Type}{f:α->Option (α ⊕ β)}{a a':α}(h:f a=some (.inl a')):loopO f a=loopO f a':=by rw [qj3,h]
theorem q0u{α β:Type}{f:α->Option (α ⊕ β)}{a:α}{b:β}(h:f a=some (.inr b)):loopO f a=some b:=by rw [qj3,h]
def q7y:Ev.Call:=λ_ _=>none
theorem q79:q5b P q7y:=λ_ _ _ _ h=>by simp [q7y]at h
section
variable {Q:St->Prop}{r:List COp}{d:Nat}{k:K}{args:List Operand}{v:TV}{u:Upd}{ids:List Nat}{m g:Nat}{b c:Bool}
def fnOf:Option TV->Option (FuncId×List C)
 | some (.c (.d (.fn f caps)))=>some (f,caps.map C.d)
 | some (.c (.ofn f caps))=>some (f,caps)
 | _=>none
def callee(h:Heap)(muts:List Bool):List (Option TV)->Option (FuncId×List A)
 | f :: vs=>
  match fnOf f,q0t vs with
  | some (f,caps),some vs=>match q1p h (vs++caps.map TV.c) muts with | some (as,_,_)=>some (f,as) | none=>none
  | _,_=>none
 | []=>none
def qay(h:Heap)(nxt:Nat)(ro:Bool)(ids:List Nat)(lent:List (C×List Nat×List Nat)):Option (List R×List T)->Res1
 | none=>none
 | some (rs,outs)=>
  if ro then
   if rs.all litR/\lent.isEmpty/\outs.isEmpty then
    some (retV (unRs nxt rs).1,(unRs nxt rs).2.1,ids,(unRs nxt rs).2.2)
   else none
  else
   match q0o h ids ids with
   | none=>none
   | some fu=>
    match q12 nxt lent outs with
    | none=>none
    | some (bu,m)=>some (retV (unRs m rs).1,(unRs m rs).2.1++bu++fu,ids++lent.flatMap (·.2.2),(unRs m rs).2.2)
theorem qfw(call:Ev.Call)(ro:Bool)(muts:List Bool)(fv:Option TV)(vs:List (Option TV))(h:Heap)(nxt:Nat):
  qap call ro muts fv vs h nxt=match fnOf fv,q0t vs with
   | some (f,caps),some vs=>
    match q1p h (vs++caps.map TV.c) muts with
    | none=>none
    | some (as,ids,lent)=>
     if q0s h lent/\(lent.flatMap (λ(p:C×List Nat×List Nat)=>p.2.1)).Nodup/\(lent.flatMap (λ(p:C×List Nat×List Nat)=>p.2.1)).all (λi=> !ids.contains i)then qay h nxt ro ids lent (call f as)else none
   | _,_=>none:=by
 have e1:∀(o:Option (List R×List T)) (ids:List Nat) (lent:List (C×List Nat×List Nat)),(match o with
    | none=>none
    | some (rs,outs)=>
     if ro then
      if rs.all litR/\lent.isEmpty/\outs.isEmpty then
       let (vs,u,m):=unRs nxt rs
       some (retV vs,u,ids,m)
      else none
     else
      match q0o h ids ids with
      | none=>none
      | some fu=>
       match q12 nxt lent outs with
       | none=>none
       | some (bu,m)=>
        let (vs,u,k):=unRs m rs
        some (retV vs,u++bu++fu,ids++lent.flatMap (λ(p:C×List Nat×List Nat)=>p.2.2),k))=qay h nxt ro ids lent o:=by
  intro o ids lent
  cases o with
  | none=>rfl
  | some p=>rfl
 have e2:(match fv with | some (.c (.d (.fn f caps)))=>some (f,caps.map C.d) | some (.c (.ofn f caps))=>some (f,caps) | _=>none)=fnOf fv:=rfl
 show (match (match fv with | some (.c (.d (.fn f caps)))=>some (f,caps.map C.d) | some (.c (.ofn f caps))=>some (f,caps) | _=>none),q0t vs with
   | some (f,caps),some vs=>
    match q1p h (vs++caps.map TV.c) muts with
    | none=>none
    | some (as,ids,lent)=>
     if q0s h lent/\(lent.flatMap (λ(p:C×List Nat×List Nat)=>p.2.1)).Nodup/\(lent.flatMap (λ(p:C×List Nat×List Nat)=>p.2.1)).all (λi=> !ids.contains i)then
      (match call f as with
    | none=>none
    | some (rs,outs)=>
     if ro then
      if rs.all litR/\lent.isEmpty/\outs.isEmpty then
       let (vs,u,m):=unRs nxt rs
       some (retV vs,u,ids,m)
      else none
     else
      match q0o h ids ids with
      | none=>none
      | some fu=>
       match q12 nxt lent outs with
       | none=>none
       | some (bu,m)=>
        let (vs,u,k):=unRs m rs
        some (retV vs,u++bu++fu,ids++lent.flatMap (λ(p:C×List Nat×List Nat)=>p.2.2),k))else none
   | _,_=>none)=_
 simp only [e1,e2]
open Classical in
noncomputable def only(f:FuncId)(as:List A)(rs:List R)(outs:List T):Ev.Call:=λf' as'=>if f'=f/\as'=as then some (rs,outs)else none
theorem qme{f:FuncId}{as:List A}{rs:List R}{outs:List T}(hg:Good P f as rs outs):q5b P (only f as rs outs):=by
 intro f' as' rs' outs' h
 unfold only at h
 split at h
 ·rename_i he
  obtain ⟨rfl,rfl⟩:=he
  obtain ⟨rfl,rfl⟩:=Prod.mk.inj (Option.some.inj h)
  exact hg
 ·simp at h
theorem qes{f:FuncId}{as:List A}{rs:List R}{outs:List T}{ro:Bool}{muts:List Bool}{vs:List (Option TV)}{x:TV×Upd×List Nat×Nat}
  (h2:callee h muts vs=some (f,as)) (h1:ev1 (λ_ _=>some (rs,outs)) (.call ro muts) vs h n=some x):ev1 (only f as rs outs) (.call ro muts) vs h n=some x:=by
 cases vs with
 | nil=>simp [callee]at h2
 | cons fv vs=>
  simp only [callee]at h2
  simp only [ev1,qfw]at h1 ⊢
  split at h2
  ·rename_i f' caps vs' hf hvs
   simp only [hf,hvs]at h1 ⊢
   split at h2
   ·rename_i as' ids lent hargs
    obtain ⟨rfl,rfl⟩:=Prod.mk.inj (Option.some.inj h2)
    rw [hargs]at h1 ⊢
    simp only [only,and_self,if_true]at h1 ⊢
    exact h1
   ·simp at h2
  ·simp at h2
theorem qmc{fv:Option TV}{ovs:List (Option TV)}{vs:List TV}{f:FuncId}{caps:List C}{as:List A}{ids:List Nat}{lent:List (C×List Nat×List Nat)}{ro:Bool}{muts:List Bool}{rs:List R}{outs:List T}{x:TV×Upd×List Nat×Nat}
  (hf:fnOf fv=some (f,caps)) (hv:q0t ovs=some vs) (ha:q1p h (vs++caps.map TV.c) muts=some (as,ids,lent)) (hw:q0s h lent=true)
  (hn:decide ((lent.flatMap (λ(p:C×List Nat×List Nat)=>p.2.1)).Nodup/\(lent.flatMap (λ(p:C×List Nat×List Nat)=>p.2.1)).all (λi=> !ids.contains i)=true)=true)
  (hl:qay h n ro ids lent (some (rs,outs))=some x):
  callee h muts (fv :: ovs)=some (f,as)/\ev1 (λ_ _=>some (rs,outs)) (.call ro muts) (fv :: ovs) h n=some x:=by
 have hn':=of_decide_eq_true hn
 constructor
 ·simp only [callee,hf,hv,ha]
 ·simp only [ev1,qfw,hf,hv,ha]
  rw [if_pos ⟨hw,hn'⟩]; exact hl
theorem land{ids:List Nat}{lent:List (C×List Nat×List Nat)}{rs:List R}{outs:List T}{fu bu:Upd}{m:Nat}(hz:q0o h ids ids=some fu)(hb:q12 n lent outs=some (bu,m)):
  qay h n false ids lent (some (rs,outs))=some (retV (unRs m rs).1,(unRs m rs).2.1++bu++fu,ids++lent.flatMap (·.2.2),(unRs m rs).2.2):=by
 simp only [qay,hz,hb,Bool.false_eq_true,if_false]
theorem qv1{sz id len k:Nat}{rows:List (List D)}{rd:List Nat}{r:List (C×List Nat×List Nat)}{ts:List T}{w:Upd}(hl:rows.length=len)(hr:q12 n r ts=some (w,k)):
  q12 n ((.osl sz id 0 len, [id],rd) :: r) (.sl sz rows :: ts)=some ((id,some (.arr sz rows)) :: w,k):=by
 simp only [q12,hl,hr,and_self,if_true]
theorem qv4{id k:Nat}{own rd:List Nat}{r:List (C×List Nat×List Nat)}{ts' ts:List T}{w:Upd}(hc:own.contains id=true)(hr:q12 (unL n ts').2.2 r ts=some (w,k)):
  q12 n ((.op id 0,own,rd) :: r) (.pt ts' :: ts)=some ((id,some (.box (unL n ts').1)) :: (unL n ts').2.1++own.map (λi=>(i,none))++w,k):=by
 simp only [q12,hr,hc,if_true]
theorem qmf{c:C}{own rd:List Nat}{k:Nat}{r:List (C×List Nat×List Nat)}{ts:List T}{w:Upd}(hr:q12 n r ts=some (w,k)):q12 n ((c,own,rd) :: r) (.gone :: ts)=some (own.map (λi=>(i,none))++w,k):=by
 simp [q12,hr]
theorem ea_c{c:C}{vs:List TV}{ms:List Bool}{as:List A}{ids i:List Nat}{lent:List (C×List Nat×List Nat)}{x:D}(hv:viewC h 300 c=some (x,i))(hm:ms.headD false=false)(hr:q1p h vs ms.tail=some (as,ids,lent)):
  q1p h (.c c :: vs) ms=some (.d x :: as,i++ids,lent):=by simp only [q1p,hr,hm,hv,Bool.false_eq_true,if_false]
theorem qwb{cs:List C}{vs:List TV}{ms:List Bool}{as:List A}{ids i:List Nat}{lent:List (C×List Nat×List Nat)}{xs:List D}(hv:q0r h cs=some (xs,i))(hm:ms.headD false=false)(hr:q1p h vs ms.tail=some (as,ids,lent)):
  q1p h (.agg cs :: vs) ms=some (.agg xs :: as,i++ids,lent):=by simp only [q1p,hr,hm,hv,Bool.false_eq_true,if_false]
theorem ea_mt{c:C}{vs:List TV}{ms:List Bool}{as:List A}{ids own rd:List Nat}{lent:List (C×List Nat×List Nat)}{t:T}(hv:packC h 300 c=some (t,own,rd))(hm:ms.headD false=true)(hr:q1p h vs ms.tail=some (as,ids,lent)):
  q1p h (.c c :: vs) ms=some (.mt t :: as,ids,(c,own,rd) :: lent):=by simp only [q1p,hr,hm,hv,if_true]
end
abbrev Tr:=List (List Nat×List Nat)
abbrev DSt:=Env×Heap×Tr
def aftD(e:Env)(d:Option Nat)(h:Heap)(tr:Tr)(top:Nat)(r:Res1):Option DSt:=
 match r with
 | some (v,u,ids,m)=>if m<=top then some (put e d v,u++h,tr++ [(ids,u.map (·.1))])else none
 | none=>none
def stepD(call:Ev.Call)(base i:Nat)(o:COp)(s:DSt):Option DSt:=
 match wants s.1 o.guard with
 | some true=>aftD s.1 o.dst s.2.1 s.2.2 (base+room * (i+1)) (ev1 call o.k (o.args.map (opv s.1)) s.2.1 (base+room * i))
 | some false=>some (drop s.1 o.dst,s.2.1,s.2.2++ [([], [])])
 | none=>none
def evDr(calls:Nat->Ev.Call)(base:Nat):List COp->Nat->DSt->Option DSt
 | [],_,s=>some s
 | o :: r,i,s=>(stepD (calls i) base i o s).bind (evDr calls base r (i+1))
theorem qto{calls:Nat->Ev.Call}{base:Nat}:∀(l:List COp) (i:Nat) (e:Env) (h:Heap) (tr:Tr) (e':Env) (h':Heap) (tr':Tr),evDr calls base l i (e,h,tr)=some (e',h',tr')->
  ∃t,q4n calls base l i e h=some (e',h',t)/\tr'=tr++t:=by
 intro l
 induction l with
 | nil=>
  intro i e h tr e' h' tr' hh
  obtain ⟨rfl,rfl,rfl⟩:e=e'/\h=h'/\tr=tr':=by simpa [evDr]using hh
  exact ⟨[],rfl,by simp⟩
 | cons o r ih=>
  intro i e h tr e' h' tr' hh
  unfold evDr stepD at hh
  unfold q4n
  cases hw:wants e o.guard with
  | none=>simp [hw]at hh
  | some b=>
   cases b with
   | false=>
    simp only [hw,Option.bind_some]at hh
    obtain ⟨t,h1,h2⟩:=ih _ _ _ _ _ _ _ hh
    exact ⟨([], []) :: t,by simp [h1],by simp [h2]⟩
   | true=>
    simp only [hw]at hh
    cases hv:ev1 (calls i) o.k (o.args.map (opv e)) h (base+room * i)with
    | none=>simp [hv,aftD]at hh
    | some p=>
     obtain ⟨v,u,ids,m⟩:=p
     simp only [hv,aftD]at hh
     by_cases hm:m<=base+room * (i+1)
     ·rw [if_pos hm,Option.bind_some]at hh
      obtain ⟨t,h1,h2⟩:=ih _ _ _ _ _ _ _ hh
      exact ⟨(ids,u.map (·.1)) :: t,by simp [hm,h1],by simp [h2]⟩
     ·rw [if_neg hm]at hh; simp at hh
theorem qke{calls calls':Nat->Ev.Call}{base:Nat}:∀(l:List COp) (i:Nat) (s:DSt),(∀ j,i<=j->calls j=calls' j)->evDr calls base l i s=evDr calls' base l i s:=by
 intro l
 induction l with
 | nil=>intro i s _; rfl
 | cons o r ih=>
  intro i s hc
  simp only [evDr,hc i (Nat.le_refl _)]
  congr 1
  funext s'
  exact ih (i+1) s' λj hj=>hc j (by omega)
def WD(P:Program)(base:Nat)(ops:List COp)(i:Nat)(e:Env)(h:Heap)(tr:Tr)(Q:Env->Heap->Tr->Prop):Prop:=
 ∃calls,(∀ j,q5b P (calls j))/\∃e' h' tr',evDr calls base ops i (e,h,tr)=some (e',h',tr')/\Q e' h' tr'
theorem qua{Q:Out->St->Prop}{ops:List COp}{dyn:List (Nat×Nat)}{keep:List Nat}
  (hw:WD P n ops 0 e h [] λe' h' tr=>dynOk tr dyn=true/\wk (Q .normal) ⟨e',h',n+room * ops.length,gh⟩):W P (.drawn ops dyn keep) ⟨e,h,n,gh⟩ Q:=by
 obtain ⟨calls,hok,e',h',tr',h1,hd,hq⟩:=hw
 obtain ⟨t,h4,ht⟩:=qto _ _ _ _ _ _ _ _ h1
 obtain rfl:tr'=t:=by simpa using ht
 exact ⟨_,Sub.refl _,calls,e',h',_,hok,h4,hd,hq⟩
section
variable {base i:Nat}{ops r:List COp}{tr:Tr}{Q:Env->Heap->Tr->Prop}{d:Nat}{k:K}{args:List Operand}{v:TV}{u:Upd}{ids:List Nat}{m g:Nat}{b c:Bool}
theorem d_nil(hq:Q e h tr):WD P base [] i e h tr Q:=⟨λ_=>q7y,λ_=>q79,e,h,tr,rfl,hq⟩
theorem qsj{call:Ev.Call}{o:COp}{e1:Env}{h1:Heap}{tr1:Tr}(hok:q5b P call)(hs:stepD call base i o (e,h,tr)=some (e1,h1,tr1))(hq:WD P base r (i+1) e1 h1 tr1 Q):WD P base (o :: r) i e h tr Q:=by
 obtain ⟨calls,hc,e',h',tr',h2,h3⟩:=hq
 refine ⟨λj=>if j=i then call else calls j,λj=> ?_,e',h',tr', ?_,h3⟩
 ·show q5b P (if j=i then call else calls j)
  split
  ·exact hok
  ·exact hc j
 ·simp only [evDr,if_true,hs,Option.bind_some]
  rw [qke (calls':=calls) r (i+1) _ λj hj=>if_neg (by omega)]
  exact h2
theorem qw6{e:Env}{dd:Option Nat}{top:Nat}(hm:m<=top):aftD e dd h tr top (some (v,u,ids,m))=some (put e dd v,u++h,tr++ [(ids,u.map (·.1))]):=by
 simp only [aftD]; rw [if_pos hm]
theorem qty:base+room * i<=base+room * (i+1):=by simp only [room]; omega
end
section
variable {R:St->Prop}{Q:Out->St->Prop}{id id':Nat}
end
inductive Fg:Heap->Heap->Prop
 | nil:Fg [] []
 | cons {p:Nat×Option Ob} {a b:Heap} (h:Fg a b):Fg (p :: a) (p :: b)
 | skip {i:Nat} {a b:Heap} (h:Fg a b):Fg a ((i,none) :: b)
end
end Go.Ev
