/- Operations that do not fail, against the abstract machine's, second part. Conditions: as stated. -/
import Derived.Test.YthcplpfiidlinaaFh
namespace Go.Ev
section
variable {h:H2}{n:Nat}{h1:Heap}
theorem qwr{a b:Value}(he:vEq a b=true):a=b:=by
 unfold vEq at he
 split at he <;> simp_all
theorem q82:∀ {a b:List Value},vsEq a b=true->a=b:=by
 intro a
 induction a with
 | nil=>intro b he; cases b <;> first | rfl | (simp [vsEq]at he)
 | cons x a ih=>
  intro b he
  cases b with
  | nil=>simp [vsEq]at he
  | cons y b=>
   simp only [vsEq,Bool.and_eq_true]at he
   rw [qwr he.1,ih he.2]
theorem q84(a b:List Value):lits (a++b)=lits a++lits b:=by simp [lits]
theorem q8d:∀(t:Ty),dat t=true->encE t (zeE t)=litsD (zeL t):=by
 intro t
 induction t with
 | pr a c iha ihc=>intro hd; simp only [dat,Bool.and_eq_true]at hd; simp [encE,zeE,zeL,litsD,iha hd.1,ihc hd.2]
 | st t ih=>intro hd; exact ih hd
 | ar m t ih=>
  intro hd
  have e:=ih hd
  simp only [encE,zeE,zeL]
  clear hd ih
  induction m with
  | zero=>rfl
  | succ m ihm=>simp only [List.replicate_succ,List.flatMap_cons,List.flatten_cons,e,litsD,List.map_append]at ihm ⊢; rw [ihm]
 | o k=>intro hd; simp [dat]at hd
 | mp k v=>intro hd; simp [dat]at hd
 | _=>intro _; rfl
theorem qe9:∀(t:Ty),(fitV (zeG t).1 false t=true->celR h (zeG t).1 (lits (zeL t))/\okV n h (zeG t).1)/\(fitV (zeG t).2 true t=true->celR h (zeG t).2 (lits (zeL t))/\okV n h (zeG t).2):=by
 have one:∀(t:Ty) (v:V),(celR h v (lits (zeL t))/\okV n h v)->(celR h (.co v .ni) (lits (zeL t))/\okV n h (.co v .ni)):=λt v hv=>⟨⟨_, [],by simp,hv.1,rfl⟩,hv.2,trivial⟩
 have dt:∀(t:Ty),dat t=true->celR h (.x t (zeE t)) (lits (zeL t)):=λt hd=>⟨hd,by rw [q8d t hd]; simp [lits,litsD]⟩
 intro t
 induction t with
 | pr a c iha ihc=>
  refine ⟨λhf=>by simp [zeG,fitV]at hf,λhf=> ?_⟩
  simp only [zeG,fitV,Bool.and_eq_true]at hf
  obtain ⟨q1,q3⟩:=iha.1 hf.1
  obtain ⟨q4,q5⟩:=ihc.2 hf.2
  exact ⟨⟨_,_,q84 _ _,q1,q4⟩,q3,q5⟩
 | st t ih=>
  cases hd:dat t with
  | true=>
   have:=dt (.st t) hd
   simp only [zeG,hd,cond_true]
   exact ⟨λ_=>⟨this,trivial⟩,λ_=>one (.st t) _ ⟨this,trivial⟩⟩
  | false=>
   simp only [zeG,hd,cond_false]
   exact ⟨λhf=>ih.2 hf,λhf=>one (.st t) _ (ih.2 hf)⟩
 | sl t ih=>
  cases hd:dat t with
  | true=>
   have:=dt (.sl t) hd
   simp only [zeG,hd,cond_true]
   exact ⟨λ_=>⟨this,trivial⟩,λ_=>one (.sl t) _ ⟨this,trivial⟩⟩
  | false=>
   simp only [zeG,hd,cond_false]
   exact ⟨λ_=>⟨rfl,trivial⟩,λ_=>one (.sl t) _ ⟨rfl,trivial⟩⟩
 | ar m t ih=>
  cases hd:dat t with
  | true=>
   have:=dt (.ar m t) hd
   simp only [zeG,hd,cond_true]
   exact ⟨λ_=>⟨this,trivial⟩,λ_=>one (.ar m t) _ ⟨this,trivial⟩⟩
  | false=>
   simp only [zeG,hd,cond_false]
   exact ⟨λhf=>by simp [fitV]at hf,λhf=>by simp [fitV]at hf⟩
 | o k=>
  have:celR h (.nl k) (lits (zeL (.o k))):=by
   show lits (zeL (.o k))= [nlC k]
   rcases k with _ | _ | _ | _ | k <;> rfl
  exact ⟨λ_=>⟨this,trivial⟩,λ_=>one (.o k) _ ⟨this,trivial⟩⟩
 | mp k v=>exact ⟨λ_=>⟨rfl,trivial⟩,λ_=>one (.mp k v) _ ⟨rfl,trivial⟩⟩
 | un=>exact ⟨λ_=>⟨dt .un rfl,trivial⟩,λ_=>one .un _ ⟨dt .un rfl,trivial⟩⟩
 | i k=>exact ⟨λ_=>⟨dt (.i k) rfl,trivial⟩,λ_=>one (.i k) _ ⟨dt (.i k) rfl,trivial⟩⟩
 | b=>exact ⟨λ_=>⟨dt .b rfl,trivial⟩,λ_=>one .b _ ⟨dt .b rfl,trivial⟩⟩
 | s=>exact ⟨λ_=>⟨dt .s rfl,trivial⟩,λ_=>one .s _ ⟨dt .s rfl,trivial⟩⟩
 | f k=>exact ⟨λ_=>⟨dt (.f k) rfl,trivial⟩,λ_=>one (.f k) _ ⟨dt (.f k) rfl,trivial⟩⟩
theorem qei{t:Ty}{v w:V}{cs:List C}(hw:nrm t v=some w)(hv:celR h v cs)(hk:okV n h v):celR h w cs/\fitV w false t=true/\okV n h w/\agV w=agV v:=by
 unfold nrm at hw
 split at hw
 ·rename_i y hy
  obtain rfl:=Option.some.inj hw
  cases hd:dat t with
  | false=>rw [hd]at hy; simp at hy
  | true=>
   rw [hd,cond_true]at hy
   exact ⟨⟨hd,q5o hy hv⟩,by simp [fitV],trivial,(qid hy).symm⟩
 ·cases hf:fitV v false t with
  | false=>rw [hf]at hw; simp at hw
  | true=>
   rw [hf,cond_true]at hw
   obtain rfl:=Option.some.inj hw
   exact ⟨hv,hf,hk,rfl⟩
theorem qrh{t:Ty}{v:V}{y:El t}(hy:castV t v=some y):plV v:=by
 cases v <;> first | trivial | (simp [castV]at hy)
theorem quj{t:Ty}{v:V}(hf:fitV v false t=true):plV v:=by
 cases v <;> first | trivial | (cases t <;> simp [fitV]at hf)
theorem qoe{t:Ty}{v w:V}(hw:nrm t v=some w):plV v:=by
 unfold nrm at hw
 split at hw
 ·rename_i y hy
  cases hd:dat t with
  | false=>rw [hd]at hy; simp at hy
  | true=>rw [hd,cond_true]at hy; exact qrh hy
 ·cases hf:fitV v false t with
  | false=>rw [hf]at hw; simp at hw
  | true=>exact quj hf
theorem qvu{t:Ty}{v:V}(hf:fitV v false t=true)(ha:agT t=true):agV v=true:=by
 cases t <;> simp [agT]at ha
 all_goals (cases v <;> first | rfl | (simp [fitV]at hf; done) | skip)
 ·simp only [fitV,decide_eq_true_eq]at hf; subst hf; rfl
 ·simp only [fitV,decide_eq_true_eq]at hf; subst hf; rfl
theorem qph{t:Ty}:∀(is:List Nat) (ps:List (Nat×Nat)) (ws:List V) (c c':V) (cs:List C) (xs:List TV),bldF t is ps ws c=some c'->fitV c false t=true->celR h c cs->okV n h c->tvsR h ws xs->(∀ w∈ws,okV n h w)->
  ∃cs',fillC cs (ps.zip xs)=some cs'/\celR h c' cs'/\okV n h c'/\fitV c' false t=true:=by
 intro is
 induction is with
 | nil=>
  intro ps ws c c' cs xs hb hf hc hk hx hw
  cases ps with
  | cons p ps=>simp [bldF]at hb
  | nil=>
   cases ws with
   | cons w ws=>simp [bldF]at hb
   | nil=>obtain rfl:=Option.some.inj hb; exact ⟨cs,by simp [fillC],hc,hk,hf⟩
 | cons i is ih=>
  intro ps ws c c' cs xs hb hf hc hk hx hw
  cases ps with
  | nil=>simp [bldF]at hb
  | cons p ps=>
   obtain ⟨off,m⟩:=p
   cases ws with
   | nil=>simp [bldF]at hb
   | cons w ws=>
    obtain ⟨x,ys,rfl,hx1,hx2⟩:=q1g hx
    have hw1:=hw w (by simp)
    have step:∀(pe:Pe) (a:Ty),tyP t [pe]=some a->okP t [pe]->ofP t [pe]=off->szT a=m->(match nrm a w with | some w=>(match setP c [pe] w with | some c=>bif fitV c false t then bldF t is ps ws c else none | none=>none) | none=>none)=some c'->
      ∃cs',fillC cs (((off,m),x) :: ps.zip ys)=some cs'/\celR h c' cs'/\okV n h c'/\fitV c' false t=true:=by
     intro pe a h1 h2 h3 h4 hb
     split at hb
     ·rename_i w1 hw1'
      obtain ⟨cw,q1,q2⟩:=q6t (tvR_1 (qoe hw1') hx1)
      split at hb
      ·rename_i c1 hc1
       cases hfc:fitV c1 false t with
       | false=>rw [hfc]at hb; simp at hb
       | true=>
        rw [hfc,cond_true]at hb
        obtain ⟨k1,k2,k3,_⟩:=qei hw1' q1 hw1
        have hl:=q1s k1
        rw [q1i _ _ _ k2,h4]at hl
        have hsp:=qbh [pe] c t w1 c1 cs cw a hf hc h2 hc1 h1 k1 (by rw [hl,h4])
        rw [h3]at hsp
        have hle:=qco [pe] t a h1 h2
        have hcl:=q1s hc
        rw [q1i _ _ _ hf]at hcl
        obtain ⟨cs',e1,e2,e3,e4⟩:=ih ps ws c1 c' _ ys hb hfc hsp (qna _ _ _ _ hk k3 hc1) hx2 λw hw'=>hw w (by simp [hw'])
        refine ⟨cs', ?_,e2,e3,e4⟩
        simp only [fillC,q2]
        rw [if_pos ⟨hl,by omega⟩,e1]
      ·simp at hb
     ·simp at hb
    cases t with
    | st u=>
     simp only [bldF]at hb
     split at hb
     ·rename_i a ha
      cases hq:(foT u i == off) && (szT a == m)with
      | false=>rw [hq]at hb; simp at hb
      | true=>
       rw [hq,cond_true]at hb
       simp only [Bool.and_eq_true,beq_iff_eq]at hq
       exact step (.fd i) a (by simp [tyP,ha]) ⟨a,ha,by cases a <;> trivial⟩ (by simp only [ofP,ha]; rw [hq.1]; cases a <;> rfl) hq.2 hb
     ·simp at hb
    | ar k u=>
     simp only [bldF]at hb
     cases hq:(i * szT u == off) && (szT u == m) && decide (i < k)with
     | false=>rw [hq]at hb; simp at hb
     | true=>
      rw [hq,cond_true]at hb
      simp only [Bool.and_eq_true,beq_iff_eq,decide_eq_true_eq]at hq
      exact step (.ix i) u (by simp [tyP]) ⟨hq.2,by cases u <;> trivial⟩ (by simp only [ofP]; rw [hq.1.1]; cases u <;> rfl) hq.1.2 hb
    | _=>simp [bldF]at hb
end
end Go.Ev

namespace Go.Ev
theorem qw1(a b:ByteArray):(a == b)=decide (a=b):=by
 obtain ⟨x⟩:=a
 obtain ⟨y⟩:=b
 show ByteArray.beq ⟨x⟩ ⟨y⟩=_
 unfold ByteArray.beq
 rw [Bool.eq_iff_iff]
 simp [ByteArray.ext_iff]
def vlE(t:Ty)(x:El t):List Value:=(encE t x).map λ| .lit y=>y | _=> .nilFunc
theorem qb8{k1 k2:List Kd}{a1 a2 b1 b2:List Value}{p q:Bool}(h1:eqVs k1 a1 b1=some p)(h2:eqVs k2 a2 b2=some q):eqVs (k1++k2) (a1++a2) (b1++b2)=some (p && q):=by
 induction k1 generalizing a1 b1 p with
 | nil=>
  cases a1 <;> cases b1 <;> simp [eqVs]at h1
  subst h1; simpa using h2
 | cons k k1 ih=>
  cases a1 <;> cases b1 <;> simp only [eqVs]at h1 <;> first | cases h1; done | skip
  split at h1
  ·rename_i c d hc hd
   obtain rfl:=Option.some.inj h1
   simp only [List.cons_append,eqVs,hc,ih hd,Bool.and_assoc]
  ·simp at h1
theorem qd3{k1 k2:List Kd}{a1 a2:List Value}(h1:kOk k1 a1=true)(h2:kOk k2 a2=true):kOk (k1++k2) (a1++a2)=true:=by
 induction k1 generalizing a1 with
 | nil=>cases a1 <;> simp [kOk]at h1; simpa using h2
 | cons k k1 ih=>
  cases a1 <;> simp only [kOk]at h1 <;> first | cases h1; done | skip
  simp only [Bool.and_eq_true]at h1
  simp [kOk,h1.1,ih h1.2]
theorem qe3:∀(t:Ty) (ks:List Kd),kdT t=some ks->(∀ x,encE t x=(vlE t x).map .lit)/\(∀ x,kOk ks (vlE t x)=true)/\(∀ a b:El t,eqVs ks (vlE t a) (vlE t b)=some (decide (a=b)))/\ks.length=szT t:=by
 intro t
 induction t with
 | pr a c iha ihc=>
  intro ks hk
  simp only [kdT]at hk
  split at hk
  ·rename_i x y hx hy
   obtain rfl:=Option.some.inj hk
   obtain ⟨a1,a2,a3,a4⟩:=iha x hx
   obtain ⟨c1,c2,c3,c4⟩:=ihc y hy
   have e:∀v:El (.pr a c),vlE (.pr a c) v=vlE a v.1++vlE c v.2:=λv=>by simp [vlE,encE]
   refine ⟨λv=>by rw [e,List.map_append,<- a1,<- c1]; rfl,λv=>by rw [e]; exact qd3 (a2 _) (c2 _),λu v=> ?_,by simp [szT,a4,c4]⟩
   rw [e,e,qb8 (a3 _ _) (c3 _ _)]
   congr 1
   rw [Bool.eq_iff_iff]
   simp [Prod.ext_iff]
  ·simp at hk
 | st t ih=>intro ks hk; exact ih ks hk
 | ar m t ih=>
  intro ks hk
  simp only [kdT]at hk
  split at hk
  ·rename_i x hx
   obtain rfl:=Option.some.inj hk
   obtain ⟨a1,a2,a3,a4⟩:=ih x hx
   have e:∀v:El (.ar m t),vlE (.ar m t) v=v.1.flatMap (vlE t):=λv=>by
    simp only [vlE,encE,List.map_flatMap]; rfl
   refine ⟨λv=> ?_,λv=> ?_,λu v=> ?_, ?_⟩
   ·rw [e]; simp only [encE,List.map_flatMap]; congr 1; funext y; exact a1 y
   ·rw [e]
    obtain ⟨l,hl⟩:=v
    clear e hk ih
    simp only
    induction l generalizing m with
    | nil=>subst hl; rfl
    | cons y l ihl=>
     subst hl
     simp only [List.length_cons,List.replicate_succ,List.flatten_cons,List.flatMap_cons]
     exact qd3 (a2 y) (ihl _ rfl)
   ·rw [e,e]
    obtain ⟨l,hl⟩:=u
    obtain ⟨r,hr⟩:=v
    have key:∀(m:Nat) (l r:List (El t)),l.length=m->r.length=m->eqVs (List.replicate m x).flatten (l.flatMap (vlE t)) (r.flatMap (vlE t))=some (decide (l=r)):=by
     intro m
     induction m with
     | zero=>
      intro l r h1 h2
      obtain rfl:=List.length_eq_zero_iff.1 h1
      obtain rfl:=List.length_eq_zero_iff.1 h2
      rfl
     | succ m ihm=>
      intro l r h1 h2
      cases l with
      | nil=>simp at h1
      | cons y l=>
       cases r with
       | nil=>simp at h2
       | cons z r=>
        simp only [List.replicate_succ,List.flatten_cons,List.flatMap_cons]
        rw [qb8 (a3 y z) (ihm l r (by simpa using h1) (by simpa using h2))]
        congr 1
        rw [Bool.eq_iff_iff]
        simp
    rw [key m l r hl hr]
    congr 1
    rw [Bool.eq_iff_iff]
    simp only [decide_eq_true_eq]
    exact ⟨λh=>Subtype.ext h,λh=>congrArg Subtype.val h⟩
   ·simp [szT,a4]
  ·simp at hk
 | i k=>
  intro ks hk
  obtain rfl:=Option.some.inj hk
  refine ⟨λ_=>rfl,λx=>by simp [vlE,encE,kOk,kOk1],λa b=> ?_,rfl⟩
  simp only [vlE,encE,List.map_cons,List.map_nil,eqVs,eqK,and_self,if_true,Bool.and_true]
  congr 1
 | b=>
  intro ks hk
  obtain rfl:=Option.some.inj hk
  refine ⟨λ_=>rfl,λx=>by simp [vlE,encE,kOk,kOk1],λa b=> ?_,rfl⟩
  simp only [vlE,encE,List.map_cons,List.map_nil,eqVs,eqK,Bool.and_true]
  congr 1
 | s=>
  intro ks hk
  obtain rfl:=Option.some.inj hk
  refine ⟨λ_=>rfl,λx=>by simp [vlE,encE,kOk,kOk1],λa b=> ?_,rfl⟩
  simp only [vlE,encE,List.map_cons,List.map_nil,eqVs,eqK,Bool.and_true]
  rw [qw1]
 | _=>intro ks hk; simp [kdT]at hk
section
variable {h:H2}{n:Nat}{h1:Heap}
theorem qp6{z:Bool}{op:BinOp}{k k':IntKind}{a b:Int}{v:V}(hb:binI z op k k' a b=some v)(hz:z=true->0 < b):∃y,binV op (.int k a) (.int k' b)=some y/\tvR h v (lv y)/\okV n h v:=by
 have one:∀(q:IntKind) (c:Int),tvR h (.x (.i q) c) (lv (.int q c)):=λq c=>q0e (q0v rfl ⟨rfl,rfl⟩)
 have onb:∀(c:Bool),tvR h (.x .b c) (lv (.bool c)):=λc=>q0e (q0v rfl ⟨rfl,rfl⟩)
 cases op <;> simp only [binI]at hb
 all_goals first
  | (cases z <;> simp only [cond_true,cond_false]at hb <;> first | (cases hb; done) | skip
     have:=hz rfl
     obtain rfl:=Option.some.inj hb
     refine ⟨_,by simp only [binV]; rw [if_neg (by omega)]; rfl,one _ _,trivial⟩)
  | skip
 all_goals
  by_cases hk:k=k'
  ·subst hk
   simp only [decide_true,cond_true]at hb
   first
    | (cases hb; done)
    | (obtain rfl:=Option.some.inj hb
       refine ⟨_,by simp only [binV,if_true]; rfl, ?_,trivial⟩
       first | exact one _ _ | exact onb _)
    | (cases z <;> simp only [cond_true,cond_false]at hb <;> first | (cases hb; done) | skip
       have:=hz rfl
       obtain rfl:=Option.some.inj hb
       refine ⟨_,by simp only [binV,if_true]; rw [if_neg (by omega)],one _ _,trivial⟩)
  ·simp [hk]at hb
theorem qlt{op:BinOp}{a b:ByteArray}{v:V}(hb:binS op a b=some v):∃y,binV op (.string a) (.string b)=some y/\tvR h v (lv y)/\okV n h v:=by
 have onb:∀(c:Bool),tvR h (.x .b c) (lv (.bool c)):=λc=>q0e (q0v rfl ⟨rfl,rfl⟩)
 cases op <;> simp only [binS]at hb <;> first | (cases hb; done) | skip
 all_goals (obtain rfl:=Option.some.inj hb; exact ⟨_,rfl,onb _,trivial⟩)
theorem qqb{m:Bool}{k:IntKind}:∀ {r:List V} {x y:Int} {xs:List TV},mmI m k x r=some y->tvsR h r xs->mmL m (.int k x) (xs.map some)=some (.int k y):=by
 intro r
 induction r with
 | nil=>intro x y xs hm hx; obtain rfl:=q3x hx; obtain rfl:=Option.some.inj hm; rfl
 | cons v r ih=>
  intro x y xs hm hx
  obtain ⟨x1,ys,rfl,h1,h2⟩:=q1g hx
  cases v with
  | x t c=>
   cases t with
   | i k'=>
    simp only [mmI]at hm
    by_cases hk:k'=k
    ·subst hk
     simp only [decide_true,cond_true]at hm
     obtain rfl:=tvR_i h1
     have:=ih hm h2
     cases m <;> simpa [mmL,mm2]using this
    ·simp [hk]at hm
   | _=>simp [mmI]at hm
  | _=>simp [mmI]at hm
theorem q40{α:Type}:∀(l:List α),q0t (l.map some)=some l:=by
 intro l
 induction l with
 | nil=>rfl
 | cons a l ih=>simp [q0t,ih]
theorem qps{kind:Nat}{v w:V}{x:TV}{neg:Bool}{c:Call}{nx:Nat}(hx:tvR h v x)(ha:alv h v=true)(hn:nilV h kind v=some w):
  ∃y,ev1 c (.eqNil kind neg) [some x] h1 nx=some (y, [], [],nx)/\tvR h (bif neg then negV w else w) y/\okV n h (bif neg then negV w else w):=by
 have kb:∀b,tvR h (.kb b) (tB b):=λb=>q0e (q0v rfl rfl)
 have xb:∀b,tvR h (.x .b b) (tB b):=λb=>q0e (q0v rfl ⟨rfl,rfl⟩)
 have sl:∀q,slV h v=some q->(bif kind == 0 then (match slV h v with | some ⟨_,s,_⟩=>some (.x .b s.isNil) | none=>none)else none)=some w->
   ∃y,ev1 c (.eqNil kind neg) [some x] h1 nx=some (y, [], [],nx)/\tvR h (bif neg then negV w else w) y/\okV n h (bif neg then negV w else w):=by
  intro q hq hw
  cases hkk:kind == 0 with
  | false=>rw [hkk]at hw; simp at hw
  | true=>
   obtain rfl:kind=0:=by simpa using hkk
   rw [hq]at hw
   simp only [hkk,cond_true]at hw
   obtain rfl:=Option.some.inj hw
   refine ⟨_,qvt hx ha hq, ?_⟩
   cases neg
   ·exact ⟨xb _,trivial⟩
   ·exact ⟨xb _,trivial⟩
 cases v with
 | nl k=>
  simp only [nilV]at hn
  cases hkk:(k == kind) && Nat.blt k 3 with
  | false=>rw [hkk]at hn; simp at hn
  | true=>
   rw [hkk,cond_true]at hn
   obtain rfl:=Option.some.inj hn
   simp only [Bool.and_eq_true,beq_iff_eq]at hkk
   obtain ⟨rfl,hlt⟩:=hkk
   have hlt:k < 3:=Nat.le_of_ble_eq_true hlt
   rw [qcz hx]
   match k,hlt with
   | 0,_=>cases neg <;> exact ⟨_,rfl,kb _,trivial⟩
   | 1,_=>cases neg <;> exact ⟨_,rfl,kb _,trivial⟩
   | 2,_=>cases neg <;> exact ⟨_,rfl,kb _,trivial⟩
 | pt t v=>
  simp only [nilV]at hn
  cases hkk:kind == 1 with
  | false=>rw [hkk]at hn; simp at hn
  | true=>
   rw [hkk,cond_true]at hn
   obtain rfl:=Option.some.inj hn
   obtain rfl:kind=1:=by simpa using hkk
   rw [(qfq hx).2]
   cases neg <;> exact ⟨_,rfl,kb _,trivial⟩
 | op id t p=>
  simp only [nilV]at hn
  cases hkk:kind == 1 with
  | false=>rw [hkk]at hn; simp at hn
  | true=>
   rw [hkk,cond_true]at hn
   obtain rfl:=Option.some.inj hn
   obtain rfl:kind=1:=by simpa using hkk
   rw [qcy hx]
   cases neg <;> exact ⟨_,rfl,kb _,trivial⟩
 | ep id m t p=>
  simp only [nilV]at hn
  cases hkk:kind == 1 with
  | false=>rw [hkk]at hn; simp at hn
  | true=>
   rw [hkk,cond_true]at hn
   obtain rfl:=Option.some.inj hn
   obtain rfl:kind=1:=by simpa using hkk
   rw [q9z hx]
   cases neg <;> exact ⟨_,rfl,kb _,trivial⟩
 | fn z f l=>
  simp only [nilV]at hn
  cases hkk:kind == 2 with
  | false=>rw [hkk]at hn; simp at hn
  | true=>
   rw [hkk,cond_true]at hn
   obtain rfl:=Option.some.inj hn
   obtain rfl:kind=2:=by simpa using hkk
   rcases qnv hx with ⟨_,ds,_,rfl⟩ | ⟨_,cs,_,rfl⟩ <;> (cases neg <;> exact ⟨_,rfl,kb _,trivial⟩)
 | x t v=>
  cases hq:slV h (.x t v)with
  | none=>simp [nilV,hq]at hn
  | some q=>exact sl q hq hn
 | so id=>
  cases hq:slV h (.so id)with
  | none=>simp [nilV,hq]at hn
  | some q=>exact sl q hq hn
 | sb id ver lo t r=>
  cases hq:slV h (.sb id ver lo t r)with
  | none=>simp [nilV,hq]at hn
  | some q=>exact sl q hq hn
 | _=>simp [nilV,slV]at hn
theorem qrc{off m i:Nat}{v w:V}{x:TV}{c:Call}{nx:Nat}(hx:tvR h v x)(hk:okV n h v)(hw:fldA off m i v=some w):
  ∃y,ev1 c (.fieldAddr off m) [some x] h1 nx=some (y, [], [],nx)/\tvR h w y/\okV n h w:=by
 have path:∀(t u a:Ty) (p:Path),tyP t p=some (.st u)->fdT u i=some a->okP t p->okP t (p++ [.fd i])/\ofP t (p++ [.fd i])=ofP t p+foT u i:=by
  intro t u a p
  induction p generalizing t with
  | nil=>
   intro h1 h2 _
   have e:tyP t []=some t:=by cases t <;> rfl
   obtain rfl:t= .st u:=by rw [e]at h1; exact Option.some.inj h1
   refine ⟨⟨a,h2,by cases a <;> trivial⟩, ?_⟩
   simp only [List.nil_append,ofP,h2]
   cases a <;> simp [ofP]
  | cons q p ih=>
   intro h1 h2 h3
   cases q with
   | fd j=>
    cases t with
    | st t=>
     obtain ⟨b2,hb,h3⟩:=h3
     simp only [tyP,hb]at h1
     obtain ⟨q1,q2⟩:=ih b2 h1 h2 h3
     refine ⟨⟨b2,hb,q1⟩, ?_⟩
     simp only [List.cons_append,ofP,hb,q2]; exact (Nat.add_assoc _ _ _).symm
    | _=>exact h3.elim
   | ix k=>
    cases t with
    | ar l t=>
     obtain ⟨hk,h3⟩:=h3
     obtain ⟨q1,q2⟩:=ih t h1 h2 h3
     refine ⟨⟨hk,q1⟩, ?_⟩
     simp only [List.cons_append,ofP,q2]; exact (Nat.add_assoc _ _ _).symm
    | _=>exact h3.elim
 cases v with
 | op id t p=>
  simp only [fldA]at hw
  split at hw
  ·rename_i u hu
   split at hw
   ·rename_i a hf
    cases hq:(foT u i == off) && (szT a == m)with
    | false=>rw [hq]at hw; simp at hw
    | true=>
     rw [hq,cond_true]at hw
     obtain rfl:=Option.some.inj hw
     simp only [Bool.and_eq_true,beq_iff_eq]at hq
     obtain ⟨q1,q2⟩:=path t u a p hu hf hk.2
     rw [qcy hx]
     refine ⟨_,rfl,q0e (q0v rfl ?_),hk.1,q1⟩
     show [_]= [_]
     rw [q2,hq.1]
   ·simp at hw
  ·simp at hw
 | ep id k t p=>
  simp only [fldA]at hw
  split at hw
  ·rename_i u hu
   split at hw
   ·rename_i a hf
    cases hq:(foT u i == off) && (szT a == m)with
    | false=>rw [hq]at hw; simp at hw
    | true=>
     rw [hq,cond_true]at hw
     obtain rfl:=Option.some.inj hw
     simp only [Bool.and_eq_true,beq_iff_eq]at hq
     obtain ⟨q1,q2⟩:=path t u a p hu hf hk.2.1
     rw [q9z hx]
     refine ⟨_,rfl,q0e (q0v rfl ?_),hk.1,q1,hk.2.2⟩
     show [_]= [_]
     rw [q2,hq.1]
   ·simp at hw
  ·simp at hw
 | pt t v=>
  cases t with
  | st u=>
   simp only [fldA]at hw
   split at hw
   ·rename_i a y hy
    cases hq:(foT u i == off) && (szT a == m)with
    | false=>rw [hq]at hw; simp at hw
    | true=>
     rw [hq,cond_true]at hw
     obtain rfl:=Option.some.inj hw
     simp only [Bool.and_eq_true,beq_iff_eq]at hq
     obtain ⟨a',y',e,f1,f2,f3⟩:=q6v _ _ _ _ hy
     cases e
     obtain ⟨hd,rfl⟩:=qfq hx
     refine ⟨_, ?_,q0e (q0v (c:= .d (.pt (encE a y))) rfl ⟨qg2 u _ _ hd f1,rfl⟩),trivial⟩
     have hle:off+m<=(encE (.st u) v).length:=by rw [q05]; show _<=szT u; omega
     have e2:((encE (.st u) v).drop off).take m=encE a y:=by rw [<- hq.1,<- hq.2]; exact f3
     simp only [ev1,q2l]
     rw [if_pos hle,e2]
   ·simp at hw
  | _=>simp [fldA]at hw
 | _=>simp [fldA]at hw
theorem qnx:∀(l:V) (i:Nat) (w:V) (cs:List C),celR h l cs->nthV l i=some w->∃cw,celR h w cw/\foV l i+szV w<=cs.length/\(cs.drop (foV l i)).take (szV w)=cw:=by
 intro l
 induction l with
 | co a r iha ihr=>
  intro i w cs hv hw
  obtain ⟨x,y,rfl,k1,k2⟩:=hv
  have hl:=q1s k1
  cases i with
  | zero=>
   obtain rfl:=Option.some.inj hw
   refine ⟨x,k1,by simp [foV]; omega, ?_⟩
   simp only [foV,List.drop_zero]
   rw [<- hl,List.take_left]
  | succ i=>
   obtain ⟨cw,q1,q2,q3⟩:=ihr i w y k2 hw
   refine ⟨cw,q1,by simp only [foV,List.length_append]; omega, ?_⟩
   simp only [foV]
   rw [<- List.drop_drop,<- hl,List.drop_left,q3]
 | _=>intro i w cs hv hw; simp [nthV]at hw
theorem qtr:∀(l:V) (i:Nat) (w:V) (xs:List TV),tvLR h l xs->nthV l i=some w->∃x,xs[i]? =some x/\tv1R h w x:=by
 intro l
 induction l with
 | co a r iha ihr=>
  intro i w xs hv hw
  obtain ⟨x,ys,rfl,k1,k2⟩:=hv
  cases i with
  | zero=>obtain rfl:=Option.some.inj hw; exact ⟨x,rfl,k1⟩
  | succ i=>exact ihr i w ys k2 hw
 | _=>intro i w xs hv hw; simp [nthV]at hw
end
end Go.Ev

namespace Go.Ev
section
variable {h:H2}{n:Nat}{h1:Heap}
def TotR(h:H2)(n:Nat)(h1:Heap)(k:K)(xs:List TV)(v:V)(l:List Nat):Prop:=
 ∀(c:Call) (nx:Nat),∃x ids,ev1 c k (xs.map some) h1 nx=some (x, [],ids,nx)/\tvR h v x/\okV n h v/\∀i∈ids,i∈l
theorem TotR.of{k:K}{xs:List TV}{v:V}{x:TV}(he:∀(c:Call) (nx:Nat),ev1 c k (xs.map some) h1 nx=some (x, [], [],nx))(hx:tvR h v x)(hk:okV n h v):TotR h n h1 k xs v []:=
 λc nx=>⟨x, [],he c nx,hx,hk,λi hi=>by simp at hi⟩
theorem xb(b:Bool):tvR h (.x .b b) (tB b):=q0e (q0v rfl ⟨rfl,rfl⟩)
theorem xi(k:IntKind)(a:Int):tvR h (.x (.i k) a) (tI k a):=q0e (q0v rfl ⟨rfl,rfl⟩)
theorem xs_(a:ByteArray):tvR h (.x .s a) (.c (.d (dS a))):=q0e (q0v rfl ⟨rfl,rfl⟩)
def tvx(t:Ty)(y:El t):TV:=if agT t=true then .agg ((encE t y).map .d)else match encE t y with | d :: _=> .c (.d d) | []=> .tup []
theorem qls{t:Ty}(y:El t){va:Bool}(hv:agT t=va)(h1:(va || szT t == 1)=true):valTV va (encE t y)=some (tvx t y):=by
 subst hv
 unfold valTV tvx
 cases ha:agT t with
 | true=>rfl
 | false=>
  rw [ha]at h1
  have:=q05 t y
  rw [show szT t=1 by simpa using h1]at this
  cases he:encE t y with
  | nil=>rw [he]at this; simp at this
  | cons d r=>
   rw [he]at this
   have:r= []:=by simpa using this
   subst this; rfl
theorem tvx_1{t:Ty}{y:El t}(hd:dat t=true)(h1:(agT t || szT t == 1)=true):tv1R h (.x t y) (tvx t y):=by
 unfold tvx
 cases ha:agT t with
 | true=>exact qew ha ⟨hd,rfl⟩
 | false=>
  rw [ha]at h1
  have:=q05 t y
  rw [show szT t=1 by simpa using h1]at this
  cases he:encE t y with
  | nil=>rw [he]at this; simp at this
  | cons d r=>
   rw [he]at this
   have:r= []:=by simpa using this
   subst this
   exact q0v ha ⟨hd,by rw [he]; rfl⟩
theorem qoi(f:TV->Option C)(hf:∀c,f (.c c)=some c):∀(cs:List C),q0t ((cs.map TV.c).map f)=some cs:=by
 intro cs
 induction cs with
 | nil=>rfl
 | cons c cs ih=>simp only [List.map_cons,hf,q0t,ih]
theorem qch:∀(l:List Value),q47 (l.map λv=>C.d (.lit v))=some l:=by
 intro l
 induction l with
 | nil=>rfl
 | cons v l ih=>simp [q47,ih]
theorem qja{kt:Ty}{ks:List Kd}{v:V}{x:TV}{y:El kt}{ka:Bool}(hx:tvR h v x)(hc:cst kt v=some y)(hk:kdT kt=some ks)(ha:agT kt=ka):keyTV ka ks x=some (vlE kt y):=by
 obtain ⟨h1,h2,_,h4⟩:=qe3 kt ks hk
 obtain ⟨g1,g2⟩:=qbo hx hc
 cases ka with
 | true=>
  rw [g1 ha]
  have e:(encE kt y).map C.d=(vlE kt y).map λv=>C.d (.lit v):=by rw [h1 y,List.map_map]; rfl
  simp only [keyTV]
  rw [if_pos ⟨trivial,by rw [List.length_map,q05,h4]⟩,e,qch]
  simp only [h2 y,if_true]
 | false=>
  obtain ⟨d,hd,rfl⟩:=g2 ha
  have hl:=q05 kt y
  rw [hd]at hl
  have h5:=h1 y
  rw [hd]at h5
  cases hv:vlE kt y with
  | nil=>rw [hv]at h5; simp at h5
  | cons q r=>
   rw [hv]at h5
   simp only [List.map_cons,List.cons.injEq]at h5
   obtain ⟨rfl,h6⟩:=h5
   have:r= []:=by simpa using h6.symm
   subst this
   simp only [keyTV]
   rw [if_pos ⟨trivial,by rw [h4,<- hl]; rfl⟩]
   have h7:=h2 y
   rw [hv]at h7
   simp only [q47,h7,if_true]
theorem qqt{v:V}{q:(k:Ty)×(v:Ty)×Mp (El k) (El v)×List Nat}{x:TV}(hr:HR n h1 h)(hm:mapV h v=some q)(hx:tvR h v x):
  ∃id,v= .om id/\x= .c (.om id)/\q.2.2.2= [id]/\fO h id=some (.mp q.1 q.2.1 q.2.2.1)/\look h1 id=mpO (agT q.1) (agT q.2.1) (vlE q.1) (encE q.2.1) q.2.2.1:=by
 cases v with
 | om id=>
  simp only [mapV]at hm
  split at hm
  ·rename_i k v m ho
   obtain rfl:=Option.some.inj hm
   exact ⟨id,rfl,qng hx,rfl,ho,(hr.ob id _ ho).2.1.2.2⟩
  ·simp at hm
 | _=>simp [mapV]at hm
theorem qqo{c:Call}{x y:TV}{H:Heap}{l:List Nat}{nx:Nat}(h:ev1 c (.load false 1) [some x] H nx=some (y, [],l,nx)):ev1 c .loadN [some x] H nx=some (y, [],l,nx):=by
 cases x with
 | c p=>
  have h:(match q20 false 1 p H with | some (v,ids)=>some (v,([]:Upd),ids,nx) | none=>none)=some (y, [],l,nx):=h
  show (match q20 false 1 p H with | some (v,ids)=>some (v,([]:Upd),ids,nx) | none=>q3o false 1 p H nx)=some (y, [],l,nx)
  split at h
  ·exact h
  ·cases h
 | _=>cases h
theorem qmy{o:OP}{vs:List V}{v:V}{l:List Nat}{xs:List TV}(hr:HR n h1 h)(ht:tot o vs h=some (v,l))(hx:tvsR h vs xs)(hk:∀w∈vs,okV n h w)(ha:∀w∈vs,alv h w=true)
  (hp:posC o.o.args=true->∀a k b,vs= [a, .x (.i k) b]->0 < b):TotR h n h1 o.o.k xs v l:=by
 obtain ⟨⟨d,k,args,g⟩,t,fi⟩:=o
 simp only at hp ⊢
 unfold tot at ht
 simp only at ht
 split at ht
 ·-- mv
  obtain ⟨rfl,rfl⟩:=Prod.mk.inj (Option.some.inj ht)
  obtain ⟨x,rfl,h2⟩:=q2p hx
  exact .of (λ_ _=>rfl) h2 (hk _ (by simp))
 ·-- nilCheck
  obtain ⟨x,rfl,h2⟩:=q2p hx
  have hk1:=hk _ (List.mem_singleton.2 rfl)
  split at ht
  ·obtain ⟨rfl,rfl⟩:=Prod.mk.inj (Option.some.inj ht); exact .of (λ_ _=>by rw [(qfq h2).2]; rfl) h2 hk1
  ·obtain ⟨rfl,rfl⟩:=Prod.mk.inj (Option.some.inj ht)
   refine .of (λ_ _=> ?_) h2 hk1
   rcases qnv h2 with ⟨_,ds,_,rfl⟩ | ⟨_,cs,_,rfl⟩ <;> rfl
  ·obtain ⟨rfl,rfl⟩:=Prod.mk.inj (Option.some.inj ht); exact .of (λ_ _=>by rw [q9z h2]; rfl) h2 hk1
  ·obtain ⟨rfl,rfl⟩:=Prod.mk.inj (Option.some.inj ht); exact .of (λ_ _=>by rw [qcy h2]; rfl) h2 hk1
  ·simp at ht
 ·-- bin int
  rename_i op q a q' b
  obtain ⟨x,y,rfl,h2,h3⟩:=q2t hx
  obtain rfl:=tvR_i h2
  obtain rfl:=tvR_i h3
  split at ht
  ·rename_i w hw
   obtain ⟨rfl,rfl⟩:=Prod.mk.inj (Option.some.inj ht)
   obtain ⟨y,h4,h5,h6⟩:=qp6 (h:=h) (n:=n) hw λhz=>hp hz _ _ _ rfl
   exact .of (λ_ _=>by simp only [List.map,ev1,h4]) h5 h6
  ·simp at ht
 ·-- bin string
  obtain ⟨x,y,rfl,h2,h3⟩:=q2t hx
  obtain rfl:=tvR_s h2
  obtain rfl:=tvR_s h3
  split at ht
  ·rename_i w hw
   obtain ⟨rfl,rfl⟩:=Prod.mk.inj (Option.some.inj ht)
   obtain ⟨y,h4,h5,h6⟩:=qlt (h:=h) (n:=n) hw
   exact .of (λ_ _=>by simp only [List.map,ev1,h4]) h5 h6
  ·simp at ht
 ·-- eqBool
  rename_i neg v1 v2
  obtain ⟨x,y,rfl,h2,h3⟩:=q2t hx
  split at ht
  ·rename_i a b ha' hb'
   obtain ⟨rfl,rfl⟩:=Prod.mk.inj (Option.some.inj ht)
   rw [cst_b h2 ha',cst_b h3 hb']
   refine .of (x:=tB (bif neg then !(a == b)else a == b)) (λ_ _=> ?_) (xb _) trivial
   cases neg <;> rfl
  ·simp at ht
 ·-- eqNil
  obtain ⟨x,rfl,h2⟩:=q2p hx
  split at ht
  ·rename_i w hw
   obtain ⟨rfl,rfl⟩:=Prod.mk.inj (Option.some.inj ht)
   intro c nx
   obtain ⟨y,h4,h5,h6⟩:=qps (n:=n) (h1:=h1) (c:=c) (nx:=nx) h2 (ha _ (by simp)) hw
   exact ⟨y, [],h4,h5,h6,λi hi=>by simp at hi⟩
  ·simp at ht
 ·-- eqAgg
  rename_i neg ks t1 a w
  obtain ⟨x,y,rfl,h2,h3⟩:=q2t hx
  split at ht
  ·rename_i b hb
   cases hq:agT t1 && decide (kdT t1=some ks)with
   | false=>rw [hq]at ht; simp at ht
   | true=>
    rw [hq,cond_true]at ht
    obtain ⟨rfl,rfl⟩:=Prod.mk.inj (Option.some.inj ht)
    simp only [Bool.and_eq_true,decide_eq_true_eq]at hq
    obtain ⟨k1,k2,k3,k4⟩:=qe3 t1 ks hq.2
    have e1:=(qbo (v:= .x t1 a) (u:=t1) (y:=a) h2 (by simp [cst,castG,castV,castE])).1 hq.1
    have e2:=(qbo h3 hb).1 hq.1
    have el:∀z:El t1,q47 ((encE t1 z).map C.d)=some (vlE t1 z):=λz=>by
     rw [show (encE t1 z).map C.d=(vlE t1 z).map λv=>C.d (.lit v) by rw [k1 z,List.map_map]; rfl,qch]
    rw [e1,e2]
    refine .of (x:=tB (bif neg then !(decide (a=b))else decide (a=b))) (λ_ _=> ?_) (xb _) trivial
    simp only [List.map,ev1,el,k3]
    cases neg <;> rfl
  ·simp at ht
 ·obtain ⟨rfl,rfl⟩:=Prod.mk.inj (Option.some.inj ht)
  obtain ⟨x,rfl,h2⟩:=q2p hx
  rw [qcf h2]
  exact .of (λ_ _=>rfl) (q0e (q0v rfl rfl)) trivial
 ·obtain ⟨rfl,rfl⟩:=Prod.mk.inj (Option.some.inj ht)
  obtain ⟨x,rfl,h2⟩:=q2p hx
  rw [tvR_b h2]
  exact .of (λ_ _=>rfl) (xb _) trivial
 ·obtain ⟨rfl,rfl⟩:=Prod.mk.inj (Option.some.inj ht)
  obtain ⟨x,rfl,h2⟩:=q2p hx
  rw [tvR_i h2]
  exact .of (λ_ _=>rfl) (xi _ _) trivial
 ·obtain ⟨rfl,rfl⟩:=Prod.mk.inj (Option.some.inj ht)
  obtain ⟨x,rfl,h2⟩:=q2p hx
  rw [tvR_i h2]
  exact .of (λ_ _=>rfl) (xi _ _) trivial
 ·obtain ⟨rfl,rfl⟩:=Prod.mk.inj (Option.some.inj ht)
  obtain ⟨x,rfl,h2⟩:=q2p hx
  rw [tvR_i h2]
  exact .of (λ_ _=>rfl) (xi _ _) trivial
 ·obtain ⟨rfl,rfl⟩:=Prod.mk.inj (Option.some.inj ht)
  obtain ⟨x,rfl,h2⟩:=q2p hx
  rw [tvR_s h2]
  exact .of (λ_ _=>rfl) (xs_ _) trivial
 ·-- mkFn
  rename_i f
  cases hc:vs.all capB with
  | false=>rw [hc]at ht; simp at ht
  | true=>
   rw [hc,cond_true]at ht
   obtain ⟨rfl,rfl⟩:=Prod.mk.inj (Option.some.inj ht)
   obtain ⟨cs,h2,rfl⟩:=qrl hx λw hw=>by
    have:=List.all_eq_true.1 hc w hw
    cases w <;> first | exact ⟨trivial,by simp [capB]at this; exact this⟩ | simp [capB]at this
   refine .of (x:= .c (.ofn f cs)) (λ_ _=> ?_) (q0e (q0v rfl ⟨cs,h2,rfl⟩)) ?_
   ·simp only [ev1,q40]
    rw [qoi _ λ_=>rfl]
   ·clear ht h2 hp ha hc hx
    induction vs with
    | nil=>trivial
    | cons w vs ih=>exact ⟨hk w (by simp),ih λu hu=>hk u (by simp [hu])⟩
 ·-- load
  rename_i g m p
  obtain ⟨x,rfl,h2⟩:=q2p hx
  split at ht
  ·rename_i w l' hl
   cases hc:chk h g m w with
   | false=>rw [hc]at ht; simp at ht
   | true=>
    rw [hc,cond_true]at ht
    obtain ⟨rfl,rfl⟩:=Prod.mk.inj (Option.some.inj ht)
    intro c nx
    obtain ⟨y,h3,h4,h5⟩:=qaz (c:=c) (nx:=nx) hr hl hc h2 (hk _ (by simp))
    exact ⟨y,_,h3,h4,h5,λi hi=>hi⟩
  ·simp at ht
 ·-- load of a slice
  obtain ⟨x,rfl,h2⟩:=q2p hx
  split at ht
  ·rename_i w l' hl
   cases hc:chk h false 1 w with
   | false=>rw [hc]at ht; simp at ht
   | true=>
    rw [hc,cond_true]at ht
    obtain ⟨rfl,rfl⟩:=Prod.mk.inj (Option.some.inj ht)
    intro c nx
    obtain ⟨y,h3,h4,h5⟩:=qaz (c:=c) (nx:=nx) hr hl hc h2 (hk _ (by simp))
    exact ⟨y,_,qqo h3,h4,h5,λi hi=>hi⟩
  ·simp at ht
 ·-- fieldAddr
  obtain ⟨x,rfl,h2⟩:=q2p hx
  split at ht
  ·split at ht
   ·rename_i w hw
    obtain ⟨rfl,rfl⟩:=Prod.mk.inj (Option.some.inj ht)
    intro c nx
    obtain ⟨y,h3,h4,h5⟩:=qrc (h1:=h1) (c:=c) (nx:=nx) h2 (hk _ (by simp)) hw
    exact ⟨y, [],h3,h4,h5,λi hi=>by simp at hi⟩
   ·simp at ht
  ·simp at ht
 ·-- field of data
  rename_i g off m u y
  obtain ⟨x,rfl,h2⟩:=q2p hx
  split at ht
  ·split at ht
   ·rename_i i _ w hw
    cases hc:(foT u i == off) && chk h g m w with
    | false=>rw [hc]at ht; simp at ht
    | true=>
     rw [hc,cond_true]at ht
     obtain ⟨rfl,rfl⟩:=Prod.mk.inj (Option.some.inj ht)
     simp only [Bool.and_eq_true,beq_iff_eq]at hc
     obtain ⟨a,z,rfl,f1,f2,f3⟩:=q6v _ _ _ _ hw
     obtain ⟨cs,⟨hd,rfl⟩,g1,_⟩:=tvR_1 (v:= .x (.st u) y) trivial h2
     have hd':dat u=true:=hd
     obtain ⟨_,hs,_,_⟩:=q58 hc.2
     have hs:szT a=m:=hs
     obtain ⟨q,h3,h4⟩:=q6e (cs:=(encE u y).map C.d) (off:=off) hc.2 (show celR h (.x a z) ((encE a z).map .d) from ⟨qg2 u _ _ hd' f1,rfl⟩) (by simp [q05]; omega)
      (by rw [<- hc.1,<- hs,<- f3,List.map_take,List.map_drop])
     rw [g1 rfl]
     exact .of (x:=q) (λ_ _=>by
      show (match ldC g m (((encE u y).map C.d).drop off)with | some v=>some (v,([]:Upd),([]:List Nat),_) | none=>none)=_
      rw [h3]) h4 trivial
   ·simp at ht
  ·simp at ht
 ·-- field of a row
  rename_i g off m u
  obtain ⟨x,rfl,h2⟩:=q2p hx
  split at ht
  ·split at ht
   ·rename_i i _ w hw
    cases hc:(foV u i == off) && chk h g m w with
    | false=>rw [hc]at ht; simp at ht
    | true=>
     rw [hc,cond_true]at ht
     obtain ⟨rfl,rfl⟩:=Prod.mk.inj (Option.some.inj ht)
     simp only [Bool.and_eq_true,beq_iff_eq]at hc
     obtain ⟨cs,hcs,g1,_⟩:=tvR_1 (v:= .rc u) trivial h2
     obtain ⟨cw,q1,q2,q3⟩:=qnx u i w cs hcs hw
     obtain ⟨_,hs,_,_⟩:=q58 hc.2
     obtain ⟨q,h3,h4⟩:=q6e (off:=off) hc.2 q1 (by rw [<- hc.1,<- hs]; exact q2) (by rw [<- hc.1,<- hs]; exact q3)
     rw [g1 rfl]
     exact .of (x:=q) (λ_ _=>by
      show (match ldC g m (cs.drop off)with | some v=>some (v,([]:Upd),([]:List Nat),_) | none=>none)=_
      rw [h3]) h4 (qd9 u i w (hk (.rc u) (List.mem_singleton.2 rfl)) hw)
   ·simp at ht
  ·simp at ht
 ·-- extract
  rename_i i u
  obtain ⟨x,rfl,h2⟩:=q2p hx
  split at ht
  ·rename_i w hw
   obtain ⟨rfl,rfl⟩:=Prod.mk.inj (Option.some.inj ht)
   obtain ⟨ys,rfl,h3⟩:=qvw h2
   obtain ⟨y,h4,h5⟩:=qtr u i w ys h3 hw
   exact .of (x:=y) (λ_ _=>by simp only [List.map,ev1,h4]) (q0e h5) (qd9 u i w (hk (.tp u) (List.mem_singleton.2 rfl)) hw)
  ·simp at ht
 ·obtain ⟨rfl,rfl⟩:=Prod.mk.inj (Option.some.inj ht)
  obtain ⟨x,rfl,h2⟩:=q2p hx
  rw [tvR_s h2]
  exact .of (λ_ _=>rfl) (xi _ _) trivial
 ·obtain ⟨rfl,rfl⟩:=Prod.mk.inj (Option.some.inj ht)
  obtain ⟨x,rfl,h2⟩:=q2p hx
  rw [qcz h2]
  exact .of (λ_ _=>rfl) (xi _ _) trivial
 ·-- len of a row of rows
  obtain ⟨x,rfl,h2⟩:=q2p hx
  split at ht
  ·rename_i t' s' ln hq
   obtain ⟨rfl,rfl⟩:=Prod.mk.inj (Option.some.inj ht)
   exact .of (λ_ _=>by rw [qs1 h2 (q9y hq)]; exact len_c) (xi _ _) trivial
  ·simp at ht
 ·-- len
  obtain ⟨x,rfl,h2⟩:=q2p hx
  split at ht
  ·rename_i q t' s' l' hq
   obtain ⟨rfl,rfl⟩:=Prod.mk.inj (Option.some.inj ht)
   exact .of (λ_ _=>qwa h2 (ha _ (by simp)) hq) (xi _ _) trivial
  ·simp at ht
 ·-- minmax
  rename_i m k' x r
  obtain ⟨x1,ys,rfl,h2,h3⟩:=q1g hx
  split at ht
  ·rename_i y hy
   obtain ⟨rfl,rfl⟩:=Prod.mk.inj (Option.some.inj ht)
   obtain rfl:=tvR_i h2
   exact .of (x:=lv (.int k' y)) (λ_ _=>by simp only [List.map,ev1,qqb hy h3]) (xi _ _) trivial
  ·simp at ht
 ·-- build
  rename_i z ps
  cases hc:vsEq (zeL t) z && agT t && fitV (zeV t) false t with
  | false=>rw [hc]at ht; simp at ht
  | true=>
   rw [hc,cond_true]at ht
   simp only [Bool.and_eq_true]at hc
   split at ht
   ·rename_i w hw
    obtain ⟨rfl,rfl⟩:=Prod.mk.inj (Option.some.inj ht)
    obtain ⟨z1,z2⟩:=(qe9 (h:=h) (n:=n) t).1 hc.2
    obtain ⟨cs,b1,b2,b3,b4⟩:=qph fi ps vs (zeV t) w _ xs hw hc.2 z1 z2 hx hk
    rw [q82 hc.1.1]at b1
    exact .of (x:= .agg cs) (λ_ _=>by simp only [ev1,q40,b1]) (q0e (qew (qvu b4 hc.1.2) b2)) b3
   ·simp at ht
 ·-- lookup
  rename_i ka ks va z ok m kv
  obtain ⟨x,y,rfl,h2,h3⟩:=q2t hx
  split at ht
  ·rename_i kt vt mp l' hq
   split at ht
   ·rename_i key hkey
    cases hc:(agT kt == ka) && (agT vt == va) && decide (kdT kt=some ks) && vsEq (zeL vt) z && dat vt && (va || szT vt == 1)with
    | false=>rw [hc]at ht; simp at ht
    | true=>
     rw [hc,cond_true]at ht
     simp only [Bool.and_eq_true,beq_iff_eq,decide_eq_true_eq]at hc
     obtain ⟨⟨⟨⟨⟨c1,c2⟩,c3⟩,c4⟩,c5⟩,c6⟩:=hc
     obtain ⟨id,rfl,rfl,e1,e2,e3⟩:=qqt hr hq h2
     have e1:l'= [id]:=e1
     subst e1
     obtain ⟨_,_,k3,_⟩:=qe3 kt ks c3
     have hz:litsD z=encE vt (zeE vt):=by rw [q8d vt c5,q82 c4]
     have hv:∀y,valTV va (encE vt y)=some (tvx vt y):=λy=>qls y c2 c6
     have hkt:=qja h3 hkey c3 c1
     rw [c1,c2]at e3
     rw [<- c2]at c6
     cases ok with
     | false=>
      simp only [cond_false]at ht
      obtain ⟨rfl,rfl⟩:=Prod.mk.inj (Option.some.inj ht)
      exact λc nx=>⟨_, [id],qw3 (z:=zeE vt) e3 hkt k3 hz hv,q0e (tvx_1 c5 c6),trivial,λi hi=>hi⟩
     | true=>
      simp only [cond_true]at ht
      obtain ⟨rfl,rfl⟩:=Prod.mk.inj (Option.some.inj ht)
      exact λc nx=>⟨_, [id],qu5 (z:=zeE vt) e3 hkt k3 hz hv,⟨_,rfl,_,_,rfl,tvx_1 c5 c6,_,_,rfl,q0v rfl ⟨rfl,rfl⟩,rfl⟩,⟨trivial,trivial,trivial⟩,λi hi=>hi⟩
   ·simp at ht
  ·simp at ht
 ·simp at ht
end
end Go.Ev

namespace Go.Ev
section
variable {h:H2}{n:Nat}{h1:Heap}
theorem q0g(id:Nat)(o:Option O)(h:H2)(i:Nat):fO ((id,o) :: h) i=if id=i then o else fO h i:=by
 simp only [fO,fnd]
 by_cases e:id=i
 ·subst e; simp
 ·have e':(id == i)=false:=by simpa using e
  simp [e,e']
theorem q0i(id:Nat)(o:Option Ob)(h:Heap)(i:Nat):look ((id,o) :: h) i=if id=i then o else look h i:=by
 simp only [look,fnd]
 by_cases e:id=i
 ·subst e; simp
 ·have e':(id == i)=false:=by simpa using e
  simp [e,e']
theorem HSt.new(o:Option O):HSt n h ((n,o) :: h):=
 ⟨λid o' hi ho=>by rw [q0g,if_neg (by omega)]at ho; exact .inl ⟨o',ho,OSt.refl _⟩⟩
theorem HSt.upd{id:Nat}{o o':O}(ho:fO h id=some o)(hs:OSt o o'):HSt n h ((id,some o') :: h):=
 ⟨λi o2 hi h2=>by
  rw [q0g]at h2
  split at h2
  ·rename_i e; subst e; obtain rfl:=Option.some.inj h2; exact .inl ⟨o,ho,hs⟩
  ·exact .inl ⟨o2,h2,OSt.refl _⟩⟩
theorem HSt.kill(id:Nat):HSt n h ((id,none) :: h):=
 ⟨λi o2 hi h2=>by
  rw [q0g]at h2
  split at h2
  ·simp at h2
  ·exact .inl ⟨o2,h2,OSt.refl _⟩⟩
theorem HR.upd{n' id:Nat}{o:Option O}{u:Upd}(hr:HR n h1 h)(hn:n<=n')(hi:id < n')(hs:HSt n h ((id,o) :: h))(hu:∀i,i≠id->look (u++h1) i=look h1 i)
  (ho:∀o',o=some o'->obR ((id,o) :: h) o' (look (u++h1) id)/\okO n' ((id,o) :: h) o'):HR n' (u++h1) ((id,o) :: h):=by
 refine ⟨λi o' h2=> ?_⟩
 rw [q0g]at h2
 split at h2
 ·rename_i e; subst e; exact ⟨hi,ho o' h2⟩
 ·rename_i e
  obtain ⟨q1,q2,q3⟩:=hr.ob i o' h2
  refine ⟨by omega, ?_,q5c hn hs q3⟩
  rw [hu i λe'=>e e'.symm]
  exact q5v hs q3 q2
theorem HR.mono{n':Nat}(hr:HR n h1 h)(hn:n<=n'):HR n' h1 h:=
 ⟨λi o ho=>let ⟨a,b,c⟩:=hr.ob i o ho; ⟨by omega,b,q5c hn (HSt.refl n h) c⟩⟩
theorem HR.ext{h1':Heap}(hr:HR n h1 h)(he:∀i,look h1' i=look h1 i):HR n h1' h:=⟨λi o ho=>by rw [he]; exact hr.ob i o ho⟩
structure Did (s s':S2) (h1:Heap) (x:TV) (u:Upd) (ids:List Nat) (m:Nat) (v:V) (l:List Nat):Prop where
 val:tvR s'.heap v x
 okv:okV s'.next s'.heap v
 hr:HR s'.next (u++h1) s'.heap
 hst:HSt s.next s.heap s'.heap
 env:s'.env=s.env
 gh:s'.gh=s.gh
 m:m<=s'.next
 le:s.next<=s'.next
 ids:∀i∈ids,i∈l
 nb:∀i,i < s.next->fO s.heap i=none->fO s'.heap i=none
 wo:∃w,s'.wo=w++s.wo/\(∀ p∈u,p.1∈w)/\∀id,id∉w->fO s'.heap id=fO s.heap id
theorem Did.pure{s:S2}{x:TV}{v:V}{ids l:List Nat}(hr:HR s.next h1 s.heap)(hx:tvR s.heap v x)(hk:okV s.next s.heap v)(hl:∀i∈ids,i∈l):Did s s h1 x [] ids s.next v l:=
 ⟨hx,hk,hr,HSt.refl _ _,rfl,rfl,Nat.le_refl _,Nat.le_refl _,hl,λ_ _ h=>h, [],rfl,λp hp=>by simp at hp,λ_ _=>rfl⟩
theorem Did.new{s:S2}{o:O}{b:Option Ob}{u:Upd}{x:TV}{v:V}{ids l:List Nat}{m:Nat}(hr:HR s.next h1 s.heap)(hu:u= [(s.next,b)]\/(u= []/\∀b',obR ((s.next,some o) :: s.heap) o b'))(hb:u= [(s.next,b)]->obR ((s.next,some o) :: s.heap) o b)
  (hko:okO (s.next+1) ((s.next,some o) :: s.heap) o) (hx:tvR ((s.next,some o) :: s.heap) v x) (hk:okV (s.next+1) ((s.next,some o) :: s.heap) v) (hl:∀i∈ids,i∈l) (hm:m<=s.next+1):Did s (newO s o) h1 x u ids m v l:=by
 refine ⟨hx,hk, ?_,HSt.new _,rfl,rfl,hm,Nat.le_succ _,hl,λi hi h=>(by rw [show (newO s o).heap=(s.next,some o) :: s.heap from rfl,q0g,if_neg (by omega)]; exact h), [s.next],rfl, ?_,λid hid=> ?_⟩
 ·refine HR.upd (n':=s.next+1) hr (Nat.le_succ _) (Nat.lt_succ_self _) (HSt.new _) (λi hi=> ?_) λo' ho'=> ?_
  ·rcases hu with rfl | ⟨rfl,_⟩
   ·rw [List.singleton_append,q0i,if_neg λe=>hi e.symm]
   ·rfl
  ·obtain rfl:=Option.some.inj ho'
   refine ⟨?_,hko⟩
   rcases hu with rfl | ⟨rfl,hu⟩
   ·rw [List.singleton_append,q0i,if_pos rfl]; exact hb rfl
   ·exact hu _
 ·intro p hp
  rcases hu with rfl | ⟨rfl,_⟩
  ·obtain rfl:=List.mem_singleton.1 hp; simp
  ·simp at hp
 ·simp only [newO]
  rw [q0g,if_neg λe=>hid (by simp [e])]
theorem Did.upd{s:S2}{id:Nat}{o o':O}{b:Option Ob}{x:TV}{v:V}{ids l:List Nat}(hr:HR s.next h1 s.heap)(ho:fO s.heap id=some o)(hs:OSt o o')(hb:obR ((id,some o') :: s.heap) o' b)(hko:okO s.next ((id,some o') :: s.heap) o')
  (hx:tvR ((id,some o') :: s.heap) v x) (hk:okV s.next ((id,some o') :: s.heap) v) (hl:∀i∈ids,i∈l):Did s (updO s id (some o')) h1 x [(id,b)] ids s.next v l:=by
 refine ⟨hx,hk, ?_,HSt.upd ho hs,rfl,rfl,Nat.le_refl _,Nat.le_refl _,hl,λi _ h=>(by rw [show (updO s id (some o')).heap=(id,some o') :: s.heap from rfl,q0g,if_neg (λe=>by rw [e,h]at ho; cases ho)]; exact h), [id],rfl,λp hp=> ?_,λi hi=> ?_⟩
 ·refine HR.upd hr (Nat.le_refl _) (hr.ob id o ho).1 (HSt.upd ho hs) (λi hi=> ?_) λo2 ho2=> ?_
  ·rw [List.singleton_append,q0i,if_neg λe=>hi e.symm]
  ·obtain rfl:=Option.some.inj ho2
   rw [List.singleton_append,q0i,if_pos rfl]
   exact ⟨hb,hko⟩
 ·obtain rfl:=List.mem_singleton.1 hp; simp
 ·simp only [updO]
  rw [q0g,if_neg λe=>hi (by simp [e])]
def nilO(h:H2)(id:Nat):Prop:=(∃ t v,fO h id=some (.ar t .nil v)\/fO h id=some (.im t .nil v))\/∃t ln,fO h id=some (.rw t .nil ln)
theorem qev{id ver:Nat}{t:Ty}{l:List (El t)}(ho:fO h id=some (.ar t (.mk l) ver)\/fO h id=some (.im t (.mk l) ver)):¬nilO h id:=by
 rintro (⟨u,v',e⟩ | ⟨u,ln,e⟩)
 ·rcases ho with ho | ho <;> rcases e with e | e <;> rw [ho]at e <;> simp at e
  all_goals
   obtain ⟨rfl,e,_⟩:=e
   cases eq_of_heq e
 ·rcases ho with ho | ho <;> rw [ho]at e <;> cases e
theorem qtz{id:Nat}{t:Ty}{l:List (Sl (El t))}{ln:Option (Nat×Nat)}(ho:fO h id=some (.rw t (.mk l) ln)):¬nilO h id:=by
 rintro (⟨u,v',e⟩ | ⟨u,ln',e⟩)
 ·rcases e with e | e <;> rw [ho]at e <;> cases e
 ·rw [ho]at e; cases e
theorem q6r(k:Nat)(x:D):viewC h1 k (.d x)=some (x, []):=by cases k <;> rfl
theorem qeb:∀(ds:List D),q0r h1 (ds.map .d)=some (ds, []):=by
 intro ds
 induction ds with
 | nil=>rfl
 | cons d ds ih=>simp [q0r,q6r,ih]
theorem q5z{a b:List C}{x y:List D}{i j:List Nat}(ha:q0r h1 a=some (x,i))(hb:q0r h1 b=some (y,j)):q0r h1 (a++b)=some (x++y,i++j):=by
 induction a generalizing x i with
 | nil=>obtain ⟨rfl,rfl⟩: []=x/\ []=i:=by simpa [q0r]using ha
        simpa using hb
 | cons c a ih=>
  simp only [q0r]at ha
  split at ha
  ·rename_i p q r s hp hq
   obtain ⟨rfl,rfl⟩:=Prod.mk.inj (Option.some.inj ha)
   simp only [List.cons_append,q0r,hp,ih hq,List.append_assoc]
  ·simp at ha
theorem qig{id sz lo len:Nat}{rows:List (List D)}(k:Nat)(ho:look h1 id=some (.arr sz rows)\/look h1 id=some (.imm sz rows))(hl:lo+len<=rows.length)(szo:Nat):
  viewC h1 k (.osl szo id lo len)=some (.sl szo ((rows.drop lo).take len), [id]):=by
 rcases ho with ho | ho <;> (cases k <;> simp only [viewC,ho,if_pos hl])
theorem qtb{id ver:Nat}{t:Ty}{s:Sl (El t)}(k:Nat)(hr:HR n h1 h)(ho:fO h id=some (.ar t s ver)\/fO h id=some (.im t s ver)):
  ∃ids,viewC h1 k (slC (szT t) (encE t) id s)=some (slD (szT t) (encE t) s,ids)/\(∀ i∈ids,i=id/\¬nilO h i)/\(id∈ids\/nilO h id):=by
 cases s with
 | nil=>exact ⟨[],q6r k _,λi hi=>by simp at hi, .inr (.inl ⟨t,ver,ho⟩)⟩
 | mk l=>
  have hb:look h1 id=some (.arr (szT t) (l.map (encE t)))\/look h1 id=some (.imm (szT t) (l.map (encE t))):=by
   rcases ho with ho | ho
   ·exact .inl ((hr.ob id _ ho).2.1.2.2 l rfl)
   ·exact .inr ((hr.ob id _ ho).2.1.2.2 l rfl)
  refine ⟨[id], ?_,λi hi=>by obtain rfl:=List.mem_singleton.1 hi; exact ⟨rfl,qev ho⟩, .inl (by simp)⟩
  have:=qig (lo:=0) (len:=(l.map (encE t)).length) k hb (by omega) (szT t)
  rw [q99]at this
  exact this
theorem qt7{id ver lo:Nat}{t:Ty}{r:Sl (El t)}(k:Nat)(hr:HR n h1 h)(hk:okV n h (.sb id ver lo t r))(ha:alvB h id ver=true):
  ∃ids,viewC h1 k (sbC id lo t r)=some (slD (szT t) (encE t) r,ids)/\(∀ i∈ids,i=id/\¬nilO h i)/\(id∈ids\/nilO h id):=by
 obtain ⟨u,s,ho⟩:=q3d ha
 obtain ⟨_,hc⟩:=hk.2 u s ver ho
 obtain ⟨hz,hc⟩:=hc rfl
 cases r with
 | nil=>
  cases s with
  | nil=>exact ⟨[],q6r k _,λi hi=>by simp at hi, .inr (.inl ⟨u,ver,ho⟩)⟩
  | mk l=>exact hc.elim
 | mk m=>
  cases s with
  | nil=>exact hc.elim
  | mk l=>
   obtain ⟨hl,he⟩:=hc
   have hb:look h1 id=some (.arr (szT u) (l.map (encE u)))\/look h1 id=some (.imm (szT u) (l.map (encE u))):=by
    rcases ho with ho | ho
    ·exact .inl ((hr.ob id _ ho).2.1.2.2 l rfl)
    ·exact .inr ((hr.ob id _ ho).2.1.2.2 l rfl)
   refine ⟨[id], ?_,λi hi=>by obtain rfl:=List.mem_singleton.1 hi; exact ⟨rfl,qev ho⟩, .inl (by simp)⟩
   have:=qig (lo:=lo) (len:=(m.map (encE t)).length) k hb (by simpa using hl) (szT t)
   rw [show (m.map (encE t)).length=m.length by simp,he]at this
   simpa [sbC,slD]using this
theorem qf9{t:Ty}:∀(l:List (Sl (El t))),q7t (szT t) (l.map (slotV t))=some (l.map (encE (.sl t))):=by
 intro l
 induction l with
 | nil=>rfl
 | cons s l ih=>
  simp only [List.map_cons,q7t,ih]
  cases s <;> rfl
theorem qv2{id:Nat}{t:Ty}{s:Sl (Sl (El t))}(k:Nat)(hr:HR n h1 h)(ho:fO h id=some (.rw t s none)):
  ∃ids,viewC h1 k (slC 1 (encE (.sl t)) id s)=some (slD 1 (encE (.sl t)) s,ids)/\(∀ i∈ids,i=id/\¬nilO h i)/\(id∈ids\/nilO h id):=by
 cases s with
 | nil=>exact ⟨[],q6r k _,λi hi=>by simp at hi, .inr (.inr ⟨t,none,ho⟩)⟩
 | mk l=>
  have hb:=(hr.ob id _ ho).2.1.2.2 l rfl
  refine ⟨[id], ?_,λi hi=>by obtain rfl:=List.mem_singleton.1 hi; exact ⟨rfl,qtz ho⟩, .inl (by simp)⟩
  have e:((l.map (encE (.sl t))).length)=(q0z t l none).length:=by simp [q0z]
  have hs:q7t (szT t) (q0z t l none)=some (l.map (encE (.sl t))):=qf9 l
  cases k <;> simp only [slC,slD,viewC,hb,hs,e,and_self,if_true]
theorem q8g(hr:HR n h1 h):∀(v w:V) (l:List Nat) (cs:List C),frzV h v=some (w,l)->celR h v cs->okV n h v->alv h v=true->
  ∃ds ids,q0r h1 cs=some (ds,ids)/\celR h w (ds.map .d)/\(∀ i∈ids,i∈l/\¬nilO h i)/\(∀ i∈l,i∈ids\/nilO h i)/\(∀ i∈l,i < n/\((∃ t s v,fO h i=some (.ar t s v)\/fO h i=some (.im t s v))\/∃t s,fO h i=some (.rw t s none))):=by
 have done:∀(v:V) (ds:List D),celR h v (ds.map .d)->∃ds' ids,q0r h1 (ds.map .d)=some (ds',ids)/\celR h v (ds'.map .d)/\(∀ i∈ids,i∈([]:List Nat)/\¬nilO h i)/\(∀ i∈([]:List Nat),i∈ids\/nilO h i)/\(∀ i∈([]:List Nat),i < n/\((∃ t s v,fO h i=some (.ar t s v)\/fO h i=some (.im t s v))\/∃t s,fO h i=some (.rw t s none))):=λv ds hv=>
  ⟨ds, [],qeb ds,hv,λi hi=>by simp at hi,λi hi=>by simp at hi,λi hi=>by simp at hi⟩
 intro v
 induction v with
 | so id=>
  intro w l cs hf hv hk ha
  simp only [frzV]at hf
  split at hf
  ·rename_i t s l' hs
   obtain ⟨rfl,rfl⟩:=Prod.mk.inj (Option.some.inj hf)
   obtain ⟨ver,ho,e⟩:=qax hs
   have e:l'= [id]:=e
   subst e
   obtain ⟨c,rfl,hc,_⟩:=hv
   rw [hc _ (q4l ho)]
   obtain ⟨ids,q1,q2,q3⟩:=qtb 300 hr ho
   have hd:dat t=true:=by rcases ho with ho | ho <;> exact (hr.ob id _ ho).2.1.1
   refine ⟨[slD (szT t) (encE t) s],ids,by simp [q0r,q1],⟨hd,rfl⟩,λi hi=>⟨by simpa using (q2 i hi).1,(q2 i hi).1▸(q2 i hi).2⟩,λi hi=> ?_,λi hi=> ?_⟩
   ·obtain rfl:=List.mem_singleton.1 hi; exact q3
   ·obtain rfl:=List.mem_singleton.1 hi
    exact ⟨hk, .inl ⟨t,s,ver,ho⟩⟩
  ·simp at hf
 | sr id=>
  intro w l cs hf hv hk ha
  simp only [frzV]at hf
  split at hf
  ·rename_i t s ho
   obtain ⟨rfl,rfl⟩:=Prod.mk.inj (Option.some.inj hf)
   obtain ⟨c,rfl,hc,_⟩:=hv
   rw [hc _ (by rw [ho]; rfl:srC id (fO h id)=some (slC 1 (encE (.sl t)) id s))]
   obtain ⟨ids,q1,q2,q3⟩:=qv2 300 hr ho
   have hd:dat t=true:=(hr.ob id _ ho).2.1.1
   refine ⟨[slD 1 (encE (.sl t)) s],ids,by simp [q0r,q1],⟨hd,rfl⟩,λi hi=>⟨by simpa using (q2 i hi).1,(q2 i hi).1▸(q2 i hi).2⟩,λi hi=> ?_,λi hi=> ?_⟩
   ·obtain rfl:=List.mem_singleton.1 hi; exact q3
   ·obtain rfl:=List.mem_singleton.1 hi
    exact ⟨hk, .inr ⟨t,s,ho⟩⟩
  ·simp at hf
 | sb id ver lo t r=>
  intro w l cs hf hv hk ha
  simp only [frzV,slV]at hf
  obtain ⟨rfl,rfl⟩:=Prod.mk.inj (Option.some.inj hf)
  obtain ⟨hd,ha⟩:=Bool.and_eq_true_iff.1 ha
  have ha:alvB h id ver=true:=ha
  obtain ⟨c,rfl,hc,_⟩:=hv
  rw [hc ha]
  obtain ⟨ids,q1,q2,q3⟩:=qt7 300 hr hk ha
  obtain ⟨u,s,ho⟩:=q3d ha
  refine ⟨[slD (szT t) (encE t) r],ids,by simp [q0r,q1],⟨?_,rfl⟩,λi hi=>⟨by simpa using (q2 i hi).1,(q2 i hi).1▸(q2 i hi).2⟩,λi hi=> ?_,λi hi=> ?_⟩
  ·exact hd
  ·obtain rfl:=List.mem_singleton.1 hi; exact q3
  ·obtain rfl:=List.mem_singleton.1 hi
   exact ⟨hk.1, .inl ⟨u,s,ver,ho⟩⟩
 | rc r ih=>
  intro w l cs hf hv hk ha
  simp only [frzV]at hf
  split at hf
  ·rename_i w' l' hw
   obtain ⟨rfl,rfl⟩:=Prod.mk.inj (Option.some.inj hf)
   exact ih w' l' cs hw hv hk ha
  ·simp at hf
 | co a r iha ihr=>
  intro w l cs hf hv hk ha
  simp only [frzV]at hf
  split at hf
  ·rename_i x l1 y l2 hx hy
   obtain ⟨rfl,rfl⟩:=Prod.mk.inj (Option.some.inj hf)
   obtain ⟨ca,cr,rfl,h2,h3⟩:=hv
   simp only [alv,Bool.and_eq_true]at ha
   obtain ⟨ds,ids,a1,a2,a3,a4,a5⟩:=iha x l1 ca hx h2 hk.1 ha.1
   obtain ⟨es,jds,b1,b2,b3,b4,b5⟩:=ihr y l2 cr hy h3 hk.2 ha.2
   refine ⟨ds++es,ids++jds,q5z a1 b1,⟨_,_,by simp,a2,b2⟩,λi hi=> ?_,λi hi=> ?_,λi hi=> ?_⟩
   ·rcases List.mem_append.1 hi with hi | hi
    ·exact ⟨List.mem_append_left _ (a3 i hi).1,(a3 i hi).2⟩
    ·exact ⟨List.mem_append_right _ (b3 i hi).1,(b3 i hi).2⟩
   ·rcases List.mem_append.1 hi with hi | hi
    ·exact (a4 i hi).imp (List.mem_append_left _) id
    ·exact (b4 i hi).imp (List.mem_append_right _) id
   ·rcases List.mem_append.1 hi with hi | hi
    ·exact a5 i hi
    ·exact b5 i hi
  ·simp at hf
 | x t v=>
  intro w l cs hf hv hk ha
  obtain ⟨rfl,rfl⟩:=Prod.mk.inj (Option.some.inj hf)
  obtain ⟨hd,rfl⟩:=hv
  exact done _ _ ⟨hd,rfl⟩
 | kb c=>
  intro w l cs hf hv hk ha
  obtain ⟨rfl,rfl⟩:=Prod.mk.inj (Option.some.inj hf)
  obtain rfl:=hv
  exact done (.kb c) [_] rfl
 | nl k=>
  intro w l cs hf hv hk ha
  obtain ⟨rfl,rfl⟩:=Prod.mk.inj (Option.some.inj hf)
  obtain rfl:=hv
  exact done (.nl k) [_] rfl
 | fl q=>
  intro w l cs hf hv hk ha
  obtain ⟨rfl,rfl⟩:=Prod.mk.inj (Option.some.inj hf)
  obtain ⟨hp,rfl⟩:=hv
  have e:lits q=(q.map D.lit).map C.d:=by simp [lits]
  rw [e]
  exact done (.fl q) (q.map D.lit) ⟨hp,e.symm⟩
 | ni=>
  intro w l cs hf hv hk ha
  obtain ⟨rfl,rfl⟩:=Prod.mk.inj (Option.some.inj hf)
  obtain rfl:=hv
  exact done .ni [] rfl
 | pt t v=>
  intro w l cs hf hv hk ha
  obtain ⟨rfl,rfl⟩:=Prod.mk.inj (Option.some.inj hf)
  obtain ⟨hd,rfl⟩:=hv
  exact done (.pt t v) [_] ⟨hd,rfl⟩
 | fn z f q ih=>
  intro w l cs hf hv hk ha
  cases z with
  | true=>
   obtain ⟨rfl,rfl⟩:=Prod.mk.inj (Option.some.inj hf)
   obtain ⟨ds,hd,rfl⟩:=hv
   exact done (.fn true f q) [_] ⟨ds,hd,rfl⟩
  | false=>simp [frzV]at hf
 | _=>intro w l cs hf hv hk ha; simp [frzV]at hf
theorem qe4:∀(ds:List D) (k:Nat),ds.length < k->viewL h1 k (ds.map .d)=some (ds, []):=by
 intro ds
 induction ds with
 | nil=>intro k hk; cases k <;> rfl
 | cons d ds ih=>
  intro k hk
  cases k with
  | zero=>simp at hk
  | succ k=>
   simp only [List.map_cons,viewL,q6r]
   rw [ih k (by simpa using hk)]; rfl
theorem qbt{H:Heap}{h0:H2}{k:Nat}(hr:HR k H h0)(all:List Nat){id:Nat}{o':O}(hf:frzO h0 id=some o'):
  ∃o,fO h0 id=some o/\OSt o o'/\(∀ m g,okO m g o')/\((nilO h0 id/\∀g b,obR g o' b)\/(¬ nilO h0 id/\∃b,q2s H all id=some b/\∀g,obR g o' (some b))):=by
 unfold frzO at hf
 split at hf
 ·rename_i t s v ho
  obtain rfl:=Option.some.inj hf
  refine ⟨_,ho,⟨Nat.le_refl _,rfl,rfl,rfl,λ_=>rfl⟩,λ_ _=>trivial, ?_⟩
  obtain ⟨h1,h2,h3⟩:=(hr.ob id _ ho).2.1
  cases s with
  | nil=>exact .inl ⟨.inl ⟨t,v, .inl ho⟩,λg b=>⟨h1,h2,λl e=>by cases e⟩⟩
  | mk l=>
   refine .inr ⟨qev (.inl ho), .imm (szT t) (l.map (encE t)), ?_,λg=>⟨h1,h2,λl' e=>by cases e; rfl⟩⟩
   simp only [q2s,h3 l rfl]
 ·rename_i t s v ho
  obtain rfl:=Option.some.inj hf
  refine ⟨_,ho,⟨rfl,rfl⟩,λ_ _=>trivial, ?_⟩
  obtain ⟨h1,h2,h3⟩:=(hr.ob id _ ho).2.1
  cases s with
  | nil=>exact .inl ⟨.inl ⟨t,v, .inr ho⟩,λg b=>⟨h1,h2,λl e=>by cases e⟩⟩
  | mk l=>
   refine .inr ⟨qev (.inr ho), .imm (szT t) (l.map (encE t)), ?_,λg=>⟨h1,h2,λl' e=>by cases e; rfl⟩⟩
   simp only [q2s,h3 l rfl]
 ·rename_i t v ho
  obtain rfl:=Option.some.inj hf
  obtain ⟨h1,h2⟩:=(hr.ob id _ ho).2.1
  refine ⟨_,ho,rfl,λ_ _=>trivial, .inr ⟨?_, .ibox (encE t v), ?_,λg=>⟨h1,rfl⟩⟩⟩
  ·rintro (⟨u,v',e | e⟩ | ⟨u,v',e⟩) <;> rw [ho]at e <;> simp at e
  ·simp only [q2s,h2]
 ·rename_i t c ho
  cases hd:(dat t && Nat.blt (szT t) 300)with
  | false=>rw [hd]at hf; simp at hf
  | true=>
   rw [hd,cond_true]at hf
   simp only [Bool.and_eq_true]at hd
   split at hf
   ·rename_i w hw
    split at hf
    ·rename_i y hy
     obtain rfl:=Option.some.inj hf
     obtain ⟨cs,h1,h2,h3⟩:=(hr.ob id _ ho).2.1
     have e:=q1v c false t y cs hy h2
     subst e
     refine ⟨_,ho,trivial,λ_ _=>trivial, .inr ⟨?_, .ibox (encE t y), ?_,λg=>⟨hd.1,rfl⟩⟩⟩
     ·rintro (⟨u,v',e | e⟩ | ⟨u,v',e⟩) <;> rw [ho]at e <;> simp at e
     ·have hl:(encE t y).length < 300:=by rw [q05]; simpa using hd.2
      simp only [q2s,h1,qe4 _ _ hl]
      rfl
    ·simp at hf
   ·simp at hf
 ·simp at hf
def frzF(h:H2)(id:Nat):Option O:=match fO h id with | some (.rw _ _ none)=>none | _=>frzO h id
theorem qb5{h0:H2}{s0:S2}(hs0:s0.heap=h0):∀(ids:List Nat) (s':S2),q7v h0 ids s0=some s'->
  s'.env=s0.env/\s'.gh=s0.gh/\s'.next=s0.next/\s'.wo=ids++s0.wo/\(∀ i∈ids,(∃ o,frzO h0 i=some o)\/∃t s,fO h0 i=some (.rw t s none))/\∀i,fO s'.heap i=if i∈ids then frzF h0 i else fO h0 i:=by
 intro ids
 induction ids with
 | nil=>
  intro s' hf
  obtain rfl:=Option.some.inj hf
  exact ⟨rfl,rfl,rfl,rfl,λi hi=>by simp at hi,λi=>by simp [hs0]⟩
 | cons id r ih=>
  intro s' hf
  simp only [q7v]at hf
  have fin:∀(oo:Option O) (s1:S2),q7v h0 r s0=some s1->s'=updO s1 id oo->((∃ o,frzO h0 id=some o)\/∃t s,fO h0 id=some (.rw t s none))->frzF h0 id=oo->s'.env=s0.env/\s'.gh=s0.gh/\s'.next=s0.next/\s'.wo=(id :: r)++s0.wo/\(∀ i∈id :: r,(∃ o,frzO h0 i=some o)\/∃t s,fO h0 i=some (.rw t s none))/\∀i,fO s'.heap i=if i∈id :: r then frzF h0 i else fO h0 i:=by
   intro oo s1 h1 e hex hoo
   subst e
   obtain ⟨a1,a2,a3,a4,a5,a6⟩:=ih s1 h1
   refine ⟨a1,a2,a3,by simp [updO,a4],λi hi=> ?_,λi=> ?_⟩
   ·rcases List.mem_cons.1 hi with rfl | hi
    ·exact hex
    ·exact a5 i hi
   ·simp only [updO,q0g,a6]
    by_cases e:id=i
    ·subst e; simp [hoo]
    ·simp [e,Ne.symm e]
  split at hf
  ·rename_i t s ho
   split at hf
   ·rename_i s1 h1
    exact fin none s1 h1 (Option.some.inj hf).symm (.inr ⟨t,s,ho⟩) (by simp only [frzF,ho])
   ·cases hf
  ·rename_i hno
   split at hf
   ·rename_i o s1 ho h1
    refine fin (some o) s1 h1 (Option.some.inj hf).symm (.inl ⟨o,ho⟩) ?_
    unfold frzF
    split
    ·rename_i t s e; exact absurd e (hno t s)
    ·exact ho
   ·cases hf
theorem qn6{H:Heap}{all:List Nat}:∀(l:List Nat),(∀ i∈l,∃b,q2s H all i=some b)->∃u,q0o H all l=some u/\∀p∈u,p.1∈l:=by
 intro l
 induction l with
 | nil=>intro _; exact ⟨[],rfl,λp hp=>by simp at hp⟩
 | cons a l ih=>
  intro h
  obtain ⟨b,hb⟩:=h a (by simp)
  obtain ⟨u,hu,hp⟩:=ih λi hi=>h i (by simp [hi])
  refine ⟨(a,some b) :: u,by simp only [q0o,hb,hu],λp hp'=> ?_⟩
  rcases List.mem_cons.1 hp' with rfl | hp'
  ·simp
  ·exact List.mem_cons_of_mem _ (hp p hp')
theorem qhc{h0:H2}{s0:S2}(hs0:s0.heap=h0){H:Heap}(hr:HR s0.next H h0)(ids:List Nat)(s':S2)(ids1 all:List Nat)(hf:q7v h0 ids s0=some s')(hi1:∀i∈ids1,i∈ids/\¬nilO h0 i)(hi2:∀i∈ids,i∈ids1\/nilO h0 i):
  ∃fu,q0o H all ids1=some fu/\HR s0.next (fu++H) s'.heap/\HSt s0.next h0 s'.heap/\s'.env=s0.env/\s'.gh=s0.gh/\s'.next=s0.next/\
   s'.wo=ids++s0.wo/\(∀ p∈fu,p.1∈ids)/\∀id,id∉ids->fO s'.heap id=fO s0.heap id:=by
 obtain ⟨a1,a2,a3,a4,a5,a6⟩:=qb5 hs0 ids s' hf
 have hF:∀i o',frzF h0 i=some o'->frzO h0 i=some o':=λi o' h=>by
  unfold frzF at h
  split at h
  ·cases h
  ·exact h
 obtain ⟨fu,hfu,hp⟩:=qn6 (H:=H) (all:=all) ids1 λi hi=>by
  rcases a5 i (hi1 i hi).1 with ⟨o,ho⟩ | ⟨t,s,ho⟩
  ·obtain ⟨_,_,_,_,h⟩:=qbt hr all ho
   rcases h with h | ⟨_,b,hb,_⟩
   ·exact absurd h.1 (hi1 i hi).2
   ·exact ⟨b,hb⟩
  ·cases s with
   | nil=>exact absurd (.inr ⟨t,none,ho⟩) (hi1 i hi).2
   | mk l=>
    have hb:=(hr.ob i _ ho).2.1.2.2 l rfl
    have hs:q7t (szT t) (q0z t l none)=some (l.map (encE (.sl t))):=qf9 l
    exact ⟨.imm 1 (l.map (encE (.sl t))),by simp only [q2s,hb,hs]⟩
 have hst:HSt s0.next h0 s'.heap:=⟨λi o' hi ho=>by
  rw [a6]at ho
  split at ho
  ·obtain ⟨o,h1,h2,_⟩:=qbt hr all (hF i o' ho)
   exact .inl ⟨o,h1,h2⟩
  ·exact .inl ⟨o',ho,OSt.refl _⟩⟩
 refine ⟨fu,hfu,⟨λi o' ho=> ?_⟩,hst,a1,a2,a3,a4,λp hp'=>(hi1 _ (hp p hp')).1,λi hi=>by rw [a6,if_neg hi,hs0]⟩
 rw [a6]at ho
 split at ho
 ·rename_i hi
  obtain ⟨o,h1,_,h3,h4⟩:=qbt hr all (hF i o' ho)
  refine ⟨(hr.ob i o h1).1, ?_,h3 _ _⟩
  rcases h4 with h4 | ⟨h5,b,hb,hR⟩
  ·exact h4.2 _ _
  ·have hm:i∈ids1:=(hi2 i hi).resolve_right h5
   obtain ⟨b',hb',hl⟩:=(q39 ids1 fu hfu i).1 hm
   rw [hb]at hb'
   obtain rfl:=Option.some.inj hb'
   rw [show look (fu++H) i=some b by simp only [look,q1d,hl]; rfl]
   exact hR _
 ·rename_i hi
  obtain ⟨h1,h2,h3⟩:=hr.ob i o' ho
  have hn:i∉ids1:=λhm=>hi (hi1 i hm).1
  refine ⟨h1, ?_,q5c (Nat.le_refl _) hst h3⟩
  rw [show look (fu++H) i=look H i by simp only [look,q1d,(q39 ids1 fu hfu i).2 hn]]
  exact q5v hst h3 h2
theorem qoo{h0:H2}{s0:S2}{ids:List Nat}{s':S2}(hs0:s0.heap=h0)(hf:q7v h0 ids s0=some s'):∀i∈ids,fO h0 i≠none:=by
 intro i hi e
 obtain ⟨_,_,_,_,a5,_⟩:=qb5 hs0 ids s' hf
 rcases a5 i hi with ⟨o,ho⟩ | ⟨t,s,ho⟩
 ·simp [frzO,e]at ho
 ·rw [e]at ho; cases ho
end
end Go.Ev

namespace Go.Ev
section
variable {h:H2}{n:Nat}{h1:Heap}{β:Type}
theorem q00{α:Type}{c:Bool}{a:Option α}{r:α}(h:(bif c then a else none)=some r):c=true/\a=some r:=by
 cases c with
 | true=>exact ⟨rfl,h⟩
 | false=>simp at h
theorem qav{u:Upd}{i:Nat}(hu:∀p∈u,p.1≠i):look (u++h1) i=look h1 i:=by
 induction u with
 | nil=>rfl
 | cons p u ih=>
  obtain ⟨a,b⟩:=p
  rw [List.cons_append,q0i,if_neg (hu _ (List.mem_cons_self ..)),ih λp hp=>hu p (List.mem_cons_of_mem _ hp)]
theorem Did.gen{s s':S2}{x:TV}{u:Upd}{ids l:List Nat}{m:Nat}{v:V}(W:List Nat)(hr:HR s.next h1 s.heap)(hst:HSt s.next s.heap s'.heap)(he:s'.env=s.env)(hg:s'.gh=s.gh)(hm:m<=s'.next)(hle:s.next<=s'.next)(hl:∀i∈ids,i∈l)
  (hwo:s'.wo=W++s.wo) (hu:∀p∈u,p.1∈W) (hW:∀id,id∉W->fO s'.heap id=fO s.heap id) (hob:∀i∈W,∀o,fO s'.heap i=some o->i < s'.next/\obR s'.heap o (look (u++h1) i)/\okO s'.next s'.heap o)
  (hx:tvR s'.heap v x) (hk:okV s'.next s'.heap v) (hnb:∀i,i < s.next->fO s.heap i=none->fO s'.heap i=none):Did s s' h1 x u ids m v l:=by
 refine ⟨hx,hk,⟨λi o ho=> ?_⟩,hst,he,hg,hm,hle,hl,hnb,W,hwo,hu,hW⟩
 by_cases hi:i∈W
 ·exact hob i hi o ho
 ·rw [hW i hi]at ho
  obtain ⟨a,b,c⟩:=hr.ob i o ho
  refine ⟨by omega, ?_,q5c hle hst c⟩
  rw [qav (u:=u) (i:=i) λp hp e=>hi (e▸hu p hp)]
  exact q5v hst c b
def Prt(h1:Heap)(kk:K)(xs:List TV)(s:S2)(k:V->S2->List Nat->Option β)(z:β):Prop:=
 ∃v s' l,k v s' l=some z/\∀c:Call,∃x u ids m,ev1 c kk (xs.map some) h1 s.next=some (x,u,ids,m)/\Did s s' h1 x u ids m v l
variable {s:S2}{k:V->S2->List Nat->Option β}{z:β}
theorem Prt.pure{kk:K}{xs:List TV}{v:V}{x:TV}(hr:HR s.next h1 s.heap)(hz:k v s []=some z)(he:∀c:Call,ev1 c kk (xs.map some) h1 s.next=some (x, [], [],s.next))(hx:tvR s.heap v x)(hk:okV s.next s.heap v):Prt h1 kk xs s k z:=
 ⟨v,s, [],hz,λc=>⟨x, [], [],s.next,he c,Did.pure hr hx hk λi hi=>by simp at hi⟩⟩
theorem q6q{t:Ty}(h:okT t=true):dat t=true/\0 < szT t:=by
 simpa [okT]using h
theorem Prt.new{kk:K}{xs:List TV}{v:V}{x:TV}{o:O}{b:Option Ob}{l ids:List Nat}(hr:HR s.next h1 s.heap)(hz:k v (newO s o) l=some z)(he:∀c:Call,ev1 c kk (xs.map some) h1 s.next=some (x, [(s.next,b)],ids,s.next+1))
  (hb:obR ((s.next,some o) :: s.heap) o b) (hko:okO (s.next+1) ((s.next,some o) :: s.heap) o) (hx:tvR ((s.next,some o) :: s.heap) v x) (hk:okV (s.next+1) ((s.next,some o) :: s.heap) v) (hl:∀i∈ids,i∈l):Prt h1 kk xs s k z:=
 ⟨v,_,l,hz,λc=>⟨x,_,ids,_,he c,Did.new hr (.inl rfl) (λ_=>hb) hko hx hk hl (Nat.le_refl _)⟩⟩
theorem Prt.upd{kk:K}{xs:List TV}{v:V}{x:TV}{id:Nat}{o o':O}{b:Option Ob}{l ids:List Nat}(hr:HR s.next h1 s.heap)(ho:fO s.heap id=some o)(hs:OSt o o')(hz:k v (updO s id (some o')) l=some z)(he:∀c:Call,ev1 c kk (xs.map some) h1 s.next=some (x, [(id,b)],ids,s.next))
  (hb:obR ((id,some o') :: s.heap) o' b) (hko:okO s.next ((id,some o') :: s.heap) o') (hx:tvR ((id,some o') :: s.heap) v x) (hk:okV s.next ((id,some o') :: s.heap) v) (hl:∀i∈ids,i∈l):Prt h1 kk xs s k z:=
 ⟨v,_,l,hz,λc=>⟨x,_,ids,_,he c,Did.upd hr ho hs hb hko hx hk hl⟩⟩
theorem q9l(id:Nat)(o:Option O)(h:H2):fO ((id,o) :: h) id=o:=by rw [q0g,if_pos rfl]
theorem qc8{t:Ty}{s:Sl (El t)}{v nx:Nat}:tvR ((nx,some (.ar t s v)) :: h) (.so nx) (.c (slC (szT t) (encE t) nx s)):=
 q0e (q0v rfl ⟨_,rfl,λc' hc'=>by rw [q9l]at hc'; exact Option.some.inj hc',qi7⟩)
theorem qj0{x:V}{y:TV}{sz:Nat}{lo hi:Option Int}{m:Int}{q:V->Option β}(hr:HR n h1 h)(hx:tvR h x y)(hk:okV n h x)(ha:alv h x=true)(hm:lenV h x=some m)(hz:cutK sz h x (lo.getD 0) (hi.getD m) q=some z):
  ∃v c c',y= .c c/\q v=some z/\q13 false sz c lo hi=some c'/\tvR h v (.c c')/\okV n h v:=by
 have obj:∀(id:Nat) (t:Ty) (w:Sl (El t)) (ver:Nat),x= .so id->(fO h id=some (.ar t w ver)\/fO h id=some (.im t w ver))->(bif szT t == sz then (cutI w.l (lo.getD 0) (hi.getD m)).bind λy=>q (.sb id ver (lo.getD 0).toNat t (w.to y))else none)=some z->
   ∃v c c',y= .c c/\q v=some z/\q13 false sz c lo hi=some c'/\tvR h v (.c c')/\okV n h v:=by
  rintro id t w ver rfl ho hz
  obtain ⟨h2,hz2⟩:=q00 hz
  obtain rfl:szT t=sz:=by simpa using h2
  obtain ⟨r,hr',hz3⟩:=bnd hz2
  have e:=q9r hx (q4l ho)
  have hm':m=w.l.length:=by
   simp only [lenV,slV]at hm
   rcases ho with ho | ho <;> (rw [ho]at hm; exact (Option.some.inj hm).symm)
  subst hm'
  refine ⟨_,_,sbC id (lo.getD 0).toNat t (w.to r),e,hz3, ?_, ?_,hk, ?_⟩
  ·cases w with
   | nil=>exact cut_n hr'
   | mk l=>exact cut_o (enc:=encE t) hr'
  ·exact q0e (q0v rfl ⟨_,rfl,λ_=>rfl,qs8⟩)
  ·intro u s' v' ho'
   have e2:SgS u s'=SgS t w/\v'=ver:=by
    rcases ho with ho | ho <;> rcases ho' with ho' | ho' <;> (rw [ho]at ho'; simp at ho')
    all_goals
     obtain ⟨rfl,e,rfl⟩:=ho'
     cases eq_of_heq e
     exact ⟨rfl,rfl⟩
   obtain ⟨e2,rfl⟩:=e2
   obtain ⟨rfl,e2⟩:=Sigma.mk.inj e2
   cases e2
   refine ⟨Nat.le_refl _,λ_=>⟨rfl, ?_⟩⟩
   cases s' with
   | nil=>trivial
   | mk l=>
    obtain ⟨h3,h4⟩:=qw4 (enc:=encE u) hr'
    simp only [List.length_map]at h3
    refine ⟨h3, ?_⟩
    simpa using h4
 cases x with
 | x t v=>
  cases t with
  | sl t=>
   simp only [cutK]at hz
   obtain ⟨h2,hz2⟩:=q00 hz
   obtain rfl:szT t=sz:=by simpa using h2
   obtain ⟨r,hr',hz3⟩:=bnd hz2
   have hm':m=v.l.length:=by simpa [lenV,slV]using hm.symm
   subst hm'
   refine ⟨_,_,_,qfy hx,hz3,qvg hr',q0e (q0v rfl ⟨?_,rfl⟩),trivial⟩
   obtain ⟨_,⟨hd,_⟩,_⟩:=tvR_1 (v:= .x (.sl t) v) trivial hx
   exact hd
  | _=>simp [cutK]at hz
 | so id=>
  simp only [cutK]at hz
  split at hz
  ·rename_i ho; exact obj id _ _ _ rfl (.inl ho) hz
  ·rename_i ho; exact obj id _ _ _ rfl (.inr ho) hz
  ·simp at hz
 | sb id ver off t v=>
  simp only [cutK]at hz
  obtain ⟨h2,hz2⟩:=q00 hz
  obtain rfl:szT t=sz:=by simpa using h2
  obtain ⟨r,hr',hz3⟩:=bnd hz2
  have hm':m=v.l.length:=by simpa [lenV,slV]using hm.symm
  subst hm'
  refine ⟨_,_,sbC id (off+(lo.getD 0).toNat) t (v.to r),q7w hx ha,hz3, ?_,q0e (q0v rfl ⟨_,rfl,λ_=>rfl,qs8⟩),hk.1, ?_⟩
  ·cases v with
   | nil=>exact cut_n hr'
   | mk l=>
    obtain ⟨h3,rfl⟩:=q5t.1 hr'
    simp only [Sl.l]at h3
    simp only [sbC,q13,Bool.false_eq_true,if_false,Sl.to,Sl.l,List.length_map]
    rw [if_pos ⟨trivial,h3⟩]
    simp; omega
  ·intro u s' v' ho
   obtain ⟨h3,h4⟩:=hk.2 u s' v' ho
   refine ⟨h3,λe=> ?_⟩
   obtain ⟨h5,h6⟩:=h4 e
   refine ⟨h5, ?_⟩
   cases s' with
   | nil=>cases v <;> first | trivial | exact h6.elim
   | mk l=>
    cases v with
    | nil=>exact h6.elim
    | mk w=>
     obtain ⟨h7,h8⟩:=h6
     obtain ⟨h9,rfl⟩:=q5t.1 hr'
     simp only [Sl.l]at h9
     show off+(lo.getD 0).toNat+((w.drop (lo.getD 0).toNat).take _).length<=l.length/\((l.map (encE u)).drop (off+(lo.getD 0).toNat)).take ((w.drop (lo.getD 0).toNat).take _).length=((w.drop (lo.getD 0).toNat).take _).map (encE t)
     generalize hA:(lo.getD 0).toNat=A
     generalize hB:((hi.getD (Sl.l (Sl.mk w)).length).toNat - A)=B
     have hle:A+B<=w.length:=by subst hA hB; simp only [Sl.l]; omega
     have hlen:((w.drop A).take B).length=B:=by simp; omega
     refine ⟨by omega, ?_⟩
     rw [hlen,List.map_take,List.map_drop,<- h8,List.drop_take,List.drop_drop,List.take_take]
     congr 1; omega
 | nl k=>
  cases k with
  | zero=>
   simp only [cutK]at hz
   obtain ⟨r,hr',hz3⟩:=bnd hz
   have hm':m=0:=by simpa [lenV]using hm.symm
   subst hm'
   exact ⟨_,_,_,qcz hx,hz3,cut_n (α:=Unit) (by simpa [Sl.l]using hr'),q0e (q0v rfl rfl),trivial⟩
  | succ k=>simp [cutK]at hz
 | _=>simp [cutK]at hz
theorem qlz:∀(p:Path) (t a:Ty) (l m:Nat),tyP t p=some (.ar l a)->m < l->okP t p->okP t (p++ [.ix m])/\ofP t (p++ [.ix m])=ofP t p+m * szT a:=by
 intro p
 induction p with
 | nil=>
  intro t a l m h1 hm _
  have e:tyP t []=some t:=by cases t <;> rfl
  obtain rfl:t= .ar l a:=by rw [e]at h1; exact Option.some.inj h1
  refine ⟨⟨hm,by cases a <;> trivial⟩, ?_⟩
  simp only [List.nil_append,ofP]
  cases a <;> simp [ofP]
 | cons q p ih=>
  intro t a l m h1 hm h3
  cases q with
  | fd j=>
   cases t with
   | st t=>
    obtain ⟨b2,hb,h3⟩:=h3
    simp only [tyP,hb]at h1
    obtain ⟨q1,q2⟩:=ih b2 a l m h1 hm h3
    refine ⟨⟨b2,hb,q1⟩, ?_⟩
    simp only [List.cons_append,ofP,hb,q2]; exact (Nat.add_assoc _ _ _).symm
   | _=>exact h3.elim
  | ix k=>
   cases t with
   | ar l' t=>
    obtain ⟨hk,h3⟩:=h3
    obtain ⟨q1,q2⟩:=ih t a l m h1 hm h3
    refine ⟨⟨hk,q1⟩, ?_⟩
    simp only [List.cons_append,ofP,q2]; exact (Nat.add_assoc _ _ _).symm
   | _=>exact h3.elim
theorem qvl{id:Nat}{t u:Ty}{w:Sl (El t)}{w':Sl (El u)}{v v':Nat}(ho:fO h id=some (.ar t w v)\/fO h id=some (.im t w v))(ho':fO h id=some (.ar u w' v')\/fO h id=some (.im u w' v')):SgS u w'=SgS t w/\v'=v:=by
 rcases ho with ho | ho <;> rcases ho' with ho' | ho' <;> (rw [ho]at ho'; simp at ho')
 all_goals
  obtain ⟨rfl,e,rfl⟩:=ho'
  cases eq_of_heq e
  exact ⟨rfl,rfl⟩
theorem qst{id:Nat}{t u:Ty}{w:Sl (El t)}{w':Sl (El u)}{v v':Nat}(ho:fO h id=some (.ar t w v)\/fO h id=some (.im t w v))(ho':fO h id=some (.ar u w' v')\/fO h id=some (.im u w' v')):w'.l.length=w.l.length:=by
 obtain ⟨e,_⟩:=qvl ho ho'
 obtain ⟨rfl,e⟩:=Sigma.mk.inj e
 cases e; rfl
theorem ixc_o{c:C}{t:Ty}{id m sz:Nat}{w:Sl (El t)}{i:Int}{kd:IntKind}{cl:Call}{nx:Nat}(hc:c=slC (szT t) (encE t) id w)(hsz:szT t=sz)(hi:ixI i w.l.length=some m):
  ev1 cl (.indexAddr none sz) [some (.c c),some (tI kd i)] h1 nx=some (.c (.ep id m 0), [], [],nx):=by
 subst hc hsz
 cases w with
 | nil=>exact qsf hi
 | mk l=>exact ix_o hi
theorem dat_x{t:Ty}{v:El t}{x:TV}(hx:tvR h (.x t v) x):dat t=true:=by
 obtain ⟨_,⟨hd,_⟩,_⟩:=tvR_1 (v:= .x t v) trivial hx
 exact hd
theorem ag_x{n':Nat}{t:Ty}{v:El (.ar n' t)}{x:TV}(hx:tvR h (.x (.ar n' t) v) x):x= .agg ((encE (.ar n' t) v).map .d):=by
 obtain ⟨cs,⟨_,rfl⟩,h2,_⟩:=tvR_1 (v:= .x (.ar n' t) v) trivial hx
 exact h2 rfl
theorem qib{n' m:Nat}{t:Ty}(v:El (.ar n' t))(hm:m < n'):m * szT t+szT t<=(encE (.ar n' t) v).length/\((encE (.ar n' t) v).drop (m * szT t)).take (szT t)=encE t (gt v.1 m):=by
 have hl:v.1.length=n':=v.2
 refine ⟨?_,qem (q05 t) v.1 m (by omega)⟩
 rw [q05]
 show _<=n' * szT t
 have:(m+1) * szT t<=n' * szT t:=Nat.mul_le_mul_right _ hm
 rw [Nat.add_mul,Nat.one_mul]at this
 exact this
theorem qpm{x:V}{y:TV}{sz:Nat}{i:Int}{kd:IntKind} 
  (hz:(match x with
  | .x (.sl t) v=>bif szT t == sz then (ixI i v.l.length).bind λm=>k (.pt t (gt v.l m)) s []else none
  | .so id=>(match slV s.heap (.so id)with | some ⟨t,v,_⟩=>bif szT t == sz then (ixI i v.l.length).bind λm=>k (.ep id m t []) s []else none | none=>none)
  | .sb id _ lo t v=>bif szT t == sz then (ixI i v.l.length).bind λm=>k (.ep id (lo+m) t []) s []else none
  | .sr id=>(match fO s.heap id with | some (.rw t v _)=>bif 1 == sz then (ixI i v.l.length).bind λm=>k (.ep id m (.sl t) []) s []else none | _=>none)
  | _=>none)=some z)
  (hr:HR s.next h1 s.heap) (hx:tvR s.heap x y) (hk:okV s.next s.heap x) (ha:alv s.heap x=true):Prt h1 (.indexAddr none sz) [y,tI kd i] s k z:=by
 cases x with
 | x t v=>
  cases t with
  | sl t=>
   simp only at hz
   obtain ⟨h2,hz2⟩:=q00 hz
   obtain ⟨m,hm,hz3⟩:=bnd hz2
   obtain rfl:szT t=sz:=by simpa using h2
   rw [qfy hx]
   exact .pure hr hz3 (x:= .c (.d (.pt (encE t (gt (Sl.l v) m))))) (λ_=>ix_sd hm) (q0e (q0v rfl ⟨dat_x (t:= .sl t) hx,rfl⟩)) trivial
  | _=>simp at hz
 | so id=>
  simp only at hz
  split at hz
  ·rename_i t v l hs
   obtain ⟨h2,hz2⟩:=q00 hz
   obtain ⟨m,hm,hz3⟩:=bnd hz2
   obtain ⟨ver,ho,_⟩:=qax hs
   simp only at ho
   rw [q9r hx (q4l ho)]
   refine .pure hr hz3 (x:= .c (.ep id m 0)) (λ_=>ixc_o rfl (by simpa using h2) hm) (q0e (q0v rfl (by cases t <;> rfl))) ⟨hk,by cases t <;> trivial,λu w' v' ho'=> ?_,λu w' v' ho'=> ?_⟩
   ·have:=(q2h.1 hm).2
    rw [qst ho ho']; exact this
   ·rcases ho with ho | ho <;> rw [ho]at ho' <;> cases ho'
  ·simp at hz
 | sr id=>
  simp only at hz
  split at hz
  ·rename_i t v ln ho
   obtain ⟨h2,hz2⟩:=q00 hz
   obtain ⟨m,hm,hz3⟩:=bnd hz2
   rw [qs1 hx (q9y ho)]
   refine .pure hr hz3 (x:= .c (.ep id m 0)) (λ_=>ixc_o (t:= .sl t) rfl (Eq.trans (rfl:szT (.sl t)=1) (beq_iff_eq.1 h2)) hm) (q0e (q0v rfl rfl)) ⟨hk,trivial,λu w' v' ho'=> ?_,λu w' v' ho'=> ?_⟩
   ·rw [ho]at ho'; rcases ho' with ho' | ho' <;> cases ho'
   ·rw [ho]at ho'
    cases ho'
    exact (q2h.1 hm).2
  ·simp at hz
 | sb id ver lo t v=>
  simp only at hz
  obtain ⟨h2,hz2⟩:=q00 hz
  obtain ⟨m,hm,hz3⟩:=bnd hz2
  obtain rfl:szT t=sz:=by simpa using h2
  rw [q7w hx ha]
  have hm2:=(q2h.1 hm).2
  cases v with
  | nil=>exact qsf hm
  | mk w=>
   refine .pure hr hz3 (x:= .c (.ep id (lo+m) 0)) (λ_=>ix_oo (l:=w) hm) (q0e (q0v rfl (by cases t <;> rfl))) ⟨hk.1,by cases t <;> trivial,λu w' v' ho'=> ?_,λu w' v' ho'=>by
    obtain ⟨u0,s0,ho⟩:=q3d (h:=s.heap) (id:=id) (ver:=ver) (Bool.and_eq_true_iff.1 ha).2
    rcases ho with ho | ho <;> rw [ho]at ho' <;> cases ho'⟩
   obtain ⟨u0,s0,ho⟩:=q3d (h:=s.heap) (id:=id) (ver:=ver) (Bool.and_eq_true_iff.1 ha).2
   obtain ⟨_,h4⟩:=hk.2 u0 s0 ver ho
   obtain ⟨_,h6⟩:=h4 rfl
   rw [qst ho ho']
   cases s0 with
   | nil=>exact h6.elim
   | mk l=>have:=h6.1; simp only [Sl.l]at hm2 ⊢; omega
 | _=>simp at hz
theorem qrv{x:V}{y:TV}{n0 sz:Nat}{i:Int}{kd:IntKind} 
  (hz:(match x with
  | .op id t p=>(match tyP t p with | some (.ar n' u)=>bif (n' == n0) && (szT u == sz)then (ixI i n0).bind λm=>k (.op id t (p++ [.ix m])) s []else none | _=>none)
  | .ep id q t p=>(match tyP t p with | some (.ar n' u)=>bif (n' == n0) && (szT u == sz)then (ixI i n0).bind λm=>k (.ep id q t (p++ [.ix m])) s []else none | _=>none)
  | .pt (.ar n' u) v=>bif (n' == n0) && (szT u == sz)then (ixI i n0).bind λm=>k (.pt u (gt v.1 m)) s []else none
  | _=>none)=some z)
  (hr:HR s.next h1 s.heap) (hx:tvR s.heap x y) (hk:okV s.next s.heap x):Prt h1 (.indexAddr (some n0) sz) [y,tI kd i] s k z:=by
 cases x with
 | op id t p=>
  simp only at hz
  split at hz
  ·rename_i n' u hu
   obtain ⟨h2,hz2⟩:=q00 hz
   obtain ⟨m,hm,hz3⟩:=bnd hz2
   simp only [Bool.and_eq_true,beq_iff_eq]at h2
   obtain ⟨rfl,rfl⟩:=h2
   obtain ⟨rfl,hm2⟩:=q2h.1 hm
   obtain ⟨q1,q2⟩:=qlz p t u n' m hu hm2 hk.2
   rw [qcy hx]
   refine .pure hr hz3 (x:= .c (.op id (ofP t p+m * szT u))) (λ_=> ?_) (q0e (q0v rfl ?_)) ⟨hk.1,q1⟩
   ·simp only [List.map,ev1,intOf?,q1r]
    rw [if_pos ⟨by omega,by omega⟩]; simp
   ·show [_]= [_]; rw [q2]
  ·simp at hz
 | ep id q t p=>
  simp only at hz
  split at hz
  ·rename_i n' u hu
   obtain ⟨h2,hz2⟩:=q00 hz
   obtain ⟨m,hm,hz3⟩:=bnd hz2
   simp only [Bool.and_eq_true,beq_iff_eq]at h2
   obtain ⟨rfl,rfl⟩:=h2
   obtain ⟨rfl,hm2⟩:=q2h.1 hm
   obtain ⟨q1,q2⟩:=qlz p t u n' m hu hm2 hk.2.1
   rw [q9z hx]
   refine .pure hr hz3 (x:= .c (.ep id q (ofP t p+m * szT u))) (λ_=> ?_) (q0e (q0v rfl ?_)) ⟨hk.1,q1,hk.2.2⟩
   ·simp only [List.map,ev1,intOf?,q1r]
    rw [if_pos ⟨by omega,by omega⟩]; simp
   ·show [_]= [_]; rw [q2]
  ·simp at hz
 | pt t v=>
  cases t with
  | ar n' u=>
   simp only at hz
   obtain ⟨h2,hz2⟩:=q00 hz
   obtain ⟨m,hm,hz3⟩:=bnd hz2
   simp only [Bool.and_eq_true,beq_iff_eq]at h2
   obtain ⟨rfl,rfl⟩:=h2
   obtain ⟨rfl,hm2⟩:=q2h.1 hm
   obtain ⟨hd,rfl⟩:=qfq hx
   obtain ⟨a1,a2⟩:=qib v hm2
   refine .pure hr hz3 (x:= .c (.d (.pt (encE u (gt v.1 m))))) (λ_=> ?_) (q0e (q0v rfl ⟨hd,rfl⟩)) trivial
   simp only [List.map,ev1,intOf?,q1r]
   rw [if_pos ⟨by omega,by omega⟩]
   simp only [Int.toNat_natCast]
   rw [if_pos a1,a2]
  | _=>simp at hz
 | _=>simp at hz
end
end Go.Ev

namespace Go.Ev
section
variable {h:H2}{n:Nat}{h1:Heap}{β:Type}{s:S2}{k:V->S2->List Nat->Option β}{z:β}
theorem qiz{t u:Ty}{m:Sl (El t)}{m':Sl (El u)}(hc:castE (.sl t) (.sl u) m=some m'):t=u/\m'.l.map (encE u)=m.l.map (encE t):=by
 obtain ⟨e,rfl⟩:=q0h hc
 cases e
 exact ⟨rfl,rfl⟩
theorem qve{c:C}{t:Ty}{id sz:Nat}{w:Sl (El t)}{ver:Nat}(hr:HR n h1 h)(hc:c=slC (szT t) (encE t) id w)(hsz:szT t=sz)(ho:fO h id=some (.ar t w ver)\/fO h id=some (.im t w ver)):
  ∃ids,q2u sz h1 c=some (w.l.map (encE t),ids)/\∀i∈ids,i=id:=by
 subst hc hsz
 cases w with
 | nil=>exact ⟨[],rfl,λi hi=>by simp at hi⟩
 | mk l=>
  refine ⟨[id], ?_,λi hi=>by simpa using hi⟩
  rcases ho with ho | ho
  ·have hb:=(hr.ob id _ ho).2.1.2.2 l rfl
   simp only [slC,q2u,hb]
   rw [if_pos ⟨trivial,by simp⟩,q99]; rfl
  ·have hb:=(hr.ob id _ ho).2.1.2.2 l rfl
   simp only [slC,q2u,hb]
   rw [if_pos ⟨trivial,by simp⟩,q99]; rfl
theorem qtc{id lo ver sz:Nat}{t:Ty}{r:Sl (El t)}(hr:HR n h1 h)(hk:okV n h (.sb id ver lo t r))(ha:alv h (.sb id ver lo t r)=true)(hsz:szT t=sz):
  ∃ids,q2u sz h1 (sbC id lo t r)=some (r.l.map (encE t),ids)/\∀i∈ids,i=id:=by
 subst hsz
 obtain ⟨u,s0,ho⟩:=q3d (h:=h) (id:=id) (ver:=ver) (Bool.and_eq_true_iff.1 ha).2
 obtain ⟨_,h4⟩:=hk.2 u s0 ver ho
 obtain ⟨h5,h6⟩:=h4 rfl
 cases r with
 | nil=>exact ⟨[],rfl,λi hi=>by simp at hi⟩
 | mk w=>
  cases s0 with
  | nil=>exact h6.elim
  | mk l=>
   refine ⟨[id], ?_,λi hi=>by simpa using hi⟩
   have hb:look h1 id=some (.arr (szT u) (l.map (encE u)))\/look h1 id=some (.imm (szT u) (l.map (encE u))):=by
    rcases ho with ho | ho
    ·exact .inl ((hr.ob id _ ho).2.1.2.2 l rfl)
    ·exact .inr ((hr.ob id _ ho).2.1.2.2 l rfl)
   rcases hb with hb | hb
   ·simp only [sbC,q2u,hb]
    rw [if_pos ⟨trivial,by simpa using h6.1⟩]
    rw [List.length_map,h6.2]; rfl
   ·simp only [sbC,q2u,hb]
    rw [if_pos ⟨trivial,by simpa using h6.1⟩]
    rw [List.length_map,h6.2]; rfl
theorem qlk{x:V}{y:TV}{t0 t:Ty}{m:Sl (El t)}{l:List Nat}{sz:Nat}(hr:HR n h1 h)(hx:tvR h x y)(hk:okV n h x)(ha:alv h x=true)(hs:slX t0 h x=some ⟨t,m,l⟩)(hsz:szT t=sz):
  ∃c ids,y= .c c/\q2u sz h1 c=some (m.l.map (encE t),ids)/\∀i∈ids,i∈l:=by
 cases x with
 | nl j=>
  cases j with
  | zero=>
   simp only [slX]at hs
   obtain ⟨rfl,e⟩:=Sigma.mk.inj (Option.some.inj hs)
   obtain ⟨rfl,rfl⟩:=Prod.mk.inj (eq_of_heq e)
   exact ⟨_, [],qcz hx,rfl,λi hi=>by simp at hi⟩
  | succ j=>simp [slX,slV]at hs
 | x u v=>
  cases u with
  | sl u=>
   simp only [slX,slV]at hs
   obtain ⟨rfl,e⟩:=Sigma.mk.inj (Option.some.inj hs)
   obtain ⟨rfl,rfl⟩:=Prod.mk.inj (eq_of_heq e)
   subst hsz
   exact ⟨_, [],qfy hx,qv6,λi hi=>by simp at hi⟩
  | _=>simp [slX,slV]at hs
 | so id=>
  obtain ⟨ver,ho,e⟩:=qax (h:=h) (id:=id) hs
  obtain rfl:l= [id]:=e
  obtain ⟨ids,q1,q2⟩:=qve hr rfl hsz ho
  exact ⟨_,ids,q9r hx (q4l ho),q1,λi hi=>by simpa using q2 i hi⟩
 | sb id ver lo u r=>
  simp only [slX,slV]at hs
  obtain ⟨rfl,e⟩:=Sigma.mk.inj (Option.some.inj hs)
  obtain ⟨rfl,rfl⟩:=Prod.mk.inj (eq_of_heq e)
  obtain ⟨ids,q1,q2⟩:=qtc hr hk ha hsz
  exact ⟨_,ids,q7w hx ha,q1,λi hi=>by simpa using q2 i hi⟩
 | _=>simp [slX,slV]at hs
def killO(s:S2):Option Nat->S2
 | none=>s
 | some id=>updO s id none
theorem qh2{kill:Option Nat}{t:Ty}{w:Sl (El t)}{u:Upd}{ids l:List Nat}{m:Nat}(hr:HR s.next h1 s.heap)(hkl:∀id,kill=some id->id < s.next)(hd:okT t=true)(hu:∀p∈u,p.1=s.next\/kill=some p.1)(hl:∀i∈ids,i∈l)(hm:m<=s.next+1)
  (hb:∀l,w= .mk l->look (u++h1) s.next=some (.arr (szT t) (l.map (encE t)))) {x:TV} (hx:x= .c (slC (szT t) (encE t) s.next w)):Did s (newO (killO s kill) (.ar t w 0)) h1 x u ids m (.so s.next) l:=by
 have hnx:(killO s kill).next=s.next:=by cases kill <;> rfl
 have hh:(newO (killO s kill) (.ar t w 0)).heap=(s.next,some (.ar t w 0)) :: (killO s kill).heap:=by simp only [newO,hnx]
 have hfo:∀i,fO (newO (killO s kill) (.ar t w 0)).heap i=if s.next=i then some (.ar t w 0)else if kill=some i then none else fO s.heap i:=by
  intro i
  rw [hh,q0g]
  cases kill with
  | none=>simp [killO]
  | some id=>simp only [killO,updO,q0g,Option.some.injEq]
 have hnn:(newO (killO s kill) (.ar t w 0)).next=s.next+1:=by simp only [newO,hnx]
 refine Did.gen (s.next :: kill.toList) hr ⟨λi o' hi ho=> ?_⟩ ?_ ?_ ?_ ?_ hl ?_ ?_ ?_ ?_ ?_ ?_ (λi hi h=>by rw [hfo,if_neg (by omega)]; split <;> first | rfl | exact h)
 ·rw [hfo,if_neg (by omega)]at ho
  split at ho
  ·simp at ho
  ·exact .inl ⟨o',ho,OSt.refl _⟩
 ·cases kill <;> rfl
 ·cases kill <;> rfl
 ·rw [hnn]; exact hm
 ·rw [hnn]; omega
 ·cases kill <;> simp [newO,killO,updO]
 ·intro p hp
  rcases hu p hp with e | e
  ·simp [e]
  ·simp [e]
 ·intro i hi
  rw [hfo,if_neg (λe=>hi (by simp [e])),if_neg (λe=>hi (by simp [e]))]
 ·intro i hi o ho
  rw [hfo]at ho
  split at ho
  ·rename_i e
   subst e
   obtain rfl:=Option.some.inj ho
   obtain ⟨h3,h4⟩:=q6q hd
   exact ⟨by rw [hnn]; omega,⟨h3,h4,hb⟩,trivial⟩
  ·rename_i e
   split at ho
   ·simp at ho
   ·rename_i e2
    rcases List.mem_cons.1 hi with hi | hi
    ·exact absurd hi.symm e
    ·exact absurd (by simpa using hi) e2
 ·rw [hx,hh,show s.next=s.next from rfl]
  exact qc8
 ·rw [hnn]; exact Nat.lt_succ_self _
theorem qo4{sz:Nat}{c:C}{new:List (List D)}{ids:List Nat}(hx:q2u sz h1 c=some (new,ids))(hl:new.length<=2147483648){nx:Nat}{cl:Call}:
  ev1 cl (.append sz) [some (.c (.d (.lit (.slice none 0 0)))),some (.c c)] h1 nx=if new= []then some (.c (.d (.lit (.slice none 0 0))), [],ids,nx)else some (.c (.osl sz nx 0 new.length), [(nx,some (.arr sz new))],ids,nx+1):=by
 simp only [ev1,q52,hx]
 rw [if_pos (by simpa [lim]using hl)]
 cases new <;> simp
theorem qed{kill:Option Nat}{t:Ty}{xs r:List (El t)}{sz:Nat}{c:C}{ids l:List Nat}(hr:HR s.next h1 s.heap)(hkl:∀id,kill=some id->id < s.next)(hd:okT t=true)(hsz:szT t=sz)(hx:q2u sz h1 c=some (xs.map (encE t),ids))(hc:capI ([]++xs)=some r)
  (hl:∀i∈ids,i∈l) (hz:k (.so s.next) (newO (killO s kill) (.ar t (appS Sl.nil xs r) 0)) l=some z):Prt h1 (.append sz) [.c (.d (.lit (.slice none 0 0))), .c c] s k z:=by
 subst hsz
 obtain ⟨rfl,hlen⟩:=qb2.1 hc
 refine ⟨_,_,_,hz,λcl=> ?_⟩
 simp only [List.map_cons,List.map_nil]
 rw [qo4 hx (by simpa using hlen)]
 cases xs with
 | nil=>exact ⟨_,_,_,_,rfl,qh2 hr hkl hd (λp hp=>by simp at hp) hl (Nat.le_succ _) (λl e=>by cases e) rfl⟩
 | cons y ys=>
  refine ⟨_,_,_,_,if_neg (by simp),qh2 hr hkl hd (λp hp=>by simp at hp; simp [hp]) hl (Nat.le_refl _) (λl e=> ?_) rfl⟩
  simp only [appS,List.nil_append]at e
  cases e
  rw [List.singleton_append,q0i,if_pos rfl]
theorem qnu{t:Ty}{w xs r:List (El t)}{sz id off:Nat}{rows:List (List D)}{c:C}{ids l:List Nat}(hr:HR s.next h1 s.heap)(hid:id < s.next)(hd:okT t=true)(hsz:szT t=sz)(hl1:look h1 id=some (.arr sz rows))(hle:off+w.length<=rows.length)(hro:rows.length<=off+(w.length+xs.length))(he:(rows.drop off).take w.length=w.map (encE t))
  (hx:q2u sz h1 c=some (xs.map (encE t),ids)) (hc:capI (w++xs)=some r) (hl:∀i∈id :: ids,i∈l) (hz:k (.so s.next) (newO (updO s id none) (.ar t (appS (.mk w) xs r) 0)) l=some z):
  Prt h1 (.append sz) [.c (.osl sz id off (w.map (encE t)).length), .c c] s k z:=by
 subst hsz
 obtain ⟨rfl,hlen⟩:=qb2.1 hc
 have ea:appS (.mk w) xs (w++xs)= .mk (w++xs):=by cases xs <;> rfl
 rw [ea]at hz
 refine ⟨_,_,_,hz,λcl=>⟨.c (.osl (szT t) s.next 0 ((w++xs).map (encE t)).length), [(id,none),(s.next,some (.arr (szT t) ((w++xs).map (encE t))))],id :: ids,s.next+1, ?_, ?_⟩⟩
 ·simp only [List.map_cons,List.map_nil,ev1,q52,hx,hl1]
  simp only [List.length_map,List.length_append]at hlen ⊢
  rw [if_pos ⟨trivial,by omega,by simpa [lim]using hlen⟩,he,<- List.map_append,List.drop_eq_nil_of_le (by omega),List.append_nil]
 ·refine qh2 (kill:=some id) hr (λi e=>by cases e; exact hid) hd (λp hp=> ?_) hl (Nat.le_refl _) (λl e=> ?_) rfl
  ·simp only [List.mem_cons,List.not_mem_nil,or_false]at hp
   rcases hp with rfl | rfl <;> simp
  ·cases e
   rw [List.cons_append,q0i,if_neg (by omega),List.singleton_append,q0i,if_pos rfl]
theorem qgo{a x:V}{ya yx:TV}{t0:Ty}{sz:Nat} 
  (hz:(match slX t0 s.heap x with
  | some ⟨t,m,ids⟩=>bif (szT t == sz) && okT t then (match a with
   | .nl 0=>(capI ([]++m.l)).bind λr=>k (.so s.next) (newO s (.ar t (appS Sl.nil m.l r) 0)) ids
   | .so id=>(match fO s.heap id with
    | some (.ar u v _)=>(match castE (.sl t) (.sl u) m with
     | some m=>(capI (v.l++m.l)).bind λr=>k (.so s.next) (newO (updO s id none) (.ar u (appS v m.l r) 0)) (id :: ids)
     | none=>none)
    | _=>none)
   | .sb id _ lo u v=>(match fO s.heap id,castE (.sl t) (.sl u) m with
    | some (.ar _ s0 _),some m=>bif Nat.ble s0.l.length (lo+(v.l.length+m.l.length))then ((capI (v.l++m.l)).bind λr=>k (.so s.next) (newO (updO s id none) (.ar u (appS v m.l r) 0)) (id :: ids))else none
    | _,_=>none)
   | _=>none)else none
  | none=>none)=some z)
  (hr:HR s.next h1 s.heap) (ha1:tvR s.heap a ya) (ha2:okV s.next s.heap a) (ha3:alv s.heap a=true) (hx:tvR s.heap x yx) (hk:okV s.next s.heap x) (ha:alv s.heap x=true):Prt h1 (.append sz) [ya,yx] s k z:=by
 split at hz
 ·rename_i t m l hs
  obtain ⟨h2,hz2⟩:=q00 hz
  simp only [Bool.and_eq_true,beq_iff_eq]at h2
  obtain ⟨hsz,hd⟩:=h2
  obtain ⟨c,ids,rfl,q1,q2⟩:=qlk hr hx hk ha hs hsz
  clear hz
  cases a with
  | nl j=>
   cases j with
   | zero=>
    obtain ⟨r,hc,hz3⟩:=bnd hz2
    rw [qcz ha1]
    exact qed (kill:=none) hr (λ_ e=>by cases e) hd hsz q1 hc q2 hz3
   | succ j=>simp at hz2
  | so id=>
   simp only at hz2
   split at hz2
   ·rename_i u v ver ho
    split at hz2
    ·rename_i m' hm
     obtain ⟨rfl,e⟩:=qiz hm
     obtain ⟨r,hc,hz3⟩:=bnd hz2
     rw [q9r ha1 (q4l (.inl ho))]
     rw [<- e]at q1
     cases v with
     | nil=>exact qed (kill:=some id) hr (λ_ e=>by cases e; exact ha2) hd hsz q1 hc (λi hi=>List.mem_cons_of_mem _ (q2 i hi)) hz3
     | mk w=>
      have hb:=(hr.ob id _ ho).2.1.2.2 w rfl
      subst hsz
      refine qnu (w:=w) hr ha2 hd rfl hb (by simp) (by simp only [List.length_map]; omega) (by rw [<- List.length_map (f:=encE t)]; exact q99) q1 hc (λi hi=> ?_) hz3
      rcases List.mem_cons.1 hi with rfl | hi
      ·exact List.mem_cons_self ..
      ·exact List.mem_cons_of_mem _ (q2 i hi)
    ·simp at hz2
   ·simp at hz2
  | sb id ver lo u v=>
   simp only at hz2
   split at hz2
   ·rename_i u0 s0 v0 m' ho hm
    obtain ⟨rfl,e⟩:=qiz hm
    obtain ⟨hgd,hz2b⟩:=q00 hz2
    obtain ⟨r,hc,hz3⟩:=bnd hz2b
    rw [q7w ha1 ha3]
    rw [<- e]at q1
    cases v with
    | nil=>exact qed (kill:=some id) hr (λ_ e=>by cases e; exact ha2.1) hd hsz q1 hc (λi hi=>List.mem_cons_of_mem _ (q2 i hi)) hz3
    | mk w=>
     obtain ⟨u1,s1,ho1⟩:=q3d (h:=s.heap) (id:=id) (ver:=ver) (Bool.and_eq_true_iff.1 ha3).2
     obtain ⟨_,h4⟩:=ha2.2 u1 s1 ver ho1
     obtain ⟨h5,h6⟩:=h4 rfl
     have ho2:fO s.heap id=some (.ar u1 s1 ver):=by
      rcases ho1 with ho1 | ho1
      ·exact ho1
      ·rw [ho]at ho1; simp at ho1
     cases s1 with
     | nil=>exact h6.elim
     | mk l1=>
      have hb:=(hr.ob id _ ho2).2.1.2.2 l1 rfl
      subst hsz
      rw [h5]at hb
      refine qnu (w:=w) hr ha2.1 hd rfl hb (by simpa using h6.1) (by
       rw [ho2]at ho
       obtain ⟨rfl,e2,_⟩:u1=u0/\_:=by simpa using ho
       cases eq_of_heq e2
       have:=Nat.le_of_ble_eq_true hgd
       simpa [Sl.l]using this) h6.2 q1 hc (λi hi=> ?_) hz3
      rcases List.mem_cons.1 hi with rfl | hi
      ·exact List.mem_cons_self ..
      ·exact List.mem_cons_of_mem _ (q2 i hi)
   ·simp at hz2
  | _=>simp at hz2
 ·simp at hz
end
end Go.Ev

namespace Go.Ev
section
variable {h:H2}{n:Nat}{h1:Heap}{β:Type}{s:S2}{k:V->S2->List Nat->Option β}{z:β}
theorem qp1{id:Nat}{o o':O}{u:Upd}{x:TV}{v:V}{ids l:List Nat}(hr:HR s.next h1 s.heap)(ho:fO s.heap id=some o)(hs:OSt o o')(hu:∀p∈u,p.1=id)(hb:obR ((id,some o') :: s.heap) o' (look (u++h1) id))(hko:okO s.next ((id,some o') :: s.heap) o')
  (hx:tvR ((id,some o') :: s.heap) v x) (hk:okV s.next ((id,some o') :: s.heap) v) (hl:∀i∈ids,i∈l):Did s (updO s id (some o')) h1 x u ids s.next v l:=by
 refine Did.gen [id] hr (HSt.upd ho hs) rfl rfl (Nat.le_refl _) (Nat.le_refl _) hl rfl (λp hp=>by simp [hu p hp]) (λi hi=> ?_) (λi hi o2 ho2=> ?_) hx hk (λi _ h=>by simp only [updO]; rw [q0g,if_neg (λe=>by rw [e,h]at ho; cases ho)]; exact h)
 ·simp only [updO]; rw [q0g,if_neg λe=>hi (by simp [e])]
 ·obtain rfl:=List.mem_singleton.1 hi
  simp only [updO,q9l]at ho2
  obtain rfl:=Option.some.inj ho2
  exact ⟨(hr.ob _ _ ho).1,hb,hko⟩
theorem q8c{id ver:Nat}{t:Ty}{w w':Sl (El t)}{u:Upd}{x:TV}{v:V}{ids l:List Nat}(hr:HR s.next h1 s.heap)(ho:fO s.heap id=some (.ar t w ver))(hn:w.isNil=w'.isNil)(hlen:w.l.length=w'.l.length)(hu:∀p∈u,p.1=id)
  (hb:∀l,w'= .mk l->look (u++h1) id=some (.arr (szT t) (l.map (encE t)))) (hx:∀g,tvR g v x) (hk:∀n g,okV n g v) (hl:∀i∈ids,i∈l):Did s (updO s id (some (.ar t w' (ver+1)))) h1 x u ids s.next v l:=by
 obtain ⟨h2,h3,_⟩:=(hr.ob id _ ho).2.1
 exact qp1 hr ho ⟨Nat.le_succ _,rfl,hn,hlen,λe=>by omega⟩ hu ⟨h2,h3,hb⟩ trivial (hx _) (hk _ _) hl
theorem qoq{a x:V}{ya yx:TV}{t0:Ty}{sz:Nat} 
  (hz:(match slX t0 s.heap x with
  | some ⟨t,m,ids⟩=>bif szT t == sz then (match a with
   | .nl 0=>k (.x (.i .i64) (0:Int)) s ids
   | .so id=>(match fO s.heap id with
    | some (.ar u v ver)=>(match castE (.sl t) (.sl u) m with
     | some m=>k (.x (.i .i64) ((min m.l.length v.l.length:Nat):Int)) (updO s id (some (.ar u (v.to (cpL v.l 0 v.l.length m.l)) (ver+1)))) (id :: ids)
     | none=>none)
    | _=>none)
   | .sb id ver lo _ v=>(match fO s.heap id with
    | some (.ar u w ver')=>(match castE (.sl t) (.sl u) m with
     | some m=>bif ver' == ver then k (.x (.i .i64) ((min m.l.length v.l.length:Nat):Int)) (updO s id (some (.ar u (w.to (cpL w.l lo v.l.length m.l)) (ver+1)))) (id :: ids)else none
     | none=>none)
    | _=>none)
   | _=>none)else none
  | none=>none)=some z)
  (hr:HR s.next h1 s.heap) (ha1:tvR s.heap a ya) (ha2:okV s.next s.heap a) (ha3:alv s.heap a=true) (hx:tvR s.heap x yx) (hk:okV s.next s.heap x) (ha:alv s.heap x=true):Prt h1 (.copy sz) [ya,yx] s k z:=by
 have hmem:∀ {id:Nat} {ids l:List Nat},(∀ i∈ids,i∈l)->∀i∈id :: ids,i∈id :: l:=λq i hi=>by
  rcases List.mem_cons.1 hi with rfl | hi
  ·exact List.mem_cons_self ..
  ·exact List.mem_cons_of_mem _ (q i hi)
 split at hz
 ·rename_i t m l hs
  obtain ⟨h2,hz2⟩:=q00 hz
  obtain rfl:szT t=sz:=by simpa using h2
  obtain ⟨c,ids,rfl,q1,q2⟩:=qlk hr hx hk ha hs rfl
  clear hz
  cases a with
  | nl j=>
   cases j with
   | zero=>
    rw [qcz ha1]
    exact ⟨_,_,_,hz2,λcl=>⟨tI .i64 0, [],ids,s.next,by simp only [List.map_cons,List.map_nil,ev1,q4z,nlC,q1]; rfl,Did.pure hr (xi _ _) trivial q2⟩⟩
   | succ j=>simp at hz2
  | so id=>
   simp only at hz2
   split at hz2
   ·rename_i u v ver ho
    split at hz2
    ·rename_i m' hm
     obtain ⟨rfl,e⟩:=qiz hm
     rw [q9r ha1 (q4l (.inl ho))]
     rw [<- e]at q1
     cases v with
     | nil=>
      refine ⟨_,_,_,hz2,λcl=>⟨tI .i64 0, [],ids,s.next,by simp only [List.map_cons,List.map_nil,ev1,q4z,slC,q1]; rfl, ?_⟩⟩
      exact q8c hr ho rfl rfl (λp hp=>by simp at hp) (λl e=>by cases e) (λg=>by simpa [Sl.l]using xi .i64 0) (λ_ _=>trivial) λi hi=>List.mem_cons_of_mem _ (q2 i hi)
     | mk w=>
      have hb:=(hr.ob id _ ho).2.1.2.2 w rfl
      refine ⟨_,_,_,hz2,λcl=>⟨_,_,_,_,qvb hb q1, ?_⟩⟩
      refine q8c hr ho rfl ?_ (λp hp=>by simp at hp; simp [hp]) (λl e=> ?_) (λg=>xi _ _) (λ_ _=>trivial) (hmem q2)
      ·simp only [Sl.to,Sl.l]; rw [q9n (by omega)]
      ·simp only [Sl.to,Sl.l]at e
       cases e
       rw [List.singleton_append,q0i,if_pos rfl]; rfl
    ·simp at hz2
   ·simp at hz2
  | sb id ver lo u0 v=>
   simp only at hz2
   split at hz2
   ·rename_i u w ver' ho
    split at hz2
    ·rename_i m' hm
     obtain ⟨rfl,e⟩:=qiz hm
     obtain ⟨h3,hz3⟩:=q00 hz2
     obtain rfl:ver'=ver:=by simpa using h3
     rw [q7w ha1 ha3]
     rw [<- e]at q1
     obtain ⟨_,h4⟩:=ha2.2 t w ver' (.inl ho)
     obtain ⟨h5,h6⟩:=h4 rfl
     cases v with
     | nil=>
      cases w with
      | mk w=>exact h6.elim
      | nil=>
       refine ⟨_,_,_,hz3,λcl=>⟨tI .i64 0, [],ids,s.next,by simp only [List.map_cons,List.map_nil,ev1,q4z,sbC,q1]; rfl, ?_⟩⟩
       exact q8c hr ho rfl rfl (λp hp=>by simp at hp) (λl e=>by cases e) (λg=>by simpa [Sl.l]using xi .i64 0) (λ_ _=>trivial) λi hi=>List.mem_cons_of_mem _ (q2 i hi)
     | mk v=>
      cases w with
      | nil=>exact h6.elim
      | mk w=>
       have hb:=(hr.ob id _ ho).2.1.2.2 w rfl
       refine ⟨_,_,_,hz3,λcl=>⟨tI .i64 (min m'.l.length v.length:Nat), [(id,some (.arr (szT t) ((cpL w lo v.length m'.l).map (encE t))))],id :: ids,s.next, ?_, ?_⟩⟩
       ·simp only [List.map_cons,List.map_nil,ev1,q4z,sbC,q1,hb,<- h5]
        rw [if_pos ⟨trivial,by simpa using h6.1⟩]
        simp only [qoc,List.length_map]; rfl
       ·refine q8c hr ho rfl ?_ (λp hp=>by simp at hp; simp [hp]) (λl e=> ?_) (λg=>xi _ _) (λ_ _=>trivial) (hmem q2)
        ·simp only [Sl.to,Sl.l]; rw [q9n h6.1]
        ·simp only [Sl.to,Sl.l]at e
         cases e
         rw [List.singleton_append,q0i,if_pos rfl]; rfl
    ·simp at hz2
   ·simp at hz2
  | _=>simp at hz2
 ·simp at hz
theorem tup_0{g:H2}:tvR g (.tp .ni) (.tup []):=⟨[],rfl,rfl⟩
theorem qjv{a:V}{ya:TV}{zz:List Value}
  (hz:(match a with
  | .sb id ver lo _ v=>(match fO s.heap id with
   | some (.ar u w ver')=>bif (ver' == ver) && vsEq (zeL u) zz && okT u then (clrS w lo v.l.length (zeE u)).bind λw=>k (.tp .ni) (updO s id (some (.ar u w (ver+1)))) [id]else none
   | _=>none)
  | _=>none)=some z)
  (hr:HR s.next h1 s.heap) (ha1:tvR s.heap a ya) (ha2:okV s.next s.heap a) (ha3:alv s.heap a=true):Prt h1 (.clear zz) [ya] s k z:=by
 cases a with
 | sb id ver lo u0 v=>
  simp only at hz
  split at hz
  ·rename_i u w ver' ho
   obtain ⟨h3,hz2⟩:=q00 hz
   simp only [Bool.and_eq_true,beq_iff_eq]at h3
   obtain ⟨⟨rfl,q1⟩,q2⟩:=h3
   have q1:=q82 q1
   subst q1
   obtain ⟨hd,_⟩:=q6q q2
   obtain ⟨w',hw,hz3⟩:=bnd hz2
   rw [q7w ha1 ha3]
   obtain ⟨_,h4⟩:=ha2.2 u w ver' (.inl ho)
   obtain ⟨h5,h6⟩:=h4 rfl
   have hzl:litsD (zeL u)=encE u (zeE u):=(q8d u hd).symm
   have hlen:szT u=(zeL u).length:=by
    have:=congrArg List.length hzl
    rw [q05,litsD,List.length_map]at this
    exact this.symm
   cases w with
   | nil=>simp [clrS]at hw
   | mk w=>
    cases v with
    | nil=>exact h6.elim
    | mk v=>
     simp only [clrS,Option.some.injEq]at hw
     subst hw
     have hb:=(hr.ob id _ ho).2.1.2.2 w rfl
     refine ⟨_,_,_,hz3,λcl=>⟨.tup [], [(id,some (.arr (szT u) ((cpL w lo v.length (List.replicate v.length (zeE u))).map (encE u))))], [id],s.next, ?_, ?_⟩⟩
     ·simp only [List.map_cons,List.map_nil,ev1,q64,sbC,hb,<- h5]
      rw [if_pos ⟨hlen,by simpa using h6.1⟩,hzl,<- qoc]
      simp [List.length_map,List.map_replicate,List.take_of_length_le]
     ·refine q8c hr ho rfl ?_ (λp hp=>by simp at hp; simp [hp]) (λl e=> ?_) (λg=>tup_0) (λ_ _=>trivial) (λi hi=>hi)
      ·simp only [Sl.l]; rw [q9n (by simpa using h6.1)]
      ·cases e
       rw [List.singleton_append,q0i,if_pos rfl]; rfl
  ·simp at hz
 | _=>simp at hz
theorem qh5{id m:Nat}{t:Ty}{p:Path}{w:V}{ya yw:TV}(hr:HR s.next h1 s.heap)(ha1:tvR s.heap (.op id t p) ya)(ha2:okV s.next s.heap (.op id t p))(hx:tvR s.heap w yw)(hk:okV s.next s.heap w)
  (hz:(bif (szV w == m)then (match fO s.heap id with
  | some (.bx u c)=>bif decide (u=t)then (match tyP t p with
   | some a=>(match nrm a w with
    | some w=>(match setP c p w with | some c=>bif fitV c false t then k (.tp .ni) (updO s id (some (.bx t c))) [id]else none | none=>none)
    | none=>none)
   | none=>none)else none
  | _=>none)else none)=some z):Prt h1 (.store m) [ya,yw] s k z:=by
 obtain ⟨h2,hz2⟩:=q00 hz
 simp only [beq_iff_eq]at h2
 clear hz
 split at hz2
 ·rename_i u c ho
  obtain ⟨h3,hz3⟩:=q00 hz2
  simp only [decide_eq_true_eq]at h3
  subst h3
  clear hz2
  split at hz3
  ·rename_i a ha
   split at hz3
   ·rename_i w' hw
    split at hz3
    ·rename_i c' hc
     obtain ⟨h4,hz4⟩:=q00 hz3
     obtain ⟨cw,e1,e2⟩:=q6t (tvR_1 (qoe hw) hx)
     obtain ⟨q1,q2,q3,q4⟩:=qei hw e1 hk
     obtain ⟨_,⟨cs,e3,e4,e5⟩,e6⟩:=hr.ob id _ ho
     have l1:cw.length=szV w:=q1s e1
     have l2:cw.length=szT a:=by rw [q1s q1,q1i _ _ _ q2]
     have l3:cs.length=szT u:=by rw [q1s e4,q1i _ _ _ e5]
     have l4:=qco p u a ha ha2.2
     have q5:=qbh p c u w' c' cs cw a e5 e4 ha2.2 hc ha q1 l2
     have q6:=qna p c w' c' e6 q3 hc
     rw [qcy ha1]
     have hos:OSt (.bx u c) (.bx u c'):=rfl
     refine .upd hr ho hos hz4 (λcl=> ?_) (b:=some (.box (splice cs (ofP u p) cw))) ?_ ?_ tup_0 trivial (ids:= [id]) λi hi=>hi
     ·simp only [List.map_cons,List.map_nil,ev1,q44,e2]
      rw [if_pos (l1.trans h2)]
      simp only [e3]
      rw [if_pos (by omega)]
     ·exact ⟨_,rfl,q3h (HSt.upd ho hos) q6 q5,h4⟩
     ·exact q1j (Nat.le_refl _) (HSt.upd ho hos) q6
    ·simp at hz3
   ·simp at hz3
  ·simp at hz3
 ·simp at hz2
theorem Did.seq{s1 s':S2}{fu u:Upd}{x:TV}{ids a l:List Nat}{m:Nat}{v:V}(hst:HSt s.next s.heap s1.heap)(he:s1.env=s.env)(hg:s1.gh=s.gh)(hn:s1.next=s.next)(hwo:s1.wo=a++s.wo)(hu:∀p∈fu,p.1∈a)(hf:∀id,id∉a->fO s1.heap id=fO s.heap id)
  (hna:∀i∈a,fO s.heap i≠none) (hd:Did s1 s' (fu++h1) x u ids m v l):Did s s' h1 x (u++fu) ids m v l:=by
 obtain ⟨d1,d2,d3,d4,d5,d6,d7,d8,d9,d10,W,w1,w2,w3⟩:=hd
 refine ⟨d1,d2,by rw [List.append_assoc]; exact d3,HSt.trans (Nat.le_of_eq hn.symm) hst d4,d5.trans he,d6.trans hg,d7,by omega,d9,λi hi h=>d10 i (by omega) ((hf i λq=>hna i q h).trans h),W++a,by rw [w1,hwo,List.append_assoc],λp hp=> ?_,λi hi=> ?_⟩
 ·rcases List.mem_append.1 hp with hp | hp
  ·exact List.mem_append_left _ (w2 p hp)
  ·exact List.mem_append_right _ (hu p hp)
 ·rw [w3 i λq=>hi (List.mem_append_left _ q),hf i λq=>hi (List.mem_append_right _ q)]
theorem qsk{v w:V}{l:List Nat}(hf:frzV h v=some (w,l)):plV v:=by
 cases v <;> first | trivial | (simp [frzV]at hf)
theorem q5y{a b:List D}(e:a.map C.d=b.map C.d):a=b:=by
 induction a generalizing b with
 | nil=>cases b with
  | nil=>rfl
  | cons y b=>simp at e
 | cons x a ih=>cases b with
  | nil=>simp at e
  | cons y b=>
   simp only [List.map_cons,List.cons.injEq,C.d.injEq]at e
   rw [e.1,ih e.2]
theorem qw7:∀(p:Path) (t u:Ty),dat t=true->tyP t p=some u->dat u=true:=by
 intro p
 induction p with
 | nil=>
  intro t u hd h
  have e:tyP t []=some t:=by cases t <;> rfl
  rw [e]at h
  exact Option.some.inj h▸hd
 | cons q p ih=>
  intro t u hd h
  cases q with
  | fd i=>
   cases t with
   | st t=>
    simp only [tyP]at h
    split at h
    ·rename_i w hw
     exact ih w u (qg2 t i w hd hw) h
    ·simp at h
   | _=>simp [tyP]at h
  | ix i=>
   cases t with
   | ar l t=>exact ih t u hd h
   | _=>simp [tyP]at h
theorem qpc(t:Ty):ofP t []=0:=by cases t <;> rfl
theorem qko{t:Ty}{l:List (Sl (El t))}{ln:Option (Nat×Nat)}{m:Nat}{r:Sl (El t)}(h:slotB ln m=true):(q0z t l ln).set m (slotV t r)=q0z t (l.set m r) none:=by
 cases ln with
 | none=>simp only [q0z,List.map_set]
 | some q=>
  obtain ⟨m',i⟩:=q
  obtain rfl:m'=m:=Nat.eq_of_beq_eq_true h
  simp only [q0z,List.map_set,List.set_set]
theorem qjy{t:Ty}{l:List (Sl (El t))}{ln:Option (Nat×Nat)}:(q0z t l ln).length=l.length:=by
 cases ln with
 | none=>simp [q0z]
 | some q=>obtain ⟨m',i⟩:=q; simp [q0z]
theorem qdf{id id2 m:Nat}{t:Ty}{l:List (Sl (El t))}{ln:Option (Nat×Nat)}{o2:O}{r:Sl (El t)}{u:Upd}{ids:List Nat}(hr:HR s.next h1 s.heap)(ho:fO s.heap id=some (.rw t (.mk l) ln))(ho2:fO s.heap id2=some o2)(hne:id2≠id)(hlnm:slotB ln m=true)
  (hu:∀p∈u,p.1=id\/p.1=id2) (hb:look (u++h1) id=some (.nst (szT t) ((q0z t l ln).set m (slotV t r)))) (hids:∀i∈ids,i∈ [id,id2]):
  Did s (updO (updO s id2 none) id (some (.rw t (.mk (l.set m r)) none))) h1 (.tup []) u ids s.next (.tp .ni) [id,id2]:=by
 have hst:HSt s.next s.heap ((id,some (.rw t (.mk (l.set m r)) none)) :: (id2,none) :: s.heap):=by
  refine HSt.trans (Nat.le_refl _) (HSt.kill id2) (HSt.upd (o:= .rw t (.mk l) ln) ?_ ⟨rfl,rfl,by simp [Sl.l]⟩)
  rw [q0g,if_neg hne]; exact ho
 refine Did.gen [id,id2] hr hst rfl rfl (Nat.le_refl _) (Nat.le_refl _) hids rfl (λp hp=> ?_) (λi hi=> ?_) (λi hi o ho'=> ?_) tup_0 trivial (λi _ h=> ?_)
 ·rcases hu p hp with e | e <;> simp [e]
 ·simp only [List.mem_cons,List.not_mem_nil,or_false,not_or]at hi
  simp only [updO]
  rw [q0g,if_neg (λe=>hi.1 e.symm),q0g,if_neg (λe=>hi.2 e.symm)]
 ·simp only [updO]at ho'
  by_cases hi1:id=i
  ·subst hi1
   rw [q0g,if_pos rfl]at ho'
   obtain rfl:=Option.some.inj ho'
   obtain ⟨a,⟨d1,d2,_⟩,_⟩:=hr.ob _ _ ho
   exact ⟨a,⟨d1,d2,λl' e=>by cases e; rw [hb,qko hlnm]⟩,trivial⟩
  ·rw [q0g,if_neg hi1]at ho'
   simp only [List.mem_cons,List.not_mem_nil,or_false]at hi
   rcases hi with rfl | rfl
   ·exact absurd rfl hi1
   ·rw [q0g,if_pos rfl]at ho'; cases ho'
 ·simp only [updO]
  rw [q0g,if_neg (λe=>by subst e; rw [ho]at h; cases h),q0g,if_neg (λe=>by subst e; rw [ho2]at h; cases h)]
  exact h
theorem Did.nx{s s':S2}{x:TV}{u:Upd}{ids l:List Nat}{m q:Nat}{v:V}(d:Did s s' h1 x u ids m v l)(hq:q<=s'.next):Did s s' h1 x u ids q v l:=
 ⟨d.val,d.okv,d.hr,d.hst,d.env,d.gh,hq,d.le,d.ids,d.nb,d.wo⟩
theorem qi3{id m q:Nat}{t:Ty}{p:Path}{w:V}{ya yw:TV}(hr:HR s.next h1 s.heap)(ha1:tvR s.heap (.ep id m t p) ya)(ha2:okV s.next s.heap (.ep id m t p))(hx:tvR s.heap w yw)(hk:okV s.next s.heap w)(ha:alv s.heap w=true)
  (hz:(bif (szV w == q)then qm8 id m t p w s (λs l=>k (.tp .ni) s l)else none)=some z):Prt h1 (.store q) [ya,yw] s k z:=by
 obtain ⟨h2,hz2⟩:=q00 hz
 simp only [beq_iff_eq]at h2
 clear hz
 unfold qm8 at hz2
 split at hz2
 ·rename_i u v ln ho
  split at hz2
  ·rename_i id2
   split at hz2
   ·rename_i u2 r ver ho2
    split at hz2
    ·rename_i r' hr'
     obtain ⟨h3,hz3⟩:=q00 hz2
     simp only [Bool.and_eq_true,decide_eq_true_eq,Bool.not_eq_true',beq_eq_false_iff_ne]at h3
     obtain ⟨⟨rfl,hne⟩,hln⟩:=h3
     obtain ⟨e,e2⟩:=q0h hr'
     cases e
     obtain rfl:r'=r:=e2
     have hlen:=ha2.2.2.2 _ _ _ ho
     obtain ⟨_,⟨d1,d2,d3⟩,_⟩:=hr.ob id _ ho
     obtain ⟨_,⟨_,_,c3⟩,_⟩:=hr.ob id2 _ ho2
     cases v with
     | nil=>simp [Sl.l]at hlen
     | mk l=>
      have d3:=d3 l rfl
      have h2':q=1:=h2.symm
      subst h2'
      rw [q9z ha1,q9r hx (q4l (.inl ho2)),qpc]
      have hl2:m < (q0z u l ln).length:=by rw [qjy]; exact hlen
      cases r' with
      | nil=>
       refine ⟨_,_,_,hz3,λcl=>⟨.tup [], [(id,some (.nst (szT u) ((q0z u l ln).set m .nil)))], [id],s.next, ?_, ?_⟩⟩
       ·simp only [List.map_cons,List.map_nil,ev1,q44,slC,cellsOf,d3]
        rw [if_pos (show ([_]:List C).length=1 from rfl)]
        rw [if_pos ⟨trivial,trivial,hl2⟩]
        simp only [q8p]
       ·exact qdf hr ho ho2 hne hln (λp hp=>by simp at hp; simp [hp]) (by rw [List.singleton_append,q0i,if_pos rfl]; rfl) (λi hi=>by simp at hi; simp [hi])
      | mk rr=>
       have c3:=c3 rr rfl
       refine ⟨_,_,_,hz3,λcl=>⟨.tup [], [(id,some (.nst (szT u) ((q0z u l ln).set m (.own (rr.map (encE u)))))),(id2,none)], [id,id2],s.next, ?_, ?_⟩⟩
       ·simp only [List.map_cons,List.map_nil,ev1,q44,slC,cellsOf,d3]
        rw [if_pos (show ([_]:List C).length=1 from rfl)]
        rw [if_pos ⟨trivial,trivial,hl2⟩]
        simp only [q8p,c3]
        rw [if_pos ⟨trivial,by simp,hne⟩]
       ·exact qdf hr ho ho2 hne hln (λp hp=>by
         simp at hp
         rcases hp with rfl | rfl <;> simp) (by rw [List.cons_append,q0i,if_pos rfl]; rfl) (λi hi=>hi)
    ·simp at hz2
   ·simp at hz2
  ·simp at hz2
 ·rename_i u l ver ho
  split at hz2
  ·rename_i w' a hw
   obtain ⟨h3,hz3⟩:=q00 hz2
   simp only [decide_eq_true_eq]at h3
   subst h3
   clear hz2
   split at hz3
   ·rename_i b2 hb
    split at hz3
    ·rename_i y hy
     split at hz3
     ·rename_i c hc
      split at hz3
      ·rename_i y2 hy2
       split at hz3
       ·rename_i s1 hs1
        obtain ⟨h4,hz4⟩:=q00 hz3
        obtain ⟨cw,e1,e2⟩:=q6t (tvR_1 (qsk hw) hx)
        obtain ⟨ds,ids,f1,f2,f3,f4,f5⟩:=q8g hr w w' a cw hw e1 hk ha
        have e3:=q5y (q1v w' false b2 y _ hy f2)
        have hlen:=ha2.2.2.1 u l ver (.inl ho)
        have hnm:∀(ds:List D) (cs:List C) (ids:List Nat),q0r h1 cs=some (ds,ids)->ds.length=cs.length:=by
         intro ds cs
         induction cs generalizing ds with
         | nil=>intro ids h; obtain ⟨rfl,_⟩: []=ds/\ []=ids:=by simpa [q0r]using h
                rfl
         | cons c cs ih=>
          intro ids h
          simp only [q0r]at h
          split at h
          ·rename_i p1 p2 p3 p4 hp hq
           obtain ⟨rfl,rfl⟩:=Prod.mk.inj (Option.some.inj h)
           simp [ih _ _ hq]
          ·simp at h
        have l1:cw.length=szV w:=q1s e1
        have l2:ds.length=szT b2:=by rw [e3,q05]
        have l3:=hnm _ _ _ f1
        have l4:=qco p u b2 hb ha2.2.1
        cases l with
        | nil=>simp [Sl.l]at hlen
        | mk l=>
         obtain ⟨_,⟨d1,d2,d3⟩,_⟩:=hr.ob id _ ho
         have d3:=d3 l rfl
         have q5:=qbh (h:=s.heap) p (.x u (gt l m)) u (.x b2 y) c ((encE u (gt l m)).map .d) ((encE b2 y).map .d) b2 (by simp [fitV]) ⟨d1,rfl⟩ ha2.2.1 hc hb ⟨qw7 p u b2 d1 hb,rfl⟩ (by simp [q05])
         have q6:=q5o hy2 q5
         rw [<- q92]at q6
         have q7:=q5y q6
         obtain ⟨fu,g1,g2,g3,g4,g5,g6,g7,g8,g9⟩:=qhc (s0:=s) rfl hr a s1 ids ids hs1 f3 f4
         have hid:id∉a:=by simpa using h4
         have hid2:ids.contains id=false:=by
          cases hq:ids.contains id with
          | false=>rfl
          | true=>exact absurd ((f3 id (by simpa using hq)).1) hid
         rw [q9z ha1]
         refine ⟨_,_,_,hz4,λcl=>⟨.tup [],(id,some (.arr (szT u) ((l.set m y2).map (encE u)))) :: fu,id :: ids,s.next, ?_, ?_⟩⟩
         ·simp only [List.map_cons,List.map_nil]
          exact qtu d3 hlen e2 (l1.trans h2) f1 g1 hid2 (by rw [q05]; omega) (by rw [e3]; exact q7)
         ·have ho1:fO s1.heap id=some (.ar u (.mk l) ver):=by rw [g9 id hid]; exact ho
          rw [<- g6]at g2
          have:=q8c (v:= .tp .ni) (x:= .tup []) (ids:=id :: ids) (l:=id :: a) (u:= [(id,some (.arr (szT u) ((l.set m y2).map (encE u))))]) g2 ho1 (w':= .mk (l.set m y2)) rfl (by simp [Sl.l]) (λp hp=>by simp at hp; simp [hp]) (λl' e=>by cases e; rw [List.singleton_append,q0i,if_pos rfl]) (λ_=>tup_0) (λ_ _=>trivial) (λi hi=>by
           rcases List.mem_cons.1 hi with rfl | hi
           ·exact List.mem_cons_self ..
           ·exact List.mem_cons_of_mem _ (f3 i hi).1)
          rw [g6]at this
          exact Did.seq g3 g4 g5 g6 g7 g8 g9 (qoo rfl hs1) this
       ·simp at hz3
      ·simp at hz3
     ·simp at hz3
    ·simp at hz3
   ·simp at hz3
  ·simp at hz2
 ·simp at hz2
end
end Go.Ev

namespace Go.Ev
section
variable {h:H2}{n:Nat}{h1:Heap}{β:Type}{s:S2}{k:V->S2->List Nat->Option β}{z:β}
theorem q9f:∀ {cs:List C} {ds:List D} {ids:List Nat},q0r h1 cs=some (ds,ids)->ds.length=cs.length:=by
 intro cs
 induction cs with
 | nil=>intro ds ids h; obtain ⟨rfl,_⟩: []=ds/\ []=ids:=by simpa [q0r]using h
        rfl
 | cons c cs ih=>
  intro ds ids h
  simp only [q0r]at h
  split at h
  ·rename_i p1 p2 p3 p4 hp hq
   obtain ⟨rfl,rfl⟩:=Prod.mk.inj (Option.some.inj h)
   simp [ih hq]
  ·simp at h
theorem zrow{t:Ty}(hd:dat t=true)(m:Nat):(List.replicate m (zeE t)).flatMap (encE t)=litsD ((List.replicate m (zeL t)).flatten):=by
 induction m with
 | zero=>rfl
 | succ m ih=>simp only [List.replicate_succ,List.flatMap_cons,List.flatten_cons,ih,q8d t hd,litsD,List.map_append]
theorem qiu(l:List Value):lits l=(litsD l).map .d:=by simp [lits,litsD]
theorem qq9{t:Ty}(hd:dat t=true)(m:Nat):((List.replicate m (zeL t)).flatten).length=m * szT t:=by
 have:=congrArg List.length (zrow hd m)
 rw [q33 (q05 t),List.length_replicate,litsD,List.length_map]at this
 exact this.symm
theorem qhy{α:Type}{f:α->List D}{q:Nat}(hf:∀a,(f a).length=q):∀(l:List α),q4u q l.length (l.flatMap f)=l.map f:=by
 intro l
 induction l with
 | nil=>rfl
 | cons a l ih=>
  simp only [List.length_cons,q4u,List.flatMap_cons,List.map_cons]
  rw [List.take_left' (hf a),List.drop_left' (hf a),ih]
theorem qky{t:Ty}{len:Nat}(hr:HR n h1 h)(hd:dat t=true):∀(is:List Nat) (vs:List V) (m:Nat) (l:List (El t)) (a:List Nat) (pre:List C) (xs:List TV),rowsF h t len m is vs=some (l,a)->m<=len->pre.length=m * szT t->
  tvsR h vs xs->(∀ w∈vs,okV n h w)->(∀ w∈vs,alv h w=true)->
  ∃cs ids,fillC (pre++lits ((List.replicate (len - m) (zeL t)).flatten)) ((is.map λi=>(i * szT t,szT t)).zip xs)=some (pre++cs)/\q0r h1 cs=some (l.flatMap (encE t),ids)/\(∀ i∈ids,i∈a/\¬nilO h i)/\(∀ i∈a,i∈ids\/nilO h i)/\l.length=len - m:=by
 intro is
 induction is with
 | nil=>
  intro vs m l a pre xs hf hm hpre hx hk ha
  cases vs with
  | cons v vs=>simp [rowsF]at hf
  | nil=>
   simp only [rowsF,Option.some.injEq,Prod.mk.injEq]at hf
   obtain ⟨rfl,rfl⟩:=hf
   obtain rfl:=q3x hx
   refine ⟨_, [],rfl, ?_,λi hi=>by simp at hi,λi hi=>by simp at hi,by simp⟩
   rw [qiu,zrow hd]
   exact qeb _
 | cons i is ih=>
  intro vs m l a pre xs hf hm hpre hx hk ha
  cases vs with
  | nil=>simp [rowsF]at hf
  | cons v vs=>
   simp only [rowsF]at hf
   split at hf
   ·rename_i w a1 hw
    split at hf
    ·rename_i y hy
     obtain ⟨hc,hf⟩:=q00 hf
     simp only [Bool.and_eq_true,Nat.ble_eq,Nat.blt_eq]at hc
     obtain ⟨hmi,hil⟩:=hc
     split at hf
     ·rename_i l1 b hl1
      obtain ⟨rfl,rfl⟩:=Prod.mk.inj (Option.some.inj hf)
      obtain ⟨x,ys,rfl,hx1,hx2⟩:=q1g hx
      obtain ⟨cw,e1,e2⟩:=q6t (tvR_1 (qsk hw) hx1)
      obtain ⟨ds,ids,f1,f2,f3,f4,_⟩:=q8g hr v w a1 cw hw e1 (hk _ (by simp)) (ha _ (by simp))
      have e3:=q5y (q1v w false t y _ hy f2)
      subst e3
      have l1':cw.length=szT t:=by rw [<- q9f f1,q05]
      have lz:(lits ((List.replicate (i - m) (zeL t)).flatten)).length=(i - m) * szT t:=by simp only [lits,List.length_map]; exact qq9 hd _
      have lz1:(lits (zeL t)).length=szT t:=by
       rw [qiu,<- q8d t hd,List.length_map,q05]
      have hpl:(pre++lits ((List.replicate (i - m) (zeL t)).flatten)).length=i * szT t:=by
       rw [List.length_append,hpre,lz,<- Nat.add_mul,Nat.add_sub_cancel' hmi]
      obtain ⟨cs,jds,g1,g2,g3,g4,g5⟩:=ih vs (i+1) l1 b (pre++lits ((List.replicate (i - m) (zeL t)).flatten)++cw) ys hl1 hil (by rw [List.length_append,hpl,l1',Nat.add_mul,Nat.one_mul]) hx2 (λw hw=>hk w (by simp [hw])) (λw hw=>ha w (by simp [hw]))
      have hsplit:List.replicate (len - m) (zeL t)=List.replicate (i - m) (zeL t)++(zeL t :: List.replicate (len - (i+1)) (zeL t)):=by
       rw [<- List.replicate_succ,List.replicate_append_replicate]; congr 1; omega
      have hcells:pre++lits ((List.replicate (len - m) (zeL t)).flatten)=(pre++lits ((List.replicate (i - m) (zeL t)).flatten))++(lits (zeL t)++lits ((List.replicate (len - (i+1)) (zeL t)).flatten)):=by
       rw [hsplit,List.flatten_append,List.flatten_cons,q84,q84,List.append_assoc]
      refine ⟨lits ((List.replicate (i - m) (zeL t)).flatten)++(cw++cs),ids++jds, ?_, ?_,λj hj=> ?_,λj hj=> ?_,by simp [g5]; omega⟩
      ·simp only [List.map_cons,List.zip_cons_cons,fillC,e2]
       rw [if_pos ⟨l1',by rw [hcells,List.length_append,hpl,List.length_append,lz1]; omega⟩,hcells]
       have:splice ((pre++lits ((List.replicate (i - m) (zeL t)).flatten))++(lits (zeL t)++lits ((List.replicate (len - (i+1)) (zeL t)).flatten))) (i * szT t) cw=(pre++lits ((List.replicate (i - m) (zeL t)).flatten)++cw)++lits ((List.replicate (len - (i+1)) (zeL t)).flatten):=by
        have:=q8j (a:=pre++lits ((List.replicate (i - m) (zeL t)).flatten)) (b:=lits (zeL t)++lits ((List.replicate (len - (i+1)) (zeL t)).flatten)) (p:=cw) (off:=0)
        rw [hpl]at this
        refine Eq.trans this ?_
        rw [q8r (by omega),q3t (by omega)]
        simp only [List.append_assoc]
       rw [this,g1]
       simp only [List.append_assoc]
      ·rw [List.flatMap_append,List.flatMap_cons,zrow hd]
       have hz:q0r h1 (lits ((List.replicate (i - m) (zeL t)).flatten))=some (litsD ((List.replicate (i - m) (zeL t)).flatten), []):=by rw [qiu]; exact qeb _
       exact (q5z hz (q5z f1 g2):q0r h1 _=some (_, []++(ids++jds)))
      ·rcases List.mem_append.1 hj with hj | hj
       ·exact ⟨List.mem_append_left _ (f3 j hj).1,(f3 j hj).2⟩
       ·exact ⟨List.mem_append_right _ (g3 j hj).1,(g3 j hj).2⟩
      ·rcases List.mem_append.1 hj with hj | hj
       ·exact (f4 j hj).imp (List.mem_append_left _) id
       ·exact (g4 j hj).imp (List.mem_append_right _) id
     ·simp at hf
    ·simp at hf
   ·simp at hf
theorem qgd{t:Ty}{len sz:Nat}{zl:List Value}{pl:List Nat}{vs:List V}{xs:List TV} 
  (hz:bldS t sz len zl pl vs s k=some z)
  (hr:HR s.next h1 s.heap) (hx:tvsR s.heap vs xs) (hk:∀w∈vs,okV s.next s.heap w) (ha:∀w∈vs,alv s.heap w=true):Prt h1 (.buildSlice sz len zl pl) xs s k z:=by
 unfold bldS at hz
 obtain ⟨h2,hz2⟩:=q00 hz
 simp only [Bool.and_eq_true,beq_iff_eq]at h2
 obtain ⟨⟨rfl,h3⟩,h4⟩:=h2
 have h3:=q82 h3
 subst h3
 obtain ⟨hd,hs0⟩:=q6q h4
 clear hz
 split at hz2
 ·rename_i l a hl
  split at hz2
  ·rename_i s1 hs1
   obtain ⟨cs,ids,g1,g2,g3,g4,g5⟩:=qky hr hd pl vs 0 l a [] xs hl (Nat.zero_le _) (by simp) hx hk ha
   obtain ⟨fu,f1,f2,f3,f4,f5,f6,f7,f8,f9⟩:=qhc (s0:=s) rfl hr a s1 ids ids hs1 g3 g4
   refine ⟨_,_,_,hz2,λcl=>⟨.c (.osl (szT t) s.next 0 len),(s.next,some (.arr (szT t) (l.map (encE t)))) :: fu,ids,s.next+1, ?_, ?_⟩⟩
   ·have hc:q4u (szT t) len (l.flatMap (encE t))=l.map (encE t):=by
     have:=qhy (q05 t) l
     rwa [show l.length=len by simpa using g5]at this
    simp only [ev1,q40]
    have g1:fillC (lits ((List.replicate len (zeL t)).flatten)) ((pl.map λi=>(i * szT t,szT t)).zip xs)=some cs:=by simpa using g1
    rw [g1]
    simp only [g2,f1,hc]
   ·have hr1:HR s1.next (fu++h1) s1.heap:=by rw [f6]; exact f2
    have hd1:Did s1 (newO s1 (.ar t (.mk l) 0)) (fu++h1) (.c (.osl (szT t) s.next 0 len)) [(s1.next,some (.arr (szT t) (l.map (encE t))))] ids (s.next+1) (.so s1.next) a:=by
     refine Did.new hr1 (.inl rfl) (λ_=>⟨hd,hs0,λl' e=>by cases e; rfl⟩) trivial ?_ (Nat.lt_succ_self _) (λi hi=>(g3 i hi).1) (by rw [f6]; exact Nat.le_refl _)
     have:=qc8 (h:=s1.heap) (t:=t) (s:= .mk l) (v:=0) (nx:=s1.next)
     rw [f6]at this ⊢
     simpa [slC,show l.length=len by simpa using g5]using this
    rw [f6]at hd1
    exact Did.seq f3 f4 f5 f6 f7 f8 f9 (qoo rfl hs1) hd1
  ·simp at hz2
 ·simp at hz2
theorem qkh{ka va:Bool}{ks:List Kd}{zl:List Value}{id:Nat}{kv:V}{ya yk:TV}(hr:HR s.next h1 s.heap)(ha1:tvR s.heap (.om id) ya)(hx:tvR s.heap kv yk)
  (hz:(match fO s.heap id with
  | some (.mp kt vt m)=>(match cst kt kv with
   | some q=>bif (agT kt == ka) && (agT vt == va) && decide (kdT kt=some ks) && vsEq (zeL vt) zl && dat vt && (va || szT vt == 1)then
     k (.tp (.co (.x vt (mpEnt m (zeE vt) q).2.1) (.co (.x (.i .i64) (mpEnt m (zeE vt) q).2.2) .ni))) (updO s id (some (.mp kt vt (mpEnt m (zeE vt) q).1))) [id]else none
   | none=>none)
  | _=>none)=some z):Prt h1 (.mapEntry ka ks va zl) [ya,yk] s k z:=by
 split at hz
 ·rename_i kt vt m ho
  split at hz
  ·rename_i q hq
   obtain ⟨hc,hz2⟩:=q00 hz
   simp only [Bool.and_eq_true,beq_iff_eq,decide_eq_true_eq]at hc
   obtain ⟨⟨⟨⟨⟨c1,c2⟩,c3⟩,c4⟩,c5⟩,c6⟩:=hc
   rw [qng ha1]
   obtain ⟨_,_,k3,_⟩:=qe3 kt ks c3
   have hzz:litsD zl=encE vt (zeE vt):=by rw [q8d vt c5,q82 c4]
   have hv:∀y,valTV va (encE vt y)=some (tvx vt y):=λy=>qls y c2 c6
   have hkt:=qja hx hq c3 c1
   have e3:=(hr.ob id _ ho).2.1.2.2
   rw [<- c2]at c6
   have e4:look h1 id=mpO ka va (vlE kt) (encE vt) m:=by rw [<- c1,<- c2]; exact e3
   have hos:OSt (.mp kt vt m) (.mp kt vt (mpEnt m (zeE vt) q).1):=trivial
   refine .upd hr ho hos hz2 (λcl=>ent_m (z:=zeE vt) e4 hkt k3 hzz hv) ⟨c5,⟨ks,c3⟩,by rw [c1,c2]; rfl⟩ trivial ?_ ⟨trivial,trivial,trivial⟩ λi hi=>hi
   exact ⟨_,rfl,_,_,rfl,tvx_1 c5 c6,_,_,rfl,q0v rfl ⟨rfl,rfl⟩,rfl⟩
  ·simp at hz
 ·simp at hz
theorem qqc:∀(l:List D),dsOf (l.map .d)=some l:=by
 intro l
 induction l with
 | nil=>rfl
 | cons d l ih=>simp [dsOf,ih]
theorem qh3{va:Bool}{m0 id:Nat}{kd:IntKind}{st:Int}{w:V}{ya yw:TV}(hr:HR s.next h1 s.heap)(ha1:tvR s.heap (.om id) ya)(hx:tvR s.heap w yw)
  (hz:(match fO s.heap id with
  | some (.mp kt vt m)=>(match cst vt w with
   | some y=>bif (agT vt == va) && (szT vt == m0) && dat vt then (mpSet m st y).bind λm=>k (.tp .ni) (updO s id (some (.mp kt vt m))) [id]else none
   | none=>none)
  | _=>none)=some z):Prt h1 (.entryStore va m0) [ya,tI kd st,yw] s k z:=by
 split at hz
 ·rename_i kt vt m ho
  split at hz
  ·rename_i y hy
   obtain ⟨hc,hz2⟩:=q00 hz
   simp only [Bool.and_eq_true,beq_iff_eq]at hc
   obtain ⟨⟨rfl,rfl⟩,c3⟩:=hc
   obtain ⟨m',hm,hz3⟩:=bnd hz2
   rw [qng ha1]
   obtain ⟨_,hks,e3⟩:=(hr.ob id _ ho).2.1
   obtain ⟨g1,g2⟩:=qbo hx hy
   have hos:OSt (.mp kt vt m) (.mp kt vt m'):=trivial
   have hcs:(cellsOf yw).bind dsOf=some (encE vt y)/\qd7 yw=agT vt:=by
    cases hag:agT vt with
    | true=>rw [g1 hag]; exact ⟨by simp [cellsOf,qqc],rfl⟩
    | false=>
     obtain ⟨d,e,rfl⟩:=g2 hag
     exact ⟨by simp [cellsOf,dsOf,e],rfl⟩
   refine .upd hr ho hos hz3 (λcl=>est_m (va:=agT vt) (ek:=vlE kt) (ka:=agT kt) hm e3 hcs.1 (q05 vt y) hcs.2) ⟨c3,hks,rfl⟩ trivial tup_0 trivial λi hi=>hi
  ·simp at hz
 ·simp at hz
end
end Go.Ev

namespace Go.Ev
section
variable {h:H2}{n:Nat}{h1:Heap}{β:Type}{s:S2}{k:V->S2->List Nat->Option β}{z:β}
theorem qb0:∀ {r:List V} {l:List Int} {xs:List TV},ints r=some l->tvsR h r xs->∃ks:List IntKind,ks.length=l.length/\xs=(ks.zip l).map λp=>tI p.1 p.2:=by
 intro r
 induction r with
 | nil=>
  intro l xs hl hx
  obtain rfl: []=l:=by simpa [ints]using hl
  exact ⟨[],rfl,q3x hx⟩
 | cons v r ih=>
  intro l xs hl hx
  cases v with
  | x t v=>
   cases t with
   | i q=>
    simp only [ints]at hl
    split at hl
    ·rename_i l' hl'
     obtain rfl:=Option.some.inj hl
     obtain ⟨x,ys,rfl,h1,h2⟩:=q1g hx
     obtain ⟨ks,h3,rfl⟩:=ih hl' h2
     exact ⟨q :: ks,by simp [h3],by rw [tvR_i h1]; rfl⟩
    ·simp at hl
   | _=>simp [ints]at hl
  | _=>simp [ints]at hl
theorem qsh{r:List V}{xs:List TV}(hl:ints r=some [])(hx:tvsR h r xs):xs= []:=by
 obtain ⟨ks,h1,rfl⟩:=qb0 hl hx
 cases ks <;> simp_all
theorem qjj{r:List V}{a:Int}{xs:List TV}(hl:ints r=some [a])(hx:tvsR h r xs):∃q,xs= [tI q a]:=by
 obtain ⟨ks,h1,rfl⟩:=qb0 hl hx
 cases ks with
 | nil=>simp at h1
 | cons q ks=>exact ⟨q,by cases ks <;> simp_all⟩
theorem qs9{r:List V}{a b:Int}{xs:List TV}(hl:ints r=some [a,b])(hx:tvsR h r xs):∃q q',xs= [tI q a,tI q' b]:=by
 obtain ⟨ks,h1,rfl⟩:=qb0 hl hx
 cases ks with
 | nil=>simp at h1
 | cons q ks=>
  cases ks with
  | nil=>simp at h1
  | cons q' ks=>exact ⟨q,q',by cases ks <;> simp_all⟩
theorem qie{x y:ByteArray}{lo hi:Option Int}(hs:subS x (lo.getD 0) (hi.getD x.size)=some y)(sz:Nat):q13 true sz (.d (dS x)) lo hi=some (.d (dS y)):=by
 unfold subS at hs
 split at hs
 ·rename_i hb
  obtain rfl:=Option.some.inj hs
  simp only [q13,if_true]
  rw [if_pos hb]
 ·simp at hs
theorem qho{x:ByteArray}{r:List V}{lo hi:Bool}{sz:Nat}{y:TV}{ys:List TV}(hr:HR s.next h1 s.heap)(hy:tvR s.heap (.x .s x) y)(hys:tvsR s.heap r ys)
  (hz:(match lo,hi,ints r with
  | false,false,some []=>(subS x 0 x.size).bind λy=>k (.x .s y) s []
  | true,false,some [l]=>(subS x l x.size).bind λy=>k (.x .s y) s []
  | false,true,some [u]=>(subS x 0 u).bind λy=>k (.x .s y) s []
  | true,true,some [l,u]=>(subS x l u).bind λy=>k (.x .s y) s []
  | _,_,_=>none)=some z):Prt h1 (.slice true sz lo hi) (y :: ys) s k z:=by
 rw [tvR_s hy]
 split at hz
 ·rename_i hi
  obtain rfl:=qsh hi hys
  obtain ⟨w,hw,hz2⟩:=bnd hz
  exact .pure hr hz2 (λ_=>by simp only [List.map_cons,List.map_nil,ev1]; rw [qie (lo:=none) (hi:=none) hw]) (xs_ w) trivial
 ·rename_i l hi
  obtain ⟨q,rfl⟩:=qjj hi hys
  obtain ⟨w,hw,hz2⟩:=bnd hz
  exact .pure hr hz2 (λ_=>by simp only [List.map_cons,List.map_nil,ev1,intOf?]; rw [qie (lo:=some l) (hi:=none) hw]) (xs_ w) trivial
 ·rename_i l hi
  obtain ⟨q,rfl⟩:=qjj hi hys
  obtain ⟨w,hw,hz2⟩:=bnd hz
  exact .pure hr hz2 (λ_=>by simp only [List.map_cons,List.map_nil,ev1,intOf?]; rw [qie (lo:=none) (hi:=some l) hw]) (xs_ w) trivial
 ·rename_i l u hi
  obtain ⟨q,q',rfl⟩:=qs9 hi hys
  obtain ⟨w,hw,hz2⟩:=bnd hz
  exact .pure hr hz2 (λ_=>by simp only [List.map_cons,List.map_nil,ev1,intOf?]; rw [qie (lo:=some l) (hi:=some u) hw]) (xs_ w) trivial
 ·simp at hz
theorem qgw{x:V}{r:List V}{lo hi:Bool}{sz:Nat}{y:TV}{ys:List TV}(hr:HR s.next h1 s.heap)(hy:tvR s.heap x y)(hk:okV s.next s.heap x)(ha:alv s.heap x=true)(hys:tvsR s.heap r ys)
  (hz:(match lo,hi,ints r,lenV s.heap x with
  | false,false,some [],some n=>cutK sz s.heap x 0 n λv=>k v s []
  | true,false,some [l],some n=>cutK sz s.heap x l n λv=>k v s []
  | false,true,some [u],some _=>cutK sz s.heap x 0 u λv=>k v s []
  | true,true,some [l,u],some _=>cutK sz s.heap x l u λv=>k v s []
  | _,_,_,_=>none)=some z):Prt h1 (.slice false sz lo hi) (y :: ys) s k z:=by
 split at hz
 ·rename_i m hi hm
  obtain rfl:=qsh hi hys
  obtain ⟨v,c,c',rfl,h3,h4,h5,h6⟩:=qj0 (lo:=none) (hi:=none) hr hy hk ha hm hz
  exact .pure hr h3 (λ_=>by simp only [List.map_cons,List.map_nil,ev1]; rw [h4]) h5 h6
 ·rename_i l m hi hm
  obtain ⟨q,rfl⟩:=qjj hi hys
  obtain ⟨v,c,c',rfl,h3,h4,h5,h6⟩:=qj0 (lo:=some l) (hi:=none) hr hy hk ha hm hz
  exact .pure hr h3 (λ_=>by simp only [List.map_cons,List.map_nil,ev1,intOf?]; rw [h4]) h5 h6
 ·rename_i u m hi hm
  obtain ⟨q,rfl⟩:=qjj hi hys
  obtain ⟨v,c,c',rfl,h3,h4,h5,h6⟩:=qj0 (lo:=none) (hi:=some u) hr hy hk ha hm hz
  exact .pure hr h3 (λ_=>by simp only [List.map_cons,List.map_nil,ev1,intOf?]; rw [h4]) h5 h6
 ·rename_i l u m hi hm
  obtain ⟨q,q',rfl⟩:=qs9 hi hys
  obtain ⟨v,c,c',rfl,h3,h4,h5,h6⟩:=qj0 (lo:=some l) (hi:=some u) hr hy hk ha hm hz
  exact .pure hr h3 (λ_=>by simp only [List.map_cons,List.map_nil,ev1,intOf?]; rw [h4]) h5 h6
 ·simp at hz
theorem qtk{t:Ty}{l:List (Sl (El t))}{m:Nat}(hm:m < l.length):(l.map (slotV t))[m]? =some (slotV t (gt l m)):=by
 rw [List.getElem?_map,List.getElem?_eq_getElem hm]
 simp [gt,List.getD,List.getElem?_eq_getElem hm]
theorem qs2{α:Type}{l:List α}{m:Nat}{x:α}(h:l[m]? =some x):l.set m x=l:=by
 obtain ⟨hm,rfl⟩:=List.getElem?_eq_some_iff.1 h
 exact List.set_getElem_self hm
theorem ql2{id m:Nat}{u:Ty}{y:TV}(hr:HR s.next h1 s.heap)(hx:tvR s.heap (.ep id m u []) y)(hk:okV s.next s.heap (.ep id m u []))
  (hz:(match fO s.heap id with
  | some (.rw t v none)=>bif decide (u= .sl t)then k (.so s.next) (newO (updO s id (some (.rw t v (some (m,s.next))))) (.ar t (gt v.l m) 0)) [id]else none
  | _=>none)=some z):Prt h1 .loadN [y] s k z:=by
 split at hz
 ·rename_i t v ho
  obtain ⟨h2,hz2⟩:=q00 hz
  simp only [decide_eq_true_eq]at h2
  subst h2
  rw [q9z hx,qpc]
  have hlen:=hk.2.2.2 _ _ _ ho
  obtain ⟨hid,⟨d1,d2,d3⟩,_⟩:=hr.ob id _ ho
  cases v with
  | nil=>simp [Sl.l]at hlen
  | mk l=>
   have d3:=d3 l rfl
   have hlen:m < l.length:=hlen
   have hst:HSt s.next s.heap ((s.next,some (.ar t (gt l m) 0)) :: (id,some (.rw t (.mk l) (some (m,s.next)))) :: s.heap):=
    HSt.trans (Nat.le_refl _) (HSt.upd (o':= .rw t (.mk l) (some (m,s.next))) ho ⟨rfl,rfl,rfl⟩) (HSt.new _)
   have key:∀ {x:TV} {u:Upd},tvR ((s.next,some (.ar t (gt l m) 0)) :: (id,some (.rw t (.mk l) (some (m,s.next)))) :: s.heap) (.so s.next) x->(∀ p∈u,p.1=s.next\/p.1=id)->
     look (u++h1) id=some (.nst (szT t) (q0z t l (some (m,s.next))))->(∀ rr,gt l m= .mk rr->look (u++h1) s.next=some (.arr (szT t) (rr.map (encE t))))->∀ {q:Nat},q<=s.next+1->
     Did s (newO (updO s id (some (.rw t (.mk l) (some (m,s.next))))) (.ar t (gt l m) 0)) h1 x u [id] q (.so s.next) [id]:=by
    intro x u hx2 hu hb hb2 q hq
    refine Did.gen [s.next,id] hr hst rfl rfl hq (Nat.le_succ _) (λi hi=>hi) rfl (λp hp=> ?_) (λi hi=> ?_) (λi hi o ho'=> ?_) hx2 (Nat.lt_succ_self _) (λi hi h=> ?_)
    ·rcases hu p hp with e | e <;> simp [e]
    ·simp only [List.mem_cons,List.not_mem_nil,or_false,not_or]at hi
     simp only [newO,updO]
     rw [q0g,if_neg (λe=>hi.1 e.symm),q0g,if_neg (λe=>hi.2 e.symm)]
    ·simp only [newO,updO]at ho' ⊢
     by_cases hi1:s.next=i
     ·subst hi1
      rw [q0g,if_pos rfl]at ho'
      obtain rfl:=Option.some.inj ho'
      exact ⟨Nat.lt_succ_self _,⟨d1,d2,λrr e=>hb2 rr e⟩,trivial⟩
     ·rw [q0g,if_neg hi1]at ho'
      simp only [List.mem_cons,List.not_mem_nil,or_false]at hi
      rcases hi with rfl | rfl
      ·exact absurd rfl hi1
      ·rw [q0g,if_pos rfl]at ho'
       obtain rfl:=Option.some.inj ho'
       refine ⟨by omega,⟨d1,d2,λl' e=>by cases e; exact hb⟩,hlen,Nat.lt_succ_self _,λu' r' v' hf=> ?_⟩
       simp only [q9l]at hf
       rcases hf with hf | hf <;> cases hf
       exact ⟨rfl,rfl⟩
    ·simp only [newO,updO]
     rw [q0g,if_neg (by omega),q0g,if_neg (λe=>by subst e; rw [ho]at h; cases h)]
     exact h
   have hs:=qtk (t:=t) hlen
   refine ⟨_,_,_,hz2,λcl=> ?_⟩
   cases hg:gt l m with
   | nil=>
    refine ⟨_, [], [id],s.next, ?_,key (x:= .c (.d (.lit (.slice none 0 0)))) ?_ (λp hp=>by simp at hp) ?_ (λrr e=>by rw [hg]at e; cases e) (Nat.le_succ _)⟩
    ·simp only [List.map_cons,List.map_nil,ev1,q20,d3]
     rw [hg]at hs
     simp only [q3o,d3,q0z,hs,slotV]
     rfl
    ·rw [hg]; exact qc8
    ·rw [List.nil_append,d3]
     simp only [q0z,hg,outV]
     rw [qs2 (by rw [hs,hg]; rfl)]
   | mk rr=>
    refine ⟨_, [(s.next,some (.arr (szT t) (rr.map (encE t)))),(id,some (.nst (szT t) ((l.map (slotV t)).set m (.out s.next (rr.map (encE t)).length))))], [id],s.next+1, ?_,key (x:= .c (.osl (szT t) s.next 0 (rr.map (encE t)).length)) ?_ (λp hp=>by
     simp at hp
     rcases hp with rfl | rfl <;> simp) ?_ (λr2 e=> ?_) (Nat.le_refl _)⟩
    ·simp only [List.map_cons,List.map_nil,ev1,q20,d3]
     rw [hg]at hs
     simp only [q3o,d3,q0z,hs,slotV]
     rfl
    ·rw [hg]; exact qc8
    ·rw [List.cons_append,q0i,if_neg (by omega),List.cons_append,q0i,if_pos rfl]
     simp only [q0z,hg,outV,List.length_map]
    ·rw [hg]at e; cases e
     rw [List.cons_append,q0i,if_pos rfl]
 ·simp at hz
theorem qqs{szi:Nat}{t:Ty}{q q':IntKind}{a b:Int}(hr:HR s.next h1 s.heap)
  (hz:(bif (szT t == szi) && okT t then (mkI (Sl.nil:Sl (El t)) a b).bind λr=>k (.sr s.next) (newO s (.rw t (.mk r) none)) []else none)=some z):Prt h1 (.mkNst szi) [tI q a,tI q' b] s k z:=by
 obtain ⟨hq,hp2⟩:=q00 hz
 simp only [Bool.and_eq_true,beq_iff_eq]at hq
 obtain ⟨rfl,q2⟩:=hq
 obtain ⟨hd,hs0⟩:=q6q q2
 obtain ⟨r,hr2,hz3⟩:=bnd hp2
 unfold mkI at hr2
 split at hr2
 ·rename_i hb
  obtain rfl:=Option.some.inj hr2
  refine .new (ids:= []) hr hz3 (b:=some (.nst (szT t) (List.replicate a.toNat .nil))) (x:= .c (.osl 1 s.next 0 a.toNat)) (λ_=> ?_) ⟨hd,hs0,λl' e=>by cases e; simp [q0z,slotV]⟩ trivial ?_ (Nat.lt_succ_self _) λi hi=>by simp at hi
  ·simp only [List.map_cons,List.map_nil,ev1,intOf?]
   rw [if_pos (by simpa [lim]using hb)]
  ·refine q0e (q0v rfl ⟨_,rfl,λc' hc'=> ?_, ?_⟩)
   ·rw [q9l]at hc'
    obtain rfl:=Option.some.inj hc'
    simp [slC]
   ·have:=qi7 (sz:=1) (id:=s.next) (e:=encE (.sl t)) (s:= .mk (List.replicate a.toNat (Sl.nil:Sl (El t))))
    simpa [slC]using this
 ·simp at hr2
theorem qjw{o:OP}{vs:List V}{xs:List TV}(hp:part o vs s k=some z)(hr:HR s.next h1 s.heap)(hx:tvsR s.heap vs xs)(hk:∀w∈vs,okV s.next s.heap w)(ha:∀w∈vs,alv s.heap w=true):Prt h1 o.o.k xs s k z:=by
 obtain ⟨⟨d,kk,args,g⟩,t,fi⟩:=o
 simp only
 unfold part at hp
 simp only at hp
 split at hp
 ·-- quo
  obtain ⟨x,y,rfl,h2,h3⟩:=q2t hx
  rw [tvR_i h2,tvR_i h3]
  obtain ⟨hq,hp2⟩:=q00 hp
  simp only [decide_eq_true_eq]at hq
  subst hq
  obtain ⟨r,hr2,hz⟩:=bnd hp2
  exact .pure hr hz (λ_=>qvi hr2) (xi _ _) trivial
 ·obtain ⟨x,y,rfl,h2,h3⟩:=q2t hx
  rw [tvR_i h2,tvR_i h3]
  obtain ⟨hq,hp2⟩:=q00 hp
  simp only [decide_eq_true_eq]at hq
  subst hq
  obtain ⟨r,hr2,hz⟩:=bnd hp2
  exact .pure hr hz (λ_=>qvc hr2) (xi _ _) trivial
 ·obtain ⟨x,y,rfl,h2,h3⟩:=q2t hx
  rw [tvR_i h2,tvR_i h3]
  obtain ⟨r,hr2,hz⟩:=bnd hp
  exact .pure hr hz (λ_=>qvy hr2) (xi _ _) trivial
 ·obtain ⟨x,y,rfl,h2,h3⟩:=q2t hx
  rw [tvR_i h2,tvR_i h3]
  obtain ⟨r,hr2,hz⟩:=bnd hp
  exact .pure hr hz (λ_=>qvm hr2) (xi _ _) trivial
 ·obtain ⟨x,y,rfl,h2,h3⟩:=q2t hx
  rw [tvR_s h2,tvR_s h3]
  obtain ⟨r,hr2,hz⟩:=bnd hp
  exact .pure hr hz (λ_=>qwq hr2) (xs_ _) trivial
 ·-- alloc
  rename_i zl
  obtain rfl:=q3x hx
  obtain ⟨hq,hp2⟩:=q00 hp
  simp only [Bool.and_eq_true]at hq
  obtain ⟨q1,q2⟩:=hq
  have q1:=q82 q1
  subst q1
  refine .new (ids:= []) hr hp2 (x:= .c (.op s.next 0)) (λ_=>rfl) ⟨_,rfl, ?_,q2⟩ ?_ (q0e (q0v rfl (by cases t <;> rfl))) ⟨Nat.lt_succ_self _,by cases t <;> trivial⟩ λi hi=>by simp at hi
  ·exact ((qe9 (h:=(s.next,some (.bx t (zeV t))) :: s.heap) (n:=s.next+1) t).1 q2).1
  ·exact ((qe9 (h:=(s.next,some (.bx t (zeV t))) :: s.heap) (n:=s.next+1) t).1 q2).2
 ·-- box
  obtain ⟨x,rfl,h2⟩:=q2p hx
  split at hp
  ·rename_i w hw
   obtain ⟨cw,e1,e2⟩:=q6t (tvR_1 (qoe hw) h2)
   obtain ⟨q1,q2,q3,_⟩:=qei hw e1 (hk _ (by simp))
   refine .new (ids:= []) hr hp (x:= .c (.op s.next 0)) (λ_=>by simp only [List.map_cons,List.map_nil,ev1,e2]) ⟨_,rfl,q3h (HSt.new _) q3 q1,q2⟩ (q1j (Nat.le_succ _) (HSt.new _) q3) (q0e (q0v rfl (by cases t <;> rfl))) ⟨Nat.lt_succ_self _,by cases t <;> trivial⟩ λi hi=>by simp at hi
  ·simp at hp
 ·exact qgd hp hr hx hk ha
 ·-- store
  obtain ⟨x,y,rfl,h2,h3⟩:=q2t hx
  exact qh5 hr h2 (hk _ (by simp)) h3 (hk _ (by simp)) hp
 ·-- loadN
  obtain ⟨x,rfl,h2⟩:=q2p hx
  exact ql2 hr h2 (hk _ (by simp)) hp
 ·-- mkNst
  obtain ⟨x,y,rfl,h2,h3⟩:=q2t hx
  rw [tvR_i h2,tvR_i h3]
  split at hp
  ·exact qqs hr hp
  ·simp at hp
 ·obtain ⟨x,y,rfl,h2,h3⟩:=q2t hx
  exact qi3 hr h2 (hk _ (by simp)) h3 (hk _ (by simp)) (ha _ (by simp)) hp
 ·-- makeSlice
  rename_i zl _ l _ c
  obtain ⟨x,y,rfl,h2,h3⟩:=q2t hx
  rw [tvR_i h2,tvR_i h3]
  obtain ⟨hq,hp2⟩:=q00 hp
  simp only [Bool.and_eq_true]at hq
  obtain ⟨q1,q2⟩:=hq
  have q1:=q82 q1
  subst q1
  obtain ⟨hd,hs0⟩:=q6q q2
  obtain ⟨r,hr2,hz⟩:=bnd hp2
  have hzl:litsD (zeL t)=encE t (zeE t):=(q8d t hd).symm
  have hlen:(zeL t).length=szT t:=by
   have:=congrArg List.length hzl
   rwa [q05,litsD,List.length_map]at this
  refine .new hr hz (λ_=>qup hzl hr2) ⟨hd,hs0,λl' e=>by cases e; rw [hlen]⟩ trivial ?_ (Nat.lt_succ_self _) λi hi=>by simp at hi
  rw [hlen]
  exact qc8 (s:= .mk r)
 ·-- slice of a string
  obtain ⟨y,ys,rfl,h2,h3⟩:=q1g hx
  exact qho hr h2 h3 hp
 ·obtain ⟨y,ys,rfl,h2,h3⟩:=q1g hx
  exact qgw hr h2 (hk _ (by simp)) (ha _ (by simp)) h3 hp
 ·obtain ⟨x,y,rfl,h2,h3⟩:=q2t hx
  rw [tvR_i h3]
  exact qpm hp hr h2 (hk _ (by simp)) (ha _ (by simp))
 ·obtain ⟨x,y,rfl,h2,h3⟩:=q2t hx
  rw [tvR_i h3]
  exact qrv hp hr h2 (hk _ (by simp))
 ·-- indexStr
  obtain ⟨x,y,rfl,h2,h3⟩:=q2t hx
  rw [tvR_s h2,tvR_i h3]
  obtain ⟨r,hr2,hz⟩:=bnd hp
  exact .pure hr hz (λ_=>ev_at hr2) (xi _ _) trivial
 ·-- index
  rename_i ag n0 sz0 n' u v _ i
  obtain ⟨x,y,rfl,h2,h3⟩:=q2t hx
  rw [tvR_i h3]
  obtain ⟨hq,hp2⟩:=q00 hp
  simp only [Bool.and_eq_true,beq_iff_eq]at hq
  obtain ⟨⟨⟨⟨rfl,rfl⟩,q3⟩,q4⟩,q5⟩:=hq
  obtain ⟨m,hm,hz⟩:=bnd hp2
  obtain ⟨rfl,hm2⟩:=q2h.1 hm
  rw [ag_x h2]
  obtain ⟨a1,a2⟩:=qib v hm2
  have hc:chk s.heap ag (szT u) (.x u (gt v.1 m))=true:=by simp [chk,agV,szV,alv,q3,q4,q5]
  obtain ⟨x,e1,e2⟩:=q6e (cs:=(encE (.ar n' u) v).map .d) (off:=m * szT u) (cw:=(encE u (gt v.1 m)).map .d) hc ⟨q4,rfl⟩ (by simpa using a1) (by rw [<- List.map_drop,<- List.map_take,a2])
  refine .pure hr hz (x:=x) (λ_=> ?_) e2 trivial
  simp only [List.map_cons,List.map_nil,ev1,intOf?]
  rw [if_pos ⟨by omega,by omega⟩]
  simp only [Int.toNat_natCast,e1]
 ·-- append
  obtain ⟨x,y,rfl,h2,h3⟩:=q2t hx
  exact qgo (t0:=t) hp hr h2 (hk _ (by simp)) (ha _ (by simp)) h3 (hk _ (by simp)) (ha _ (by simp))
 ·obtain ⟨x,y,rfl,h2,h3⟩:=q2t hx
  exact qoq (t0:=t) hp hr h2 (hk _ (by simp)) (ha _ (by simp)) h3 (hk _ (by simp)) (ha _ (by simp))
 ·-- clear
  obtain ⟨y,rfl,h2⟩:=q2p hx
  exact qjv hp hr h2 (hk _ (by simp)) (ha _ (by simp))
 ·-- makeMap
  obtain rfl:=q3x hx
  split at hp
  ·rename_i kt vt
   obtain ⟨hq,hp2⟩:=q00 hp
   simp only [Bool.and_eq_true,beq_iff_eq]at hq
   obtain ⟨⟨⟨rfl,rfl⟩,q3⟩,q4⟩:=hq
   obtain ⟨ks,hks⟩:=Option.isSome_iff_exists.1 q4
   exact .new hr hp2 (x:= .c (.om s.next)) (λ_=>rfl) ⟨q3,⟨ks,hks⟩,rfl⟩ trivial (q0e (q0v rfl rfl)) (Nat.lt_succ_self _) λi hi=>by simp at hi
  ·simp at hp
 ·obtain ⟨x,y,rfl,h2,h3⟩:=q2t hx
  exact qkh hr h2 h3 hp
 ·obtain ⟨x,y,w,rfl,h2,h3,h4⟩:=qv9 hx
  rw [tvR_i h3]
  exact qh3 hr h2 h4 hp
 ·simp at hp
end
end Go.Ev
