/- What is done of a round: rows cloned, moves laid; what a switch's ports then are. Conditions: lengths as stated. -/
import Derived.Test.YthcplpfiidlinaaLK
open Go.Ev Go
namespace Go.Proofs.Ythcplpfiidlinaa.L
theorem q9c{α:Type} [Inhabited α] {l:List α}{i j:Nat}{x:α}:gt (l.set i x) j=if i=j/\j < l.length then x else gt l j:=by
 simp only [gt,List.getD,List.getElem?_set]
 by_cases h:i=j
 ·subst h
  by_cases hl:i < l.length
  ·simp [hl]
  ·simp [hl]
 ·simp [h]
theorem qsw{α:Type} [Inhabited α] {l:List α}{i:Nat}(h:i < l.length):l.set i (gt l i)=l:=by
 rw [gt_eq h]; exact List.set_getElem_self h
theorem qsa{α:Type} [Inhabited α] {a b:List α}(hl:a.length=b.length)(h:∀i,i < b.length->gt a i=gt b i):a=b:=by
 refine List.ext_getElem hl λi h1 h2=> ?_
 have:=h i h2
 rwa [gt_eq h1,gt_eq h2]at this
theorem qln{s:Sl Int}(hb:s.l.length<=2147483648):q1t s=some s:=by
 unfold q1t
 cases s with
 | nil=>rfl
 | mk l=>
  have hb:l.length<=2147483648:=hb
  simp only [Sl.isNil,cond_false,Sl.l_mk,List.nil_append,q3e hb,Option.bind_some]
  cases l <;> rfl
theorem qnl{r:Sl (Sl Int)}(hb:r.l.length<=2147483648)(hr:∀row∈r.l,row.l.length<=2147483648):q66 r=some (.mk r.l):=by
 have main:∀(d i:Nat) (s:List (Sl Int)),i+d=r.l.length->s.length=r.l.length->(∀ j,j < i->gt s j=gt r.l j)->loopO (q30 r) ((i:Int), .mk s)=some (.mk r.l):=by
  intro d
  induction d with
  | zero=>
   intro i s hi hs hj
   obtain rfl:i=r.l.length:=by omega
   obtain rfl:s=r.l:=qsa hs hj
   exact q0u (by simp only [q30,lt_f,cond_false])
  | succ d ih=>
   intro i s hi hs hj
   have hlt:i < r.l.length:=by omega
   have h1:=qln (hr (gt r.l i) (by rw [gt_eq hlt]; exact List.getElem_mem _))
   refine (q1f (by simp only [q30,lt_t hlt,cond_true,q08 hlt,Option.bind_some,h1,Sl.l_mk,q08 (show i < s.length by omega),wr_s (show i < 9223372036854775807 by omega)])).trans (ih (i+1) (s.set i (gt r.l i)) (by omega) (by rw [List.length_set]; exact hs) λj hj2=> ?_)
   rw [q9c]
   split
   ·rename_i h; rw [h.1]
   ·rename_i h; exact hj j (by omega)
 have e:mkI (Sl.nil:Sl Int) (r.l.length:Int) (r.l.length:Int)=some (List.replicate r.l.length Sl.nil):=by
  unfold mkI
  rw [if_pos ⟨by omega,by omega,by omega⟩]; rfl
 have:=main r.l.length 0 (List.replicate r.l.length Sl.nil) (by omega) (by simp) (λj hj=>by omega)
 have this:loopO (q30 r) (0, .mk (List.replicate r.l.length Sl.nil))=_:=this
 simp only [q66,e,Option.bind_some,this]
def layF(r:List (Sl Int))(m:level_Move):List (Sl Int):=
 if (0<=m.1/\m.1 < (r.length:Int)/\0<=m.2.1)/\m.2.1 < ((gt r m.1.toNat).l.length:Int)then r.set m.1.toNat (.mk ((gt r m.1.toNat).l.set m.2.1.toNat m.2.2.1))else r
theorem qus(r:List (Sl Int))(m:level_Move):q8h (.mk r) m=some (.mk (layF r m)):=by
 unfold q8h layF
 by_cases ha:0<=m.1/\m.1 < (r.length:Int)/\0<=m.2.1
 ·obtain ⟨n,hm1⟩:∃n:Nat,m.1=(n:Int):=⟨m.1.toNat,by omega⟩
  obtain ⟨k,hm2⟩:∃k:Nat,m.2.1=(k:Int):=⟨m.2.1.toNat,by omega⟩
  have hn:n < r.length:=by omega
  have e1:(((decide ((level_Move.Sw m) >= 0)) && (decide ((level_Move.Sw m) < ((Sl.mk r).l.length:Int)))) && (decide ((level_Move.Host m) >= 0)))=true:=by
   simp only [Bool.and_eq_true,decide_eq_true_eq]; exact ⟨⟨ha.1,ha.2.1⟩,ha.2.2⟩
  have i1:ixI (level_Move.Sw m) (Sl.mk r).l.length=some n:=q2h.2 ⟨hm1,hn⟩
  rw [e1,cond_true,i1]
  simp only [Option.bind_some]
  have e2:m.1.toNat=n:=by omega
  have e3:m.2.1.toNat=k:=by omega
  rw [e2,e3]
  by_cases hb:m.2.1 < ((gt r n).l.length:Int)
  ·have i2:ixI (level_Move.Host m) (gt r n).l.length=some k:=q2h.2 ⟨hm2,by omega⟩
   have i1:ixI (level_Move.Sw m) r.length=some n:=i1
   have hb2:decide ((level_Move.Host m) < ((gt (Sl.mk r).l n).l.length:Int))=true:=decide_eq_true hb
   rw [hb2,cond_true]
   simp only [Sl.l_mk,qsw hn,i1,Option.bind_some,i2]
   rw [if_pos ⟨ha,hb⟩]
  ·have hb2:decide ((level_Move.Host m) < ((gt (Sl.mk r).l n).l.length:Int))=false:=decide_eq_false hb
   rw [hb2,cond_false,if_neg λh=>hb h.2]
   simp only [Sl.l_mk,qsw hn]
 ·have e1:(((decide ((level_Move.Sw m) >= 0)) && (decide ((level_Move.Sw m) < ((Sl.mk r).l.length:Int)))) && (decide ((level_Move.Host m) >= 0)))=false:=by
   rw [Bool.eq_false_iff]; simp only [ne_eq,Bool.and_eq_true,decide_eq_true_eq]; exact λh=>ha ⟨h.1.1,h.1.2,h.2⟩
  rw [e1,if_neg λh=>ha h.1]; rfl
theorem qhm{r:List (Sl Int)}{m:level_Move}:(layF r m).length=r.length:=by
 unfold layF; split <;> simp
theorem qcn{r:List (Sl Int)}{m:level_Move}(s:Nat):(gt (layF r m) s).l.length=(gt r s).l.length:=by
 unfold layF
 split
 ·rw [q9c]
  split
  ·rename_i h; rw [Sl.l_mk,List.length_set,h.1]
  ·rfl
 ·rfl
theorem qwj{r:List (Sl Int)}{m:level_Move}{s h:Nat}(hs:s < r.length)(hh:h < (gt r s).l.length)(h1:m.1=(s:Int))(h2:m.2.1=(h:Int)):gt (gt (layF r m) s).l h=m.2.2.1:=by
 unfold layF
 rw [h1,h2,Int.toNat_natCast,Int.toNat_natCast,if_pos ⟨⟨by omega,by omega,by omega⟩,by omega⟩,q9c,if_pos ⟨rfl,hs⟩,Sl.l_mk,q9c,if_pos ⟨rfl,hh⟩]
theorem qti{r:List (Sl Int)}{m:level_Move}{s h:Nat}(hn:¬(m.1=(s:Int)/\m.2.1=(h:Int))):gt (gt (layF r m) s).l h=gt (gt r s).l h:=by
 unfold layF
 split
 ·rename_i hc
  rw [q9c]
  split
  ·rename_i hc2
   rw [Sl.l_mk,q9c,if_neg,hc2.1]
   intro h2
   exact hn ⟨by omega,by omega⟩
  ·rfl
 ·rfl
def hitB(round:Int)(so:List Int)(m:level_Move):Bool:=bif decide (m.2.2.2 < round)then true else bif m.2.2.2 == round then decide (m.1∈so)else false
theorem qn2{round:Int}{so:List Int}{m:level_Move}:hitB round so m=true↔m.2.2.2 < round\/m.2.2.2=round/\m.1∈so:=by
 unfold hitB
 by_cases h1:m.2.2.2 < round
 ·simp [h1]
 ·by_cases h2:m.2.2.2=round
  ·simp [h2]
  ·simp [h1,h2]
def doneF(round:Int)(so:List Int)(l:List level_Move)(r:List (Sl Int)):List (Sl Int):=l.foldl (λr m=>bif hitB round so m then layF r m else r) r
theorem qql{old:Sl (Sl Int)}{l:Sl level_Move}{round:Int}{so:Sl Int}(hb:old.l.length<=2147483648)(hr:∀row∈old.l,row.l.length<=2147483648)(hl:l.l.length < 9223372036854775807)(hs:so.l.length < 9223372036854775808):
  q4d old l round so=some (.mk (doneF round so.l l.l old.l)):=by
 have main:∀(d i:Nat) (r:List (Sl Int)),i+d=l.l.length->loopO (q3g l round so) ((i:Int), .mk r)=some (.mk (doneF round so.l (l.l.drop i) r)):=by
  intro d
  induction d with
  | zero=>
   intro i r hi
   obtain rfl:i=l.l.length:=by omega
   rw [List.drop_length]
   exact q0u (by simp only [q3g,lt_f,cond_false]; rfl)
  | succ d ih=>
   intro i r hi
   have hlt:i < l.l.length:=by omega
   have e:l.l.drop i=gt l.l i :: l.l.drop (i+1):=by rw [gt_eq hlt]; exact List.drop_eq_getElem_cons hlt
   rw [e]
   refine (q1f ?_).trans (ih (i+1) (bif hitB round so.l (gt l.l i)then layF r (gt l.l i)else r) (by omega))
   simp only [q3g,lt_t hlt,cond_true,q08 hlt,Option.bind_some,q3l _ hs,wr_s (show i < 9223372036854775807 by omega)]
   have e2:(bif decide ((gt l.l i).2.2.2 < round)then some true else bif (gt l.l i).2.2.2 == round then some (decide ((gt l.l i).1∈so.l))else some false:Option Bool)=some (hitB round so.l (gt l.l i)):=by
    unfold hitB
    cases decide ((gt l.l i).2.2.2 < round) <;> cases ((gt l.l i).2.2.2 == round) <;> rfl
   rw [e2,Option.bind_some]
   cases hitB round so.l (gt l.l i)with
   | false=>rfl
   | true=>
    simp only [cond_true,qus,Option.bind_some]
    have e3:lenS (.mk (layF r (gt l.l i))) (.mk r)=some ():=qeo.2 qhm
    rw [e3]; rfl
 have:=main l.l.length 0 old.l (by omega)
 have this:loopO (q3g l round so) (0, .mk old.l)=_:=this
 simp only [q4d,qnl hb hr,Option.bind_some,this,List.drop_zero]
section
variable {round:Int}{so:List Int}
theorem qd8:∀ {l:List level_Move} {r:List (Sl Int)},(doneF round so l r).length=r.length:=by
 intro l
 induction l with
 | nil=>intro r; rfl
 | cons m l ih=>
  intro r
  show (doneF round so l (bif hitB round so m then layF r m else r)).length=_
  rw [ih]
  cases hitB round so m
  ·rfl
  ·exact qhm
theorem qhi(s:Nat):∀ {l:List level_Move} {r:List (Sl Int)},(gt (doneF round so l r) s).l.length=(gt r s).l.length:=by
 intro l
 induction l with
 | nil=>intro r; rfl
 | cons m l ih=>
  intro r
  show (gt (doneF round so l (bif hitB round so m then layF r m else r)) s).l.length=_
  rw [ih]
  cases hitB round so m
  ·rfl
  ·exact qcn s
theorem qiw{s h:Nat}:∀ {l:List level_Move} {r:List (Sl Int)},(∀ m∈l,hitB round so m=true->¬(m.1=(s:Int)/\m.2.1=(h:Int)))->gt (gt (doneF round so l r) s).l h=gt (gt r s).l h:=by
 intro l
 induction l with
 | nil=>intro r _; rfl
 | cons m l ih=>
  intro r hn
  show gt (gt (doneF round so l (bif hitB round so m then layF r m else r)) s).l h=_
  rw [ih λm hm=>hn m (List.mem_cons_of_mem _ hm)]
  cases hm:hitB round so m with
  | false=>rfl
  | true=>exact qti (hn m (List.mem_cons_self ..) hm)
theorem qm9{s h:Nat}{p:Int}:∀ {l:List level_Move} {r:List (Sl Int)},s < r.length->h < (gt r s).l.length->(∀ m∈l,m.1=(s:Int)->m.2.1=(h:Int)->m.2.2.1=p)->(∃ m∈l,hitB round so m=true/\m.1=(s:Int)/\m.2.1=(h:Int))->gt (gt (doneF round so l r) s).l h=p:=by
 intro l
 induction l with
 | nil=>intro r _ _ _ ⟨m,hm,_⟩; simp at hm
 | cons m l ih=>
  intro r hs hh hp hex
  show gt (gt (doneF round so l (bif hitB round so m then layF r m else r)) s).l h=_
  have hs':s < (bif hitB round so m then layF r m else r).length:=by cases hitB round so m <;> simp [qhm,hs]
  have hh':h < (gt (bif hitB round so m then layF r m else r) s).l.length:=by cases hitB round so m <;> simp [qcn,hh]
  by_cases hin:∃m∈l,hitB round so m=true/\m.1=(s:Int)/\m.2.1=(h:Int)
  ·exact ih hs' hh' (λm hm=>hp m (List.mem_cons_of_mem _ hm)) hin
  ·rw [qiw λm hm h1 h2=>hin ⟨m,hm,h1,h2⟩]
   obtain ⟨m',hm',h1,h2,h3⟩:=hex
   rcases List.mem_cons.1 hm' with rfl | hm'
   ·rw [h1,cond_true,qwj hs hh h2 h3]
    exact hp m' (List.mem_cons_self ..) h2 h3
   ·exact absurd ⟨m',hm',h1,h2,h3⟩ hin
end
section
variable {t:api_Topo}{old now:Sl (Sl Int)}{round:Int}{so:List Int}
def Some'(t:api_Topo)(now:Sl (Sl Int))(round:Int)(so:List Int)(h s:Nat):Prop:=(dist t now h s:Int) < round\/(dist t now h s:Int)=round/\(s:Int)∈so
noncomputable def mixF(t:api_Topo)(old now:Sl (Sl Int))(round:Int)(so:List Int):Sl (Sl Int):= .mk (doneF round so (msOf t old now) old.l)
theorem qdd(hO:GoodP t old)(hN:GoodP t now):old.l.length=now.l.length:=by have:=hO.1.len; have:=hN.1.len; omega
theorem qey(hO:GoodP t old)(hN:GoodP t now){s h:Nat}(hs:s < old.l.length)(hh:h < t.Hosts.l.length):
  (Some' t now round so h s->q10 (mixF t old now round so) h s=q10 now h s)/\(¬ Some' t now round so h s->q10 (mixF t old now round so) h s=q10 old h s):=by
 have hlen:=qdd hO hN
 have hrow:=hO.1.row hs
 have at':∀m∈msOf t old now,m.1=(s:Int)->m.2.1=(h:Int)->m.2.2.1=q10 now h s/\m.2.2.2=(dist t now h s:Int):=by
  intro m hm h1 h2
  obtain ⟨h',s',_,_,_,rfl⟩:=q89.1 (qfk.1 hm)
  obtain rfl:s'=s:=Int.ofNat_inj.1 h1
  obtain rfl:h'=h:=Int.ofNat_inj.1 h2
  exact ⟨rfl,rfl⟩
 have off:(∀ m∈msOf t old now,hitB round so m=true->¬(m.1=(s:Int)/\m.2.1=(h:Int)))->q10 (mixF t old now round so) h s=q10 old h s:=λhn=>qiw hn
 constructor
 ·intro hS
  by_cases hp:q10 now h s=q10 old h s
  ·by_cases hex:∃m∈msOf t old now,hitB round so m=true/\m.1=(s:Int)/\m.2.1=(h:Int)
   ·exact qm9 hs (by omega) (λm hm h1 h2=>(at' m hm h1 h2).1) hex
   ·rw [hp]
    exact off λm hm h1 h2=>hex ⟨m,hm,h1,h2⟩
  ·refine qm9 hs (by omega) (λm hm h1 h2=>(at' m hm h1 h2).1) ⟨((s:Int),(h:Int),q10 now h s,(dist t now h s:Int)),qfk.2 (q89.2 ⟨h,s,hh,by omega,hp,rfl⟩),qn2.2 hS,rfl,rfl⟩
 ·intro hS
  refine off λm hm hhit ⟨h1,h2⟩=>hS ?_
  have:=qn2.1 hhit
  rw [(at' m hm h1 h2).2,h1]at this
  exact this
theorem qmh(hO:GoodP t old)(hN:GoodP t now):RValid t (mixF t old now round so):=by
 have hlen:=qdd hO hN
 refine ⟨hO.1.topo, ?_,λrow hm=> ?_⟩
 ·show ((doneF round so _ _).length:Int)=_
  rw [qd8]; exact hO.1.len
 ·obtain ⟨s,hs,rfl⟩:=List.mem_iff_getElem.1 hm
  have hs2:s < old.l.length:=by rwa [mixF,Sl.l_mk,qd8]at hs
  rw [<- gt_eq hs]
  have e1:(gt (mixF t old now round so).l s).l.length=t.Hosts.l.length:=by
   show (gt (doneF round so _ _) s).l.length=_
   rw [qhi]; exact hO.1.row hs2
  refine ⟨e1,λp hp=> ?_⟩
  obtain ⟨h,hh,rfl⟩:=List.mem_iff_getElem.1 hp
  rw [<- gt_eq hh]
  have hh2:h < t.Hosts.l.length:=by omega
  have prt:∀r:Sl (Sl Int),RValid t r->s < r.l.length->0<=q10 r h s/\q10 r h s < 8:=by
   intro r hV hs
   have:=hV.row hs
   refine (hV.rows (gt r.l s) (by rw [gt_eq hs]; exact List.getElem_mem _)).2 _ ?_
   show gt (gt r.l s).l h∈_
   rw [gt_eq (show h < (gt r.l s).l.length by omega)]
   exact List.getElem_mem _
  obtain ⟨m1,m2⟩:=qey (round:=round) (so:=so) hO hN hs2 hh2
  show 0<=q10 (mixF t old now round so) h s/\q10 (mixF t old now round so) h s < 8
  by_cases hS:Some' t now round so h s
  ·rw [m1 hS]; exact prt now hN.1 (by omega)
  ·rw [m2 hS]; exact prt old hO.1 hs2
theorem qqf(hO:GoodP t old)(hN:GoodP t now){r:Sl (Sl Int)}(hr:RValid t r)(hp:∀s,s < old.l.length->∀h,h < t.Hosts.l.length->q10 (mixF t old now round so) h s=q10 r h s):
  (mixF t old now round so).l.length=r.l.length/\∀s,s < r.l.length->(gt (mixF t old now round so).l s).l=(gt r.l s).l:=by
 have hml:(mixF t old now round so).l.length=old.l.length:=by rw [mixF,Sl.l_mk,qd8]
 have hrl:r.l.length=old.l.length:=by have:=hr.len; have:=hO.1.len; omega
 refine ⟨by omega,λs hs=> ?_⟩
 have e1:(gt (mixF t old now round so).l s).l.length=t.Hosts.l.length:=(qmh hO hN).row (by omega)
 have e2:=hr.row hs
 exact qsa (by omega) λh hh=>hp s (by omega) h (by omega)
theorem qt1(hO:GoodP t old)(hN:GoodP t now):(mixF t old now t.Switches so).l.length=now.l.length/\∀s,s < now.l.length->(gt (mixF t old now t.Switches so).l s).l=(gt now.l s).l:=
 qqf hO hN hN.1 λs hs h hh=>by
  have hlen:=qdd hO hN
  have:=hN.lt (show s < now.l.length by omega) hh
  have:=hN.1.len
  exact (qey hO hN hs hh).1 (.inl (by omega))
theorem qm1(hO:GoodP t old)(hN:GoodP t now){l:Sl level_Move}(hl:l.l=msOf t old now){so:Sl Int}(hs:so.l.length < 9223372036854775808):q4d old l round so=some (mixF t old now round so.l):=by
 have h8:=hO.1.small
 have hh8:=hO.1.hosts
 have h64:=qfb (old:=old) hN
 rw [qql (by omega) (λrow hm=>by have:=(hO.1.rows row hm).1; omega) (by rw [hl]; omega) hs,hl]; rfl
end
theorem qw8{a b:Sl Int}(h:a.l=b.l)(hl:a.l.length < 9223372036854775808):q7h a b=some true:=by
 have h1:=scanE (f:=q49 a b) (β:=Bool) (γ:=Unit) a.l (λ_ _=>none) () hl (λi hi=>by
  have hb:i < b.l.length:=h▸hi
  have e:(gt a.l i != gt b.l i)=false:=by rw [h]; simp
  simp only [q49,lt_t hi,cond_true,q08 hi,q08 hb,Option.bind_some,e,cond_false]) (by simp only [q49,lt_f,cond_false])
 have h2:scan (β:=Bool) (λ(_:Nat) (_:Int)=>none) a.l 0=none:=q2z.2 λ_ _ _=>rfl
 have hc:((a.l.length:Int) != (b.l.length:Int))=false:=by rw [h]; simp
 rw [h2]at h1
 simp only [q7h,hc,cond_false,h1,Option.bind_some]
theorem qwp{a b:Sl (Sl Int)}(hl:a.l.length=b.l.length)(h:∀s,s < b.l.length->(gt a.l s).l=(gt b.l s).l)(hb:b.l.length < 9223372036854775808)(hr:∀s,s < b.l.length->(gt b.l s).l.length < 9223372036854775808):q7f a b=some true:=by
 have h1:=scanE (f:=q48 a b) (β:=Bool) (γ:=Unit) a.l (λ_ _=>none) () (by omega) (λi hi=>by
  have hib:i < b.l.length:=by omega
  have e:=qw8 (h i hib) (by rw [h i hib]; exact hr i hib)
  simp only [q48,lt_t hi,cond_true,q08 hi,q08 hib,Option.bind_some,e,Bool.not_true,cond_false]) (by simp only [q48,lt_f,cond_false])
 have h2:scan (β:=Bool) (λ(_:Nat) (_:Sl Int)=>none) a.l 0=none:=q2z.2 λ_ _ _=>rfl
 have hc:((a.l.length:Int) != (b.l.length:Int))=false:=by rw [hl]; simp
 rw [h2]at h1
 simp only [q7f,hc,cond_false,h1,Option.bind_some]
end Go.Proofs.Ythcplpfiidlinaa.L
