/- Code: what is evaluated is what the abstract machine does. Conditions: as stated. -/
import Derived.Test.YthcplpfiidlinaaKh
import Derived.Test.YthcplpfiidlinaaEvY
namespace Go.Ev
theorem qhv(j:J)(s0 s:S2):capJ j s0 s=capJ2 j s0 (cutV j.vs s):=rfl
theorem qix{j:J}{s1':St}{s0 s':S2}{l:List V}(hr:R2 s1' s')(hc:capJ j s0 s'=some l):∀i∈s'.wo,s0.next<=i\/i∈j.kl:=by
 obtain ⟨s1c,_,_,wc,hwc,_⟩:=qf1 j.vs s1' s' hr
 rw [qhv]at hc
 unfold capJ2 at hc
 split at hc
 case h_2=>simp at hc
 split at hc
 case h_2=>simp at hc
 split at hc
 case h_2=>simp at hc
 obtain ⟨hchk,_⟩:=q00 hc
 simp only [Bool.and_eq_true,List.all_eq_true]at hchk
 intro i hi
 have:=hchk.1 i (by rw [hwc]; simp [hi])
 simpa [Nat.ble_eq]using this
theorem q8u{j:J}{ds w:List Nat}{s1 s1':St}{s0 s' s'':S2}{l:List V}(hr0:R2 s1 s0)(hr:R2 s1' s')(hf:FrW ds w s1 s1' s0 s')(hw:∀i∈w,s0.next<=i\/i∈j.kl)(hc:capJ j s0 s'=some l)(hs:rstJ j ds s0 l=some s''):
  ∃s1'' w',Sub s1' s1''/\R2 s1'' s''/\s''.wo=w'++s0.wo/\FrW ds w' s1 s1'' s0 s''/\∀i∈w',s0.next<=i\/i∈j.kl:=by
 obtain ⟨s1c,hsub,hrc,wc,hwc,hfc⟩:=qf1 j.vs s1' s' hr
 have hc2:=hc
 rw [qhv]at hc2
 have hwcc:∀i∈wc,s0.next<=i\/i∈j.kl:=by
  unfold capJ2 at hc2
  split at hc2
  case h_2=>simp at hc2
  split at hc2
  case h_2=>simp at hc2
  split at hc2
  case h_2=>simp at hc2
  obtain ⟨hchk,_⟩:=q00 hc2
  simp only [Bool.and_eq_true,List.all_eq_true]at hchk
  intro i hi
  have:=hchk.1 i (by rw [hwc]; simp [hi])
  simpa [Nat.ble_eq]using this
 obtain ⟨s1'',w',h1,h2,h3,h4,h5⟩:=qvo (w:=wc++w) hr0 hrc (hf.trans (hfc.mono (λt ht=>by simp at ht) λi hi=>hi)) (λi hi=>by
  rcases List.mem_append.1 hi with hi | hi
  ·exact hwcc i hi
  ·exact hw i hi) (by rw [<- qhv]; exact hc) hs
 exact ⟨s1'',w',hsub.trans h1,h2,h3,h4,h5⟩
theorem qo9{β:Type}{s0 s':S2}{o:Out}{ds:List Nat}{k:Out->S2->Option β}{z:β}:∀(e:Ex) (x:SumE e),injE s0 o s' e=some x->outE2 ds s0 k e x=some z->∃j∈e,∃l s'',capJ j.2 s0 s'=some l/\rstJ j.2 ds s0 l=some s''/\k o s''=some z:=by
 have fin:∀(j:J) (p:PayL (codJ j)) (l:List V),tupV (codJ j) l=some p->(match rstJ j ds s0 (untV (codJ j) p)with | some s=>k o s | none=>none)=some z->∃s'',rstJ j ds s0 l=some s''/\k o s''=some z:=by
  intro j p l h1 h2
  rw [q77 _ _ _ h1]at h2
  split at h2
  ·rename_i s'' hs
   exact ⟨s'',hs,h2⟩
  ·simp at h2
 have key:∀(r:Ex) (o1:Out) (j:J) (x:SumE.SumC j r),injC s0 o s' o1 j r=some x->outC ds s0 k o1 j r x=some z->∃j'∈(o1,j) :: r,∃l s'',capJ j'.2 s0 s'=some l/\rstJ j'.2 ds s0 l=some s''/\k o s''=some z:=by
  intro r
  induction r with
  | nil=>
   intro o1 j x hx hz
   simp only [injC]at hx
   obtain ⟨ho,hx2⟩:=q00 hx
   clear hx
   obtain rfl:o=o1:=by simpa using ho
   split at hx2
   ·rename_i l hl
    obtain ⟨s'',h1,h2⟩:=fin j x l hx2 hz
    exact ⟨(o,j),by simp,l,s'',hl,h1,h2⟩
   ·simp at hx2
  | cons q r ih=>
   obtain ⟨o2,j2⟩:=q
   intro o1 j x hx hz
   simp only [injC]at hx
   cases hd:decide (o=o1)with
   | true=>
    rw [hd,cond_true]at hx
    obtain rfl:o=o1:=by simpa using hd
    split at hx
    ·rename_i l hl
     split at hx
     ·rename_i p hp
      obtain rfl:=Option.some.inj hx
      obtain ⟨s'',h1,h2⟩:=fin j p l hp hz
      exact ⟨(o,j),by simp,l,s'',hl,h1,h2⟩
     ·simp at hx
    ·simp at hx
   | false=>
    rw [hd,cond_false]at hx
    split at hx
    ·rename_i y hy
     obtain rfl:=Option.some.inj hx
     obtain ⟨j',h1,h2⟩:=ih o2 j2 y hy hz
     exact ⟨j',List.mem_cons_of_mem _ h1,h2⟩
    ·simp at hx
 intro e x hx hz
 cases e with
 | nil=>exact nomatch x
 | cons q r=>exact key r q.1 q.2 x hx hz
def Aft{β:Type}(ds:List Nat)(s1:St)(s:S2)(k:Out->S2->Option β)(z:β)(o:Out)(s1':St):Prop:=
 wk (λs1''=>∃s',R2 s1'' s'/\Fr ds s1 s1'' s s'/\k o s'=some z) s1'
theorem qlo{P:Program}{tb:Tab}(htb:TabOk P tb)(hg:GlbOk):∀(c:C2) {β:Type} (s1:St) (s:S2) (k:Out->S2->Option β) (z:β),evK tb c s k=some z->R2 s1 s->W P (erase c) s1 (Aft (dsts c) s1 s k z):=by
 intro c
 induction c with
 | skip=>intro β s1 s k z hz hr; exact wk.of (wk.of ⟨s,hr,Fr.refl,hz⟩)
 | exit id=>intro β s1 s k z hz hr; exact wk.of (wk.of ⟨s,hr,Fr.refl,hz⟩)
 | ret=>intro β s1 s k z hz hr; exact wk.of (wk.of ⟨s,hr,Fr.refl,hz⟩)
 | bad=>intro β s1 s k z hz hr; simp [evK]at hz
 | reg ops dr jn=>
  intro β s1 s k z hz hr
  cases jn with
  | none=>
   refine W.mono (λo s1' h=> ?_) (qit (jn:=none) htb hg (show evReg tb ops dr s (λs=>k .normal s)=some z by simpa only [evK]using hz) hr)
   obtain ⟨rfl,s',h1,h2,h3⟩:=h
   exact wk.of ⟨s',h1,h2,h3⟩
  | some j=>
   simp only [evK]at hz
   obtain ⟨p,hp,hz⟩:=bnd hz
   refine W.mono (λo s1' h=> ?_) (qit (jn:=some j) htb hg hp (hr.wo []))
   obtain ⟨rfl,s',h1,⟨w,h2,h3⟩,h4⟩:=h
   split at h4
   ·rename_i l hl
    rw [q77 _ _ _ h4]at hz
    split at hz
    ·rename_i s'' hs
     have hf:FrW (ops.filterMap (·.o.dst)) w s1 s1' s s':=⟨h3.le,h3.hst,h3.gl,h3.ob,h3.env⟩
     obtain ⟨s1'',w',g1,g2,g3,g4,_⟩:=q8u hr h1 hf (λi hi=>qix h1 hl i (by rw [h2]; simp [hi])) hl hs
     exact ⟨s1'',g1,s'',g2,⟨w',g3,g4⟩,hz⟩
    ·simp at hz
   ·simp at h4
 | seq a b e iha ihb=>
  intro β s1 s k z hz hr
  have go:∀(o:Out) (s1' s1'':St) (s':S2),Sub s1' s1''->R2 s1'' s'->Fr (dsts a) s1 s1'' s s'->(match o with | .normal=>evK tb b s' k | o=>k o s')=some z->After (λs'=>W P (erase b) s' (Aft (dsts (.seq a b e)) s1 s k z)) (Aft (dsts (.seq a b e)) s1 s k z) o s1':=by
   intro o s1' s1'' s' hsub h1 h2 h3
   have hda:∀t∈dsts a,t∈dsts (.seq a b e):=λt ht=>List.mem_append_left _ ht
   have hdb:∀t∈dsts b,t∈dsts (.seq a b e):=λt ht=>List.mem_append_right _ ht
   cases o with
   | normal=>
    refine W.sub hsub (W.mono (λo s2 h=> ?_) (ihb s1'' s' k z h3 h1))
    exact wk.mono h λ_ ⟨s3,g1,g2,g3⟩=>⟨s3,g1,(h2.mono hda).trans (g2.mono hdb),g3⟩
   | exit id=>exact ⟨s1'',hsub,s',h1,h2.mono hda,h3⟩
   | ret=>exact ⟨s1'',hsub,s',h1,h2.mono hda,h3⟩
  cases e with
  | nil=>
   simp only [evK]at hz
   refine w_seq (W.mono (λo s1' h=> ?_) (iha s1 s _ z hz hr))
   obtain ⟨s1'',hsub,s',h1,h2,h3⟩:=h
   exact go o s1' s1'' s' hsub h1 h2 h3
  | cons q r=>
   simp only [evK]at hz
   obtain ⟨x,hx,hz⟩:=bnd hz
   refine w_seq (W.mono (λo s1' h=> ?_) (iha s1 { s with wo:= [] } _ x hx (hr.wo [])))
   obtain ⟨s1'',hsub,s',h1,⟨w,h2,h3⟩,h4⟩:=h
   obtain ⟨j,_,l,s'',g1,g2,g3⟩:=qo9 (q :: r) x h4 hz
   have hf:FrW (dsts a) w s1 s1'' s s':=⟨h3.le,h3.hst,h3.gl,h3.ob,h3.env⟩
   obtain ⟨s2,w',k1,k2,k3,k4,_⟩:=q8u hr h1 hf (λi hi=>qix h1 g1 i (by rw [h2]; simp [hi])) g1 g2
   exact go o s1' s2 s'' (hsub.trans k1) k2 ⟨w',k3,k4⟩ g3
 | cond c a b iha ihb=>
  intro β s1 s k z hz hr
  have hda:∀t∈dsts a,t∈dsts (.cond c a b):=λt ht=>List.mem_append_left _ ht
  have hdb:∀t∈dsts b,t∈dsts (.cond c a b):=λt ht=>List.mem_append_right _ ht
  have go:∀t,opv s1.env c=some (tB t)->(bif t then evK tb a s k else evK tb b s k)=some z->W P (erase (.cond c a b)) s1 (Aft (dsts (.cond c a b)) s1 s k z):=by
   intro t hc hz
   refine qwo (t:=t) hc (λht=> ?_) λht=> ?_
   ·subst ht
    exact W.mono (λo s2 h=>wk.mono h λ_ ⟨s3,g1,g2,g3⟩=>⟨s3,g1,g2.mono hda,g3⟩) (iha s1 s k z hz hr)
   ·subst ht
    exact W.mono (λo s2 h=>wk.mono h λ_ ⟨s3,g1,g2,g3⟩=>⟨s3,g1,g2.mono hdb,g3⟩) (ihb s1 s k z hz hr)
  simp only [evK]at hz
  split at hz
  ·rename_i t ht
   obtain ⟨x,h1,h2,_⟩:=q57 hg hr ht
   rw [qcf h2]at h1
   exact go t h1 hz
  ·rename_i t ht
   obtain ⟨x,h1,h2,_⟩:=q57 hg hr ht
   rw [tvR_b h2]at h1
   exact go t h1 hz
  ·simp at hz
 | block id a ih=>
  intro β s1 s k z hz hr
  simp only [evK]at hz
  refine qv3 (W.mono (λo s1' h=> ?_) (ih s1 s _ z hz hr))
  cases o with
  | normal=>exact h
  | ret=>exact h
  | exit i=>
   simp only [OutOf]
   obtain ⟨s1'',hsub,s',h1,h2,h3⟩:=h
   by_cases e:i=id
   ·subst e
    rw [if_pos rfl]
    simp only [beq_self_eq_true,cond_true]at h3
    exact ⟨s1'',hsub,s',h1,h2,h3⟩
   ·rw [if_neg e]
    have e':(i == id)=false:=by simpa using e
    simp only [e',cond_false]at h3
    exact ⟨s1'',hsub,s',h1,h2,h3⟩
 | loop j e a ih=>
  intro β s1 s k z hz hr
  simp only [evK]at hz
  obtain ⟨hkl,hz⟩:=q00 hz
  have hkl:∀x∈e,∀i∈j.kl,i∈x.2.kl:=λx hx i hi=>by
   have:=List.all_eq_true.1 (List.all_eq_true.1 hkl x hx) i hi
   simpa using this
  split at hz
  case h_2=>simp at hz
  rename_i l hl
  split at hz
  case h_2=>simp at hz
  rename_i p0 hp0
  obtain ⟨x,hx,hz⟩:=bnd hz
  obtain ⟨n,hn⟩:=q55.1 hx
  clear hx
  generalize hf:(λ(p:PayL (codJ j))=>(match rstJ j (dsts a) s (untV (codJ j) p)with
     | some s1=>evK tb a { s1 with wo:= [] } λo s'=>(match o with
      | .normal=>(match capJ j s s' with | some l=>(match tupV (codJ j) l with | some q=>some (Sum.inl q) | none=>none) | none=>none)
      | o=>(match injE s o s' e with | some x=>some (Sum.inr x) | none=>none))
     | none=>none:Option (PayL (codJ j) ⊕ SumE e)))=f at hn
  have hrs:∀n p,q3c f n p=some x->∃s2,rstJ j (dsts a) s (untV (codJ j) p)=some s2:=by
   intro n p h
   cases n with
   | zero=>simp [q3c]at h
   | succ n=>
    cases hq:rstJ j (dsts a) s (untV (codJ j) p)with
    | some s2=>exact ⟨s2,rfl⟩
    | none=>
     have:f p=none:=by rw [<- hf]; simp only [hq]
     simp [q3c,this]at h
  refine ⟨λn t=>∃p s2 w,q3c f n p=some x/\rstJ j (dsts a) s (untV (codJ j) p)=some s2/\R2 t s2/\FrW (dsts a) w s1 t s s2/\∀i∈w,s.next<=i\/i∈j.kl,n, ?_, ?_⟩
  ·obtain ⟨s2,hs2⟩:=hrs n p0 hn
   have hs3:=hs2
   rw [q77 _ _ _ hp0]at hs3
   obtain ⟨s1'',w',g1,g2,_,g4,g5⟩:=q8u (w:= []) hr (hr.wo []) ⟨Nat.le_refl _,HSt.refl _ _,rfl,λ_ _ _=>⟨rfl,λ_ _ _ h=>h⟩,λ_ _ _ h _=>h⟩ (λi hi=>by simp at hi) hl hs3
   exact ⟨s1'',g1,p0,s2,w',hn,hs2,g2,g4,g5⟩
  ·rintro n t ⟨p,s2,w,h1,h2,h3,h4,h5⟩
   cases n with
   | zero=>simp [q3c]at h1
   | succ n=>
    have hfp:f p=evK tb a { s2 with wo:= [] } λo s'=>(match o with
      | .normal=>(match capJ j s s' with | some l=>(match tupV (codJ j) l with | some q=>some (Sum.inl q) | none=>none) | none=>none)
      | o=>(match injE s o s' e with | some x=>some (Sum.inr x) | none=>none)):=by
     rw [<- hf]; simp only [h2]
    have hend:∀(o:Out) (t' t'':St) (s':S2) (y:SumE e),o≠ .normal->Sub t' t''->R2 t'' s'->Fr (dsts a) t t'' { s2 with wo:= [] } s'->injE s o s' e=some y->y=x->Aft (dsts a) s1 s k z o t':=by
     rintro o t' t'' s' y _ hsub r1 ⟨wb,e1,e2⟩ hy rfl
     obtain ⟨j',hj',l',s'',g1,g2,g3⟩:=qo9 e y hy hz
     have hfw:FrW (dsts a) (wb++w) s1 t'' s s':=h4.trans ⟨e2.le,e2.hst,e2.gl,e2.ob,e2.env⟩
     obtain ⟨s3,w',k1,k2,k3,k4,_⟩:=q8u hr r1 hfw (λi hi=>by
      rcases List.mem_append.1 hi with hi | hi
      ·exact qix r1 g1 i (by rw [e1]; simp [hi])
      ·exact (h5 i hi).imp id (hkl j' hj' i)) g1 g2
     exact ⟨s3,hsub.trans k1,s'',k2,⟨w',k3,k4⟩,g3⟩
    simp only [q3c]at h1
    cases hr1:f p with
    | none=>simp [hr1]at h1
    | some r=>
     rw [hr1]at h1
     rw [hfp]at hr1
     refine W.mono (λo t' hq=> ?_) (ih t _ _ r hr1 (h3.wo []))
     obtain ⟨t'',hsub,s',r1,r2,r3⟩:=hq
     cases o with
     | normal=>
      simp only at r3
      split at r3
      ·rename_i l2 hl2
       split at r3
       ·rename_i q hq
        obtain rfl:=Option.some.inj r3
        simp only at h1
        obtain ⟨wb,e1,e2⟩:=r2
        obtain ⟨s3,hs3⟩:=hrs n q h1
        have hs4:=hs3
        rw [q77 _ _ _ hq]at hs4
        have hfw:FrW (dsts a) (wb++w) s1 t'' s s':=h4.trans ⟨e2.le,e2.hst,e2.gl,e2.ob,e2.env⟩
        obtain ⟨t3,w',k1,k2,_,k4,k5⟩:=q8u hr r1 hfw (λi hi=>by
         rcases List.mem_append.1 hi with hi | hi
         ·exact qix r1 hl2 i (by rw [e1]; simp [hi])
         ·exact h5 i hi) hl2 hs4
        exact ⟨n,Nat.lt_succ_self n,t3,hsub.trans k1,q,s3,w',h1,hs3,k2,k4,k5⟩
       ·simp at r3
      ·simp at r3
     | exit id=>
      simp only at r3
      split at r3
      ·rename_i y hy
       obtain rfl:=Option.some.inj r3
       exact hend (.exit id) t' t'' s' y (by simp) hsub r1 r2 hy (Option.some.inj h1)
      ·simp at r3
     | ret=>
      simp only at r3
      split at r3
      ·rename_i y hy
       obtain rfl:=Option.some.inj r3
       exact hend .ret t' t'' s' y (by simp) hsub r1 r2 hy (Option.some.inj h1)
      ·simp at r3
end Go.Ev

namespace Go.Ev
section
variable {h:H2}{n:Nat}{h1:Heap}
theorem qiq{id sz lo len:Nat}{rows:List (List D)}(ho:look h1 id=some (.arr sz rows)\/look h1 id=some (.imm sz rows))(hl:lo+len<=rows.length)(szo:Nat):
  ∃t own rd,(∀ k,packC h1 k (.osl szo id lo len)=some (t,own,rd))/\frzT t= .sl szo ((rows.drop lo).take len)/\own.Sublist [id]/\(look h1 id=some (.arr sz rows)->t= .sl szo ((rows.drop lo).take len)):=by
 by_cases ha:look h1 id=some (.arr sz rows)
 ·exact ⟨.sl szo ((rows.drop lo).take len), [id], [id],λk=>by cases k <;> simp only [packC,ha,if_pos hl],rfl,List.Sublist.refl _,λ_=>rfl⟩
 ·have hi:=ho.resolve_left ha
  exact ⟨.d (.sl szo ((rows.drop lo).take len)), [], [id],λk=>by cases k <;> simp only [packC,hi,if_pos hl],rfl,List.nil_sublist _,λe=>absurd e ha⟩
theorem qu2(hr:HR n h1 h){id ver:Nat}{t:Ty}{s:Sl (El t)}(ho:fO h id=some (.ar t s ver)\/fO h id=some (.im t s ver)):
  ∃q own rd,(∀ k,packC h1 k (slC (szT t) (encE t) id s)=some (q,own,rd))/\frzT q=slD (szT t) (encE t) s/\own.Sublist [id]:=by
 cases s with
 | nil=>exact ⟨_,_,_,λk=>qau k _,rfl,List.nil_sublist _⟩
 | mk l=>
  have hb:look h1 id=some (.arr (szT t) (l.map (encE t)))\/look h1 id=some (.imm (szT t) (l.map (encE t))):=by
   rcases ho with ho | ho
   ·exact .inl ((hr.ob id _ ho).2.1.2.2 l rfl)
   ·exact .inr ((hr.ob id _ ho).2.1.2.2 l rfl)
  obtain ⟨q,own,rd,g1,g2,g3,_⟩:=qiq (lo:=0) (len:=(l.map (encE t)).length) hb (by omega) (szT t)
  rw [q99]at g2
  exact ⟨q,own,rd,g1,g2,g3⟩
theorem qpn{t:Ty}(s:Sl (Sl (El t))):frzT (slsT t s)=slD 1 (encE (.sl t)) (s:Sl (El (.sl t))):=by
 cases s with
 | nil=>rfl
 | mk l=>
  simp only [slsT,frzT,slD,List.map_map]
  congr 1
  exact List.map_congr_left λr _=>by cases r <;> rfl
theorem qud(hr:HR n h1 h){id:Nat}{t:Ty}{s:Sl (Sl (El t))}(ho:fO h id=some (.rw t s none)):
  ∃own rd,(∀ k,packC h1 k (slC 1 (encE (.sl t)) id (s:Sl (El (.sl t))))=some (slsT t s,own,rd))/\own.Sublist [id]:=by
 cases s with
 | nil=>exact ⟨_,_,λk=>qau k _,List.nil_sublist _⟩
 | mk l=>exact ⟨_,_,λk=>p_n (k:=k) ((hr.ob id _ ho).2.1.2.2 l rfl),List.Sublist.refl _⟩
theorem qot(hr:HR n h1 h){id ver lo:Nat}{t:Ty}{r:Sl (El t)}(hk:okV n h (.sb id ver lo t r))(ha:alvB h id ver=true):
  ∃q own rd,(∀ k,packC h1 k (sbC id lo t r)=some (q,own,rd))/\frzT q=slD (szT t) (encE t) r/\own.Sublist [id]/\((∃ u s v,fO h id=some (.ar u s v))->q=slT (szT t) (encE t) r):=by
 obtain ⟨u,s,ho⟩:=q3d ha
 obtain ⟨_,hc⟩:=hk.2 u s ver ho
 obtain ⟨hz,hc⟩:=hc rfl
 cases r with
 | nil=>exact ⟨_,_,_,λk=>qau k _,rfl,List.nil_sublist _,λ_=>rfl⟩
 | mk m=>
  cases s with
  | nil=>exact hc.elim
  | mk l=>
   obtain ⟨hl,he⟩:=hc
   have hb:look h1 id=some (.arr (szT u) (l.map (encE u)))\/look h1 id=some (.imm (szT u) (l.map (encE u))):=by
    rcases ho with ho | ho
    ·exact .inl ((hr.ob id _ ho).2.1.2.2 l rfl)
    ·exact .inr ((hr.ob id _ ho).2.1.2.2 l rfl)
   obtain ⟨q,own,rd,g1,g2,g3,g4⟩:=qiq (lo:=lo) (len:=(m.map (encE t)).length) hb (by simpa using hl) (szT t)
   rw [show (m.map (encE t)).length=m.length by simp,he]at g2 g4
   refine ⟨q,own,rd,λk=> ?_,g2,g3, ?_⟩
   ·have:=g1 k
    simpa [sbC]using this
   ·rintro ⟨u',s',v',ho'⟩
    rcases ho with ho | ho
    ·exact g4 ((hr.ob id _ ho).2.1.2.2 l rfl)
    ·rw [ho']at ho; simp at ho
theorem qmr(ds:List D):(ds.map T.d).map frzT=ds:=by
 induction ds with
 | nil=>rfl
 | cons d ds ih=>simp only [List.map_cons,frzT,ih]
theorem qrf(hr:HR n h1 h):∀(v w:V) (l:List Nat) (cs:List C),frzV h v=some (w,l)->celR h v cs->okV n h v->alv h v=true->
  ∃ts own rd,(∀ k,cs.length<=k->packL h1 k cs=some (ts,own,rd))/\celR h w ((ts.map frzT).map .d)/\own.Sublist l/\cs.length=ts.length/\agV w=agV v:=by
 have done:∀(v:V) (ds:List D),celR h v (ds.map .d)->∃ts own rd,(∀ k,(ds.map C.d).length<=k->packL h1 k (ds.map .d)=some (ts,own,rd))/\celR h v ((ts.map frzT).map .d)/\own.Sublist ([]:List Nat)/\(ds.map C.d).length=ts.length/\agV v=agV v:=λv ds hv=>
  ⟨ds.map .d, [], [],λk hk=>q6s ds k (by simpa using hk),by rw [qmr]; exact hv,List.Sublist.refl _,by simp,rfl⟩
 have one:∀(c:C) (q:T) (own rd:List Nat),(∀ k,packC h1 k c=some (q,own,rd))->∀k, [c].length<=k->packL h1 k [c]=some ([q],own,rd):=λc q own rd hq k hk=>by
  obtain ⟨k,rfl⟩:∃k',k=k'+1:=⟨k - 1,by simp at hk; omega⟩
  exact qab (hq k)
 intro v
 induction v with
 | so id=>
  intro w l cs hf hv hk ha
  simp only [frzV]at hf
  split at hf
  ·rename_i t s l' hs
   obtain ⟨rfl,rfl⟩:=Prod.mk.inj (Option.some.inj hf)
   obtain ⟨ver,ho,e⟩:=qax hs
   have e:l'= [id]:=e
   subst e
   obtain ⟨c,rfl,hc,_⟩:=hv
   rw [hc _ (q4l ho)]
   obtain ⟨q,own,rd,q1,q2,q3⟩:=qu2 hr ho
   have hd:dat t=true:=by rcases ho with ho | ho <;> exact (hr.ob id _ ho).2.1.1
   exact ⟨[q],own,rd,one _ q own rd q1,⟨hd,by simp only [List.map_cons,List.map_nil,q2]; rfl⟩,q3,rfl,rfl⟩
  ·simp at hf
 | sr id=>
  intro w l cs hf hv hk ha
  simp only [frzV]at hf
  split at hf
  ·rename_i t s ho
   obtain ⟨rfl,rfl⟩:=Prod.mk.inj (Option.some.inj hf)
   obtain ⟨c,rfl,hc,_⟩:=hv
   rw [hc _ (q9y ho)]
   obtain ⟨own,rd,q1,q3⟩:=qud hr ho
   exact ⟨[_],own,rd,one _ _ own rd q1,⟨(hr.ob id _ ho).2.1.1,by simp only [List.map_cons,List.map_nil,qpn]; rfl⟩,q3,rfl,rfl⟩
  ·simp at hf
 | sb id ver lo t r=>
  intro w l cs hf hv hk ha
  simp only [frzV,slV]at hf
  obtain ⟨rfl,rfl⟩:=Prod.mk.inj (Option.some.inj hf)
  obtain ⟨hd,ha⟩:=Bool.and_eq_true_iff.1 ha
  have ha:alvB h id ver=true:=ha
  obtain ⟨c,rfl,hc,_⟩:=hv
  rw [hc ha]
  obtain ⟨q,own,rd,q1,q2,q3,_⟩:=qot hr hk ha
  exact ⟨[q],own,rd,one _ q own rd q1,⟨hd,by simp only [List.map_cons,List.map_nil,q2]; rfl⟩,q3,rfl,rfl⟩
 | rc r ih=>
  intro w l cs hf hv hk ha
  simp only [frzV]at hf
  split at hf
  ·rename_i w' l' hw
   obtain ⟨rfl,rfl⟩:=Prod.mk.inj (Option.some.inj hf)
   obtain ⟨ts,own,rd,a1,a2,a3,a4,_⟩:=ih w' l' cs hw hv hk ha
   exact ⟨ts,own,rd,a1,a2,a3,a4,rfl⟩
  ·simp at hf
 | co a r iha ihr=>
  intro w l cs hf hv hk ha
  simp only [frzV]at hf
  split at hf
  ·rename_i x l1 y l2 hx hy
   obtain ⟨rfl,rfl⟩:=Prod.mk.inj (Option.some.inj hf)
   obtain ⟨ca,cr,rfl,h2,h3⟩:=hv
   simp only [alv,Bool.and_eq_true]at ha
   obtain ⟨ts,own,rd,a1,a2,a3,a4,_⟩:=iha x l1 ca hx h2 hk.1 ha.1
   obtain ⟨us,own2,rd2,b1,b2,b3,b4,_⟩:=ihr y l2 cr hy h3 hk.2 ha.2
   refine ⟨ts++us,own++own2,rd++rd2,λk hk=> ?_,⟨_,_,by simp,a2,b2⟩,a3.append b3,by simp [a4,b4],rfl⟩
   simp only [List.length_append]at hk
   exact q9u (a1 k (by omega)) (b1 _ (by omega)) (by omega)
  ·simp at hf
 | x t v=>
  intro w l cs hf hv hk ha
  obtain ⟨rfl,rfl⟩:=Prod.mk.inj (Option.some.inj hf)
  obtain ⟨hd,rfl⟩:=hv
  exact done _ _ ⟨hd,rfl⟩
 | kb c=>
  intro w l cs hf hv hk ha
  obtain ⟨rfl,rfl⟩:=Prod.mk.inj (Option.some.inj hf)
  obtain rfl:=hv
  exact done (.kb c) [_] rfl
 | nl k=>
  intro w l cs hf hv hk ha
  obtain ⟨rfl,rfl⟩:=Prod.mk.inj (Option.some.inj hf)
  obtain rfl:=hv
  exact done (.nl k) [_] rfl
 | fl q=>
  intro w l cs hf hv hk ha
  obtain ⟨rfl,rfl⟩:=Prod.mk.inj (Option.some.inj hf)
  obtain ⟨hp,rfl⟩:=hv
  have e:lits q=(q.map D.lit).map C.d:=by simp [lits]
  rw [e]
  exact done (.fl q) (q.map D.lit) ⟨hp,e.symm⟩
 | ni=>
  intro w l cs hf hv hk ha
  obtain ⟨rfl,rfl⟩:=Prod.mk.inj (Option.some.inj hf)
  obtain rfl:=hv
  exact done .ni [] rfl
 | pt t v=>
  intro w l cs hf hv hk ha
  obtain ⟨rfl,rfl⟩:=Prod.mk.inj (Option.some.inj hf)
  obtain ⟨hd,rfl⟩:=hv
  exact done (.pt t v) [_] ⟨hd,rfl⟩
 | fn z f q ih=>
  intro w l cs hf hv hk ha
  cases z with
  | true=>
   obtain ⟨rfl,rfl⟩:=Prod.mk.inj (Option.some.inj hf)
   obtain ⟨ds,hd,rfl⟩:=hv
   exact done (.fn true f q) [_] ⟨ds,hd,rfl⟩
  | false=>simp [frzV]at hf
 | _=>intro w l cs hf hv hk ha; simp [frzV]at hf
def isX:Sh->Bool
 | .x _=>true
 | _=>false
theorem qrq:∀(c:Sh) (ln:Bool) (v:V) (l:List V) (i:List Nat),argT h c ln v=some (l,i)->l.length=(cod c).length:=by
 intro c
 induction c with
 | x t=>
  intro ln v l i ha
  cases ln with
  | true=>simp [argT]at ha
  | false=>
   simp only [argT]at ha
   split at ha
   ·obtain ⟨rfl,_⟩:=Prod.mk.inj (Option.some.inj ha); rfl
   ·simp at ha
 | os t=>
  intro ln v l i ha
  cases ln with
  | true=>simp [argT]at ha
  | false=>
   cases v with
   | so id=>
    simp only [argT]at ha
    split at ha
    ·split at ha
     ·obtain ⟨rfl,_⟩:=Prod.mk.inj (Option.some.inj ha); rfl
     ·simp at ha
    ·simp at ha
   | nl k=>
    cases k with
    | zero=>obtain ⟨rfl,_⟩:=Prod.mk.inj (Option.some.inj ha); rfl
    | succ=>simp [argT]at ha
   | _=>simp [argT]at ha
 | rw t=>
  intro ln v l i ha
  cases ln with
  | true=>simp [argT]at ha
  | false=>
   cases v with
   | sr id=>
    simp only [argT]at ha
    split at ha
    ·split at ha
     ·obtain ⟨rfl,_⟩:=Prod.mk.inj (Option.some.inj ha); rfl
     ·simp at ha
    ·simp at ha
   | nl k=>
    cases k with
    | zero=>obtain ⟨rfl,_⟩:=Prod.mk.inj (Option.some.inj ha); rfl
    | succ=>simp [argT]at ha
   | _=>simp [argT]at ha
 | pb t c ih=>
  intro ln v l i ha
  cases ln with
  | true=>simp [argT]at ha
  | false=>
   cases v with
   | op id u p=>
    cases p with
    | cons=>simp [argT]at ha
    | nil=>
     simp only [argT]at ha
     split at ha
     ·obtain ⟨_,ha⟩:=q00 ha
      split at ha
      ·rename_i hh
       obtain ⟨rfl,_⟩:=Prod.mk.inj (Option.some.inj ha)
       exact ih _ _ _ _ hh
      ·simp at ha
     ·simp at ha
   | _=>simp [argT]at ha
 | nl k=>
  intro ln v l i ha
  cases ln with
  | true=>simp [argT]at ha
  | false=>
   cases v with
   | nl k'=>
    simp only [argT]at ha
    obtain ⟨_,ha⟩:=q00 ha
    obtain ⟨rfl,_⟩:=Prod.mk.inj (Option.some.inj ha); rfl
   | _=>simp [argT]at ha
 | st c ih=>
  intro ln v l i ha
  cases ln with
  | true=>simp [argT]at ha
  | false=>
   cases v with
   | rc q=>exact ih true q l i ha
   | x t v=>
    cases t with
    | st u=>exact ih true _ l i ha
    | _=>simp [argT]at ha
   | _=>simp [argT]at ha
 | pr a c iha ihc=>
  intro ln v l i ha
  cases ln with
  | false=>simp [argT]at ha
  | true=>
   cases v with
   | co x r=>
    simp only [argT]at ha
    split at ha
    ·rename_i l1 i1 l2 i2 h2 h3
     obtain ⟨rfl,rfl⟩:=Prod.mk.inj (Option.some.inj ha)
     have hA:l1.length=(cod a).length:=by
      split at h2
      ·unfold nilX at h2
       split at h2
       ·obtain ⟨rfl,_⟩:=Prod.mk.inj (Option.some.inj h2); rfl
       ·simp at h2
      ·exact iha _ _ _ _ h2
     rw [List.length_append,hA,ihc _ _ _ _ h3]
     simp [cod]
    ·simp at ha
   | _=>simp [argT]at ha
 | ni=>
  intro ln v l i ha
  cases ln with
  | false=>cases v <;> simp [argT]at ha
  | true=>
   cases v with
   | ni=>obtain ⟨rfl,_⟩:=Prod.mk.inj (Option.some.inj ha); rfl
   | _=>simp [argT]at ha
 | _=>intro ln v l i ha; cases ln <;> cases v <;> simp [argT]at ha
theorem qth{c:Sh}{v:V}{l:List V}{i:List Nat}(ha:argT h c false v=some (l,i))(hx:isX c=false):agV v=agS c/\tvR h v=tv1R h v:=by
 cases c with
 | x t=>simp [isX]at hx
 | os t=>cases v <;> first | exact ⟨rfl,rfl⟩ | simp [argT]at ha
 | rw t=>cases v <;> first | exact ⟨rfl,rfl⟩ | simp [argT]at ha
 | pb t c=>cases v <;> first | exact ⟨rfl,rfl⟩ | simp [argT]at ha
 | nl k=>cases v <;> first | exact ⟨rfl,rfl⟩ | simp [argT]at ha
 | st c=>
  cases v with
  | rc q=>exact ⟨rfl,rfl⟩
  | x t v=>
   cases t with
   | st u=>exact ⟨rfl,rfl⟩
   | _=>simp [argT]at ha
  | _=>simp [argT]at ha
 | _=>cases v <;> simp [argT]at ha
theorem q83{c:C}{ts:List T}{own rd:List Nat}(hp:packL h1 301 [c]=some (ts,own,rd)):∃t rd',packC h1 300 c=some (t,own,rd')/\ts= [t]:=by
 simp only [packL,q5q]at hp
 split at hp
 ·rename_i t a i xs b j hc hn
  obtain ⟨rfl,e⟩:=Prod.mk.inj (Option.some.inj hp)
  obtain ⟨rfl,rfl⟩:=Prod.mk.inj e
  obtain ⟨rfl,e⟩:=Prod.mk.inj (Option.some.inj hn)
  obtain ⟨rfl,rfl⟩:=Prod.mk.inj e
  exact ⟨t,i,by simpa using hc,rfl⟩
 ·simp at hp
theorem qqq(hr:HR n h1 h){c:Sh}{v:V}{l:List V}{i:List Nat}{x:TV}(hc:resC h c v=some (l,i))(hx:tvR h v x)(hk:okV n h v)(ha:alv h v=true)(hf:Nat.ble (fuT c) 300=true):
  l.length=(cod c).length/\∃r0 own,packR h1 x=some (r0,own)/\own.Sublist i/\∀rest,(bif isX c then frzR r0 else r0)=(bif agS c then .agg (encT c (l++rest)).1 else .c ((encT c (l++rest)).1.headD default))/\(encT c (l++rest)).2=rest:=by
 have hf:fuT c<=300:=Nat.le_of_ble_eq_true hf
 have main:isX c=false->argT h c false v=some (l,i)->l.length=(cod c).length/\∃r0 own,packR h1 x=some (r0,own)/\own.Sublist i/\∀rest,(bif isX c then frzR r0 else r0)=(bif agS c then .agg (encT c (l++rest)).1 else .c ((encT c (l++rest)).1.headD default))/\(encT c (l++rest)).2=rest:=by
  intro hX hc
  obtain ⟨hag,htv⟩:=qth hc hX
  rw [htv]at hx
  obtain ⟨cs,h2,h3,h4⟩:=hx
  obtain ⟨ts,own,rd,g1,g2,g3,_,_,g6,_⟩:=qbd hr c false v l i cs hc h2 hk
  refine ⟨qrq _ _ _ _ _ hc, ?_⟩
  cases hg:agS c with
  | true=>
   obtain rfl:=h3 (hag.trans hg)
   refine ⟨.agg ts,own,by simp only [packR,g1 300 hf],g3,λrest=> ?_⟩
   rw [g2 rest,hX]
   exact ⟨rfl,rfl⟩
  | false=>
   obtain ⟨c1,rfl,rfl⟩:=h4 (hag.trans hg)
   obtain ⟨t,rd',p1,rfl⟩:=q83 (g1 301 (by omega))
   refine ⟨.c t,own,by simp only [packR,p1],g3,λrest=> ?_⟩
   rw [g2 rest,hX]
   exact ⟨rfl,rfl⟩
 cases c with
 | x t=>
  simp only [resC]at hc
  split at hc
  ·rename_i w l' hw
   split at hc
   ·rename_i y hy
    obtain ⟨rfl,rfl⟩:=Prod.mk.inj (Option.some.inj hc)
    have h5:tv1R h v x:=by
     cases v with
     | tp q=>simp [frzV]at hw
     | no=>simp [alv]at ha
     | gn=>simp [alv]at ha
     | _=>exact hx
    obtain ⟨cs,h2,h3,h4⟩:=h5
    obtain ⟨ts,own,rd,g1,g2,g3,g4,g5⟩:=qrf hr v w l' cs hw h2 hk ha
    have e:=q1v w false t y _ hy g2
    have e:=q5y e
    have hag:agV v=agT t:=g5.symm.trans (qc7 hy)
    have hlen:cs.length=szT t:=by rw [g4,<- q05 t y,<- e,List.length_map]
    have hf2:szT t+1<=300:=hf
    refine ⟨rfl, ?_⟩
    cases hg:agT t with
    | true=>
     obtain rfl:=h3 (hag.trans hg)
     refine ⟨.agg ts,own,by simp only [packR,g1 300 (by omega)],g3,λrest=>⟨?_,rfl⟩⟩
     simp only [isX,cond_true,frzR,agS,hg,encT,List.cons_append,List.nil_append,R.agg.injEq]
     rw [<- e,List.map_map]; rfl
    | false=>
     obtain ⟨c1,rfl,rfl⟩:=h4 (hag.trans hg)
     obtain ⟨q,rd',p1,rfl⟩:=q83 (g1 301 (by simp))
     refine ⟨.c q,own,by simp only [packR,p1],g3,λrest=>⟨?_,rfl⟩⟩
     simp only [isX,cond_true,frzR,agS,hg,cond_false,encT,List.cons_append,List.nil_append,R.c.injEq]
     rw [<- e]; rfl
   ·simp at hc
  ·simp at hc
 | os t=>
  cases v with
  | sb id ver lo u r=>
   simp only [resC]at hc
   split at hc
   ·rename_i u0 s0 v0 ho
    split at hc
    ·rename_i s hs
     obtain ⟨rfl,rfl⟩:=Prod.mk.inj (Option.some.inj hc)
     obtain ⟨e,rfl⟩:=q0h hs
     cases e
     obtain rfl:=q7w hx ha
     obtain ⟨q,own,rd,q1,_,q3,q4⟩:=qot hr hk (Bool.and_eq_true_iff.1 ha).2
     obtain rfl:=q4 ⟨_,_,_,ho⟩
     exact ⟨rfl, .c (slT (szT t) (encE t) r),own,by simp only [packR,q1],q3,λrest=>⟨rfl,rfl⟩⟩
    ·simp at hc
   ·simp at hc
  | _=>exact main rfl hc
 | _=>exact main rfl hc
theorem qkp(hr:HR n h1 h):∀(cs:List Sh) (vs:List V) (l:List V) (i:List Nat) (xs:List TV),resCs h cs vs=some (l,i)->tvsR h vs xs->(∀ v∈vs,okV n h v/\alv h v=true)->cs.all (λc=>Nat.ble (fuT c) 300)=true->
  l.length=(cods cs).length/\∃rs0 own,qbi h1 xs=some (rs0,own)/\own.Sublist i/\frzRs (cs.map isX) rs0=encRs cs l:=by
 intro cs
 induction cs with
 | nil=>
  intro vs l i xs hc hx _ _
  cases vs with
  | cons=>simp [resCs]at hc
  | nil=>
   obtain ⟨rfl,rfl⟩:=Prod.mk.inj (Option.some.inj hc)
   rw [q3x hx]
   exact ⟨rfl, [], [],rfl,List.Sublist.refl _,rfl⟩
 | cons c cs ih=>
  intro vs l i xs hc hx hk hf
  cases vs with
  | nil=>simp [resCs]at hc
  | cons v vs=>
   simp only [resCs]at hc
   split at hc
   ·rename_i l1 i1 l2 i2 h2 h3
    obtain ⟨rfl,rfl⟩:=Prod.mk.inj (Option.some.inj hc)
    obtain ⟨y,ys,rfl,hy,hys⟩:=q1g hx
    simp only [List.all_cons,Bool.and_eq_true]at hf
    obtain ⟨e1,r0,own,a1,a2,a3⟩:=qqq hr h2 hy (hk v (by simp)).1 (hk v (by simp)).2 hf.1
    obtain ⟨e2,rs0,own2,b1,b2,b3⟩:=ih vs l2 i2 ys h3 hys (λw hw=>hk w (by simp [hw])) hf.2
    refine ⟨by simp [cods,e1,e2],r0 :: rs0,own++own2,by simp only [qbi,a1,b1],a2.append b2, ?_⟩
    obtain ⟨c1,c2⟩:=a3 l2
    simp only [List.map_cons,frzRs,encRs,c2,b3]
    rw [<- c1]
    cases isX c <;> rfl
   ·simp at hc
theorem qk4(hr:HR n h1 h):∀(cs:List Sh) (g:V) (l:List V) (i:List Nat) (xs:List C),resGs h cs (unrow g)=some (l,i)->ghR h g xs->okV n h g->cs.all (λc=>Nat.ble (fuT c) 300 && !isX c)=true->
  ∃own,PackG h1 xs (encTs cs l) own/\own.Sublist i:=by
 intro cs
 induction cs with
 | nil=>
  intro g l i xs hc hx _ _
  cases g with
  | ni=>
   obtain ⟨rfl,rfl⟩:=Prod.mk.inj (Option.some.inj hc)
   obtain rfl:=hx
   exact ⟨[], .nil,List.Sublist.refl _⟩
  | co a r=>simp [unrow,resGs]at hc
  | _=>exact hx.elim
 | cons c cs ih=>
  intro g l i xs hc hx hk hf
  cases g with
  | ni=>simp [unrow,resGs]at hc
  | co a r=>
   simp only [unrow,resGs]at hc
   split at hc
   ·rename_i l1 i1 l2 i2 h2 h3
    obtain ⟨rfl,rfl⟩:=Prod.mk.inj (Option.some.inj hc)
    obtain ⟨y,ys,rfl,hy,hys⟩:=hx
    simp only [List.all_cons,Bool.and_eq_true,Bool.not_eq_true']at hf
    obtain ⟨own2,b1,b2⟩:=ih r l2 i2 ys h3 hys hk.2 (by simpa using hf.2)
    have gen:(bif alv h a then argT h c false a else none)=some (l1,i1)->∃own,PackG h1 (y :: ys) (encTs (c :: cs) (l1++l2)) own/\own.Sublist (i1++i2):=by
     intro h2
     obtain ⟨ha,h2⟩:=q00 h2
     obtain ⟨ts,own,rd,g1,g2,g3,_⟩:=qbd hr c false a l1 i1 [y] h2 (hy ha) hk.1
     have hfu:fuT c<=300:=Nat.le_of_ble_eq_true hf.1.1
     obtain ⟨t,rd',p1,rfl⟩:=q83 (g1 301 (by omega))
     refine ⟨own++own2, ?_,g3.append b2⟩
     simp only [encTs,g2 l2,List.headD_cons]
     exact .cons p1 b1
    cases c with
    | gn=>
     obtain ⟨rfl,rfl⟩:=Prod.mk.inj (Option.some.inj (show some (([]:List V),([]:List Nat))=some (l1,i1) from h2))
     exact ⟨own2, .gone b1,b2⟩
    | _=>exact gen h2
   ·simp at hc
  | _=>exact hx.elim
end
theorem qlu(hg:GlbOk){s1:St}{s:S2}(hr:R2 s1 s){r:RV}{v:V}(h:resV s r=some v):∃x,resTV s1 r=some x/\tvR s.heap v x/\okV s.next s.heap v/\alv s.heap v=true:=by
 cases r with
 | tmp t=>exact q57 hg hr (o:= .tmp t) h
 | cell t g n=>
  simp only [resV]at h
  split at h
  ·rename_i p hp
   split at h
   ·rename_i w l hl
    obtain ⟨hc,h⟩:=q00 h
    obtain rfl:=Option.some.inj h
    obtain ⟨x,h1,h2,h3,h4⟩:=q57 hg hr hp
    obtain ⟨y,h5,h6,h7⟩:=qaz (nx:=0) (c:=q7y) hr.hr hl hc h2 h3
    refine ⟨y, ?_,h6,h7,(q58 hc).2.2.2⟩
    have h1:fnd s1.env t=some x:=h1
    simp only [resTV,h1]
    cases x with
    | c pc=>
     simp only [ev1]at h5
     split at h5
     ·rename_i z ids hz
      obtain ⟨rfl,_⟩:=Prod.mk.inj (Option.some.inj h5)
      simp only [hz]
     ·simp at h5
    | _=>simp [ev1]at h5
   ·simp at h
  ·simp at h
theorem qow(hg:GlbOk){s1:St}{s:S2}(hr:R2 s1 s):∀(rvs:List RV) (vs:List V),mapO (resV s) rvs=some vs->∃xs,q0t (rvs.map (resTV s1))=some xs/\tvsR s.heap vs xs/\∀v∈vs,okV s.next s.heap v/\alv s.heap v=true:=by
 intro rvs
 induction rvs with
 | nil=>
  intro vs h
  obtain rfl:=Option.some.inj h
  exact ⟨[],rfl,trivial,λv hv=>by simp at hv⟩
 | cons r rvs ih=>
  intro vs h
  simp only [mapO]at h
  split at h
  ·rename_i x y hx hy
   obtain rfl:=Option.some.inj h
   obtain ⟨x1,a1,a2,a3⟩:=qlu hg hr hx
   obtain ⟨xs,b1,b2,b3⟩:=ih y hy
   refine ⟨x1 :: xs,by simp only [List.map_cons,q0t,a1,b1],⟨a2,b2⟩,λv hv=> ?_⟩
   rcases List.mem_cons.1 hv with rfl | hv
   ·exact a3
   ·exact b3 v hv
  ·simp at h
def fitA(al:Wy):Bool:=al.all λw=>w.1.all (λc=>Nat.ble (fuT c) 300) && w.2.all (λc=>Nat.ble (fuT c) 300 && !isX c)
theorem qos(hg:GlbOk){s1:St}{s:S2}(hr:R2 s1 s){rvs:List RV}{rs os:List Sh}{l:List V}(h:finS rvs rs os s=some l)(hf1:rs.all (λc=>Nat.ble (fuT c) 300)=true)(hf2:os.all (λc=>Nat.ble (fuT c) 300 && !isX c)=true):
  ∃rs0,qck rvs s1 rs0 (encTs os (l.drop (cods rs).length))/\frzRs (rs.map isX) rs0=encRs rs (l.take (cods rs).length):=by
 unfold finS at h
 split at h
 ·rename_i vs hvs
  split at h
  ·rename_i l1 i m j h2 h3
   obtain ⟨hn,h⟩:=q00 h
   obtain rfl:=Option.some.inj h
   obtain ⟨xs,a1,a2,a3⟩:=qow hg hr rvs vs hvs
   obtain ⟨e,rs0,own,b1,b2,b3⟩:=qkp hr.hr rs vs l1 i xs h2 a2 a3 hf1
   obtain ⟨own2,c1,c2⟩:=qk4 hr.hr os s.gh m j s1.gh h3 hr.gh.1 hr.gh.2 hf2
   rw [<- e,List.take_left,List.drop_left]
   exact ⟨rs0,⟨xs,own,own2,a1,b1,c1,(b2.append c2).nodup (qjn hn)⟩,b3⟩
  ·simp at h
 ·simp at h
end Go.Ev

namespace Go.Ev
section
variable {h1:Heap}
theorem qn0:∀(c:Sh) (l:List V) (w:V) (l':List V),unfn c l=some (w,l')->celD w=some (encD c l).1/\l'=(encD c l).2:=by
 intro c
 induction c with
 | ni=>
  intro l w l' h
  obtain ⟨rfl,rfl⟩:=Prod.mk.inj (Option.some.inj h)
  exact ⟨rfl,rfl⟩
 | pr a c _ ih=>
  intro l w l' h
  cases a with
  | pt t=>
   match l with
   | .x u v :: l=>
    simp only [unfn]at h
    obtain ⟨hc,hh⟩:=q00 h
    clear h
    simp only [Bool.and_eq_true,decide_eq_true_eq]at hc
    obtain ⟨rfl,hd⟩:=hc
    split at hh
    ·rename_i w2 l2 hw
     obtain ⟨rfl,rfl⟩:=Prod.mk.inj (Option.some.inj hh)
     obtain ⟨h2,h3⟩:=ih l w2 l2 hw
     refine ⟨?_,h3⟩
     simp only [celD,hd,if_true,h2,encD]
    ·simp at hh
   | [] | .kb _ :: _ | .nl _ :: _ | .so _ :: _ | .sb _ _ _ _ _ :: _ | .op _ _ _ :: _ | .ep _ _ _ _ :: _ | .pt _ _ :: _ | .fn _ _ _ :: _ | .om _ :: _ | .rc _ :: _ | .tp _ :: _ | .ni :: _ | .co _ _ :: _ | .fl _ :: _ | .no :: _ | .gn :: _=>simp [unfn]at h
  | _=>simp [unfn]at h
 | _=>intro l w l' h; simp [unfn]at h
theorem qo8:∀ {w:V} {ds:List D},celD w=some ds->alvD w=true:=by
 intro w
 induction w with
 | pt t v=>
  intro ds h
  simp only [celD]at h
  split at h
  ·assumption
  ·simp at h
 | ni=>intro ds _; rfl
 | co a r iha ihr=>
  intro ds h
  simp only [celD]at h
  split at h
  ·rename_i x y hx hy
   simp only [alvD,iha hx,ihr hy,Bool.and_self]
  ·simp at h
 | _=>intro ds h; simp [celD]at h
theorem ent_d{h:H2}{n:Nat}{i:Nat}{u:Ty}{v:El u}(hd:dat u=true)(hs:(agS (.x u) || oneS (.x u))=true):∃x,tvR h (.x u v) x/\okV n h (.x u v)/\
  ∀(r:List A) (k:Nat),enter ((bif agS (.x u)then A.agg (encE u v)else A.d ((encE u v).headD default)) :: r) i k=((i,x) :: (enter r (i+1) k).1,(enter r (i+1) k).2.1,(enter r (i+1) k).2.2.1,(enter r (i+1) k).2.2.2):=by
 cases hg:agT u with
 | true=>
  refine ⟨.agg ((encE u v).map .d),q0e ⟨_,⟨hd,rfl⟩,λ_=>rfl,λe=>(by rw [show agV (.x u v)=agT u from rfl,hg]at e; cases e)⟩,trivial,λr k=> ?_⟩
  simp only [agS,hg,cond_true,enter]
 | false=>
  have h1:szT u=1:=by simpa [agS,hg,oneS]using hs
  have hl:=q05 u v
  rw [h1]at hl
  match he:encE u v,hl with
  | [d],_=>
   refine ⟨.c (.d d),q0e ⟨[.d d],⟨hd,by rw [he]; rfl⟩,λe=>(by rw [show agV (.x u v)=agT u from rfl,hg]at e; cases e),λ_=>⟨_,rfl,rfl⟩⟩,trivial,λr k=> ?_⟩
   simp only [agS,hg,cond_false,enter,List.headD_cons]
theorem qaw{α:Type}{a t:Nat}{x:α}{l:List (Nat×α)}(h:a≠t):fnd ((a,x) :: l) t=fnd l t:=by
 simp only [fnd]
 rw [show (a == t)=false by simpa using h,cond_false]
theorem q6k{α:Type}{a:Nat}{x:α}{l:List (Nat×α)}:fnd ((a,x) :: l) a=some x:=by simp [fnd]
theorem qok:∀(ps:List (Bool×Sh)) (i:Nat) (l:List V) (s:S2) (h1:Heap) (e:List (Nat×V)) (s':S2),entA ps i l s=some (e,s')->psOk ps=true->HR s.next h1 s.heap->s.gh= .ni->
  HR s'.next ((enter (encAs ps l) i s.next).2.1++h1) s'.heap/\HSt s.next s.heap s'.heap/\s.next<=s'.next/\(∀ p∈(enter (encAs ps l) i s.next).2.1,s.next<=p.1/\p.1 < s'.next)/\
  (∀ t v,fnd e t=some v->okV s'.next s'.heap v/\∃x,fnd (enter (encAs ps l) i s.next).1 t=some x/\tvR s'.heap v x)/\
  s'.next=(enter (encAs ps l) i s.next).2.2.1/\ghR s'.heap s'.gh (enter (encAs ps l) i s.next).2.2.2/\okV s'.next s'.heap s'.gh:=by
 intro ps
 induction ps with
 | nil=>
  intro i l s h1 e s' he _ hr hg
  cases l with
  | cons=>simp [entA]at he
  | nil=>
   obtain ⟨rfl,rfl⟩:=Prod.mk.inj (Option.some.inj he)
   simp only [encAs,enter,List.nil_append]
   refine ⟨hr,HSt.refl _ _,Nat.le_refl _,λp hp=>by simp at hp,λt v h=>by simp [fnd]at h,trivial, ?_, ?_⟩
   ·rw [hg]; rfl
   ·rw [hg]; trivial
 | cons p ps ih=>
  obtain ⟨b,c⟩:=p
  intro i l s h1 e s' he hp hr hg
  simp only [psOk,Bool.and_eq_true]at hp
  obtain ⟨hc,hps⟩:=hp
  -- data: one more temporary
  have data:∀(l2:List V) (w:V) (a:A) (x:TV),encAs ((b,c) :: ps) l=a :: encAs ps l2->(∀ (r:List A) (k:Nat),enter (a :: r) i k=((i,x) :: (enter r (i+1) k).1,(enter r (i+1) k).2.1,(enter r (i+1) k).2.2.1,(enter r (i+1) k).2.2.2))->
    (∀ h,tvR h w x)->(∀ n h,okV n h w)->(match entA ps (i+1) l2 s with | some (e,s)=>some ((i,w) :: e,s) | none=>none)=some (e,s')->
    HR s'.next ((enter (encAs ((b,c) :: ps) l) i s.next).2.1++h1) s'.heap/\HSt s.next s.heap s'.heap/\s.next<=s'.next/\(∀ p∈(enter (encAs ((b,c) :: ps) l) i s.next).2.1,s.next<=p.1/\p.1 < s'.next)/\
    (∀ t v,fnd e t=some v->okV s'.next s'.heap v/\∃x,fnd (enter (encAs ((b,c) :: ps) l) i s.next).1 t=some x/\tvR s'.heap v x)/\
    s'.next=(enter (encAs ((b,c) :: ps) l) i s.next).2.2.1/\ghR s'.heap s'.gh (enter (encAs ((b,c) :: ps) l) i s.next).2.2.2/\okV s'.next s'.heap s'.gh:=by
   intro l2 w a x ha hen hx hk he
   split at he
   ·rename_i e1 s1 h2
    obtain ⟨rfl,rfl⟩:=Prod.mk.inj (Option.some.inj he)
    obtain ⟨a1,a2,a3,a4,a5,a6,a7,a8⟩:=ih (i+1) l2 s h1 e1 s1 h2 hps hr hg
    rw [ha,hen]
    refine ⟨a1,a2,a3,a4,λt v h=> ?_,a6,a7,a8⟩
    by_cases et:i=t
    ·subst et
     rw [q6k]at h
     obtain rfl:=Option.some.inj h
     exact ⟨hk _ _,x,q6k,hx _⟩
    ·rw [qaw et]at h ⊢
     exact a5 t v h
   ·simp at he
  cases b with
  | true=>
   simp only [cond_true,Bool.and_eq_true]at hc
   simp only [entA]at he
   split at he
   ·rename_i w l2 s1 hm
    split at he
    ·rename_i e1 s2 h2
     obtain ⟨rfl,rfl⟩:=Prod.mk.inj (Option.some.inj he)
     obtain ⟨g1,g2,g3,g4,g5,_⟩:=qac c false l s w l2 s1 h1 hm hr
     have hone:oneS c=true:=by
      have:=hc.1
      cases c <;> simp [lentS]at this <;> rfl
     have hlen:=qhh hm hone
     match ht:(encT c l).1,hlen with
     | [t0],_=>
      have hu:unL s.next [t0]=([(unC s.next t0).1],(unC s.next t0).2.1++ [],(unC s.next t0).2.2):=rfl
      rw [ht,hu]at g1 g3 g4
      simp only [List.append_nil]at g1 g3 g4
      obtain ⟨k1,k2,k3,k4,k5,k6,_⟩:=g3
      obtain ⟨a1,a2,a3,a4,a5,a6,a7,a8⟩:=ih (i+1) l2 s1 ((unC s.next t0).2.1++h1) e1 s2 h2 hps k1 (k4.trans hg)
      have hen:enter (encAs ((true,c) :: ps) l) i s.next=((i, .c (unC s.next t0).1) :: (enter (encAs ps l2) (i+1) s1.next).1,(unC s.next t0).2.1++(enter (encAs ps l2) (i+1) s1.next).2.1,(enter (encAs ps l2) (i+1) s1.next).2.2.1,(unC s.next t0).1 :: (enter (encAs ps l2) (i+1) s1.next).2.2.2):=by
       simp only [encAs,ht,List.headD_cons,<- g5,enter,<- g4]
      rw [hen]
      have hk:=q1j a3 a2 g2
      have hcel:=q3h a2 g2 g1
      refine ⟨a1.ext λj=>qbn (λp hp q hq e=> ?_) j,HSt.trans k5 k2 a2,Nat.le_trans k5 a3,λp hp=> ?_,λt v h=> ?_,a6,⟨_,_,rfl,λ_=>hcel,a7⟩,⟨hk,a8⟩⟩
      ·have:=(k6 p hp).2
       have:=(a4 q hq).1
       omega
      ·rcases List.mem_append.1 hp with hp | hp
       ·exact ⟨(k6 p hp).1,Nat.lt_of_lt_of_le (k6 p hp).2 a3⟩
       ·exact ⟨Nat.le_trans k5 (a4 p hp).1,(a4 p hp).2⟩
      ·by_cases et:i=t
       ·subst et
        rw [q6k]at h
        obtain rfl:=Option.some.inj h
        refine ⟨hk,_,q6k, ?_⟩
        have hag:agV w=false:=by
         have:=qac c false l s w l2 s1 h1 hm hr
         rw [this.2.2.2.2.2 rfl]
         have:=hc.1
         cases c <;> simp [lentS]at this <;> rfl
        exact q0e ⟨_,hcel,λe=>(by rw [hag]at e; cases e),λ_=>⟨_,rfl,rfl⟩⟩
       ·rw [qaw et]at h ⊢
        exact a5 t v h
    ·simp at he
   ·simp at he
  | false=>
   simp only [cond_false,Bool.and_eq_true]at hc
   cases c with
   | x t=>
    match l,he with
    | .x u v :: l,he=>
     simp only [entA]at he
     obtain ⟨hd,he2⟩:=q00 he
     simp only [Bool.and_eq_true,decide_eq_true_eq]at hd
     obtain ⟨rfl,hd⟩:=hd
     obtain ⟨x,_,_,h3⟩:=ent_d (h:= []) (n:=0) (i:=i) (v:=v) hd hc.1
     have hx:∀h,tvR h (.x u v) x:=λh=>by
      obtain ⟨x',h1,_,h3'⟩:=ent_d (h:=h) (n:=0) (i:=i) (v:=v) hd hc.1
      have e1:=h3 [] 0
      rw [h3' [] 0]at e1
      have:x'=x:=by
       have:=(Prod.mk.inj e1).1
       exact (Prod.mk.inj (List.cons.inj this).1).2
      rw [<- this]; exact h1
     exact data l (.x u v) _ x rfl h3 hx (λ_ _=>trivial) he2
    | [],he | .kb _ :: _,he | .nl _ :: _,he | .so _ :: _,he | .sb _ _ _ _ _ :: _,he | .op _ _ _ :: _,he | .ep _ _ _ _ :: _,he | .pt _ _ :: _,he | .fn _ _ _ :: _,he | .om _ :: _,he | .rc _ :: _,he | .tp _ :: _,he | .ni :: _,he | .co _ _ :: _,he | .fl _ :: _,he | .no :: _,he | .gn :: _,he=>simp [entA]at he
   | pt t=>
    match l,he with
    | .x u v :: l,he=>
     simp only [entA]at he
     obtain ⟨hd,he2⟩:=q00 he
     simp only [Bool.and_eq_true,decide_eq_true_eq]at hd
     obtain ⟨rfl,hd⟩:=hd
     refine data l (.pt u v) (.d (.pt (encE u v))) (.c (.d (.pt (encE u v)))) rfl (λr k=>by simp only [enter]) (λh=>q0e (q0v rfl ⟨hd,rfl⟩)) (λ_ _=>trivial) he2
    | [],he | .kb _ :: _,he | .nl _ :: _,he | .so _ :: _,he | .sb _ _ _ _ _ :: _,he | .op _ _ _ :: _,he | .ep _ _ _ _ :: _,he | .pt _ _ :: _,he | .fn _ _ _ :: _,he | .om _ :: _,he | .rc _ :: _,he | .tp _ :: _,he | .ni :: _,he | .co _ _ :: _,he | .fl _ :: _,he | .no :: _,he | .gn :: _,he=>simp [entA]at he
   | nl k=>
    have he:(match entA ps (i+1) l s with | some (e,s)=>some ((i,V.nl k) :: e,s) | none=>none)=some (e,s'):=by cases l <;> exact he
    refine data l (.nl k) (.d (nlD k)) (.c (.d (nlD k))) (by cases l <;> rfl) (λr k=>by simp only [enter]) (λh=>q0e (q0v rfl rfl)) (λ_ _=>trivial) he
   | fn f c2=>
    have he:(match unfn c2 l with | some (w,l)=>(match entA ps (i+1) l s with | some (e,s)=>some ((i,V.fn true f w) :: e,s) | none=>none) | none=>none)=some (e,s'):=by cases l <;> exact he
    split at he
    ·rename_i w l2 hw
     obtain ⟨h2,rfl⟩:=qn0 c2 l w l2 hw
     refine data _ (.fn true f w) (.d (.fn f (encD c2 l).1)) (.c (.d (.fn f (encD c2 l).1))) (by cases l <;> rfl) (λr k=>by simp only [enter]) (λh=>q0e (q0v rfl ⟨_,h2,rfl⟩)) (λn h=> ?_) he
     exact (qdp (h:=h) w (qo8 h2)).2 n
    ·simp at he
   | _=>cases l <;> simp [entA]at he
theorem qn3{ps:List (Bool×Sh)}{l:List V}{s:S2}(h:entS ps l=some s)(hp:psOk ps=true):R2 (q65 (encAs ps l)) s:=by
 unfold entS at h
 split at h
 ·rename_i e s1 he
  obtain rfl:=Option.some.inj h
  obtain ⟨a1,a2,a3,a4,a5,a6,a7,a8⟩:=qok ps 0 l ⟨[], [],0, [], .ni⟩ [] e s1 he hp ⟨λi o ho=>by simp [fO,fnd]at ho⟩ rfl
  rw [List.append_nil]at a1
  exact ⟨λt v ht=>⟨(a5 t v ht).1,λ_=>(a5 t v ht).2⟩,a1,Nat.le_of_eq a6.symm,a7,a8⟩
 ·simp at h
end
theorem qn9:∀(ps:List (Bool×Sh)) (l:List V),(encAs ps l).length=ps.length:=by
 intro ps
 induction ps with
 | nil=>intro l; rfl
 | cons p ps ih=>
  obtain ⟨b,c⟩:=p
  intro l
  cases b <;> simp [encAs,ih]
theorem qr0{P:Program}{sig:Sig}{nt:Nat}{an:List (Nat×An)}:∀(c:Code) (n:Nat) (s:St) (Q:Out->St->Prop),W P (erase (comp2 P sig nt an c n).1) s Q->W P (comp P sig nt c) s Q:=by
 intro c
 induction c with
 | skip=>intro n s Q h; exact h
 | exit id=>intro n s Q h; exact h
 | ret=>intro n s Q h; exact h
 | region o ops draw=>
  intro n s Q h
  have hm:(ops.toList.map (opOf P sig nt ops)).map (·.o)=ops.toList.map (q1n P sig nt ops):=by rw [List.map_map]; rfl
  cases draw with
  | false=>
   simp only [comp2,Bool.false_eq_true,if_false,erase,hm]at h
   simpa only [comp,Bool.false_eq_true,if_false]using h
  | true=>
   simp only [comp2,if_true]at h
   simp only [comp,if_true,qat]
   split at h
   ·rename_i hc
    simp only [erase,hm]at h
    rw [if_pos (by simpa using hc)]
    exact h
   ·exact h.elim
 | seq a b iha ihb=>
  intro n s Q h
  simp only [comp2,erase]at h
  exact iha _ s _ (W.mono (After.mono (λs1 h1=>ihb _ s1 Q h1) λ_ _ h=>h) h)
 | cond x a b iha ihb=>
  intro n s Q h
  simp only [comp2,erase]at h
  obtain ⟨s1,h0,t,h1,h2,h3⟩:=h
  exact ⟨s1,h0,t,h1,λht=>iha _ s1 Q (h2 ht),λht=>ihb _ s1 Q (h3 ht)⟩
 | block id a ih=>
  intro n s Q h
  simp only [comp2,erase]at h
  exact ih _ s _ h
 | loop a ih=>
  intro n s Q h
  simp only [comp2]at h
  split at h
  ·simp only [erase]at h
   obtain ⟨I,m,h1,h2⟩:=h
   exact ⟨I,m,h1,λk s1 hI=>ih _ s1 _ (h2 k s1 hI)⟩
  ·exact h.elim
 | scope a ih=>intro n s Q h; exact ih _ s Q h
 | label l=>intro n s Q h; exact h
 | _=>intro n s Q h; exact h.elim
theorem qk6{P:Program}{sig:Sig}{f np:Nat}{an:List (Nat×An)}{F:F2}(h:compF P sig f np an=some F):∃G,qf5 P sig f np=some G/\G.np=np/\G.rvs=F.rvs/\∀s Q,W P (erase F.body) s Q->W P G.body s Q:=by
 unfold compF at h
 split at h
 ·simp at h
 rename_i g hg
 split at h
 ·simp at h
 rename_i code hb
 split at h
 case isFalse=>simp at h
 rename_i hc
 split at h
 case h_2=>simp at h
 rename_i rvs hrv
 obtain rfl:=Option.some.inj h
 unfold qf5
 simp only [hg,hb,hrv]
 rw [if_pos (by simpa using hc)]
 exact ⟨_,rfl,rfl,rfl,λs Q hw=>qr0 code 0 s Q hw⟩
theorem qwn{rvs:List RV}:∀(al:Wy) (z:SumA al),∃r o l,(r,o)∈al/\(∀ s,finA rvs s al=some z->finS rvs r o s=some l)/\∀Q:List Sh->List Sh->List V->Prop,Q r o l->wayP Q al z:=by
 have key:∀(w:Wy) (r o:List Sh) (z:SumA.SumB r o w),∃r' o' l,(r',o')∈(r,o) :: w/\(∀ s,finB rvs s r o w=some z->finS rvs r' o' s=some l)/\∀Q:List Sh->List Sh->List V->Prop,Q r' o' l->wayQ Q r o w z:=by
  intro w
  induction w with
  | nil=>
   intro r o z
   refine ⟨r,o,untV (cods r++cods o) z,by simp,λs hz=> ?_,λQ hQ=>hQ⟩
   simp only [finB]at hz
   split at hz
   ·rename_i l hl
    rw [q77 _ _ _ hz]; exact hl
   ·simp at hz
  | cons p w ih=>
   obtain ⟨r',o'⟩:=p
   intro r o z
   cases z with
   | inl y=>
    refine ⟨r,o,untV (cods r++cods o) y,by simp,λs hz=> ?_,λQ hQ=>hQ⟩
    simp only [finB]at hz
    split at hz
    ·rename_i l hl
     split at hz
     ·rename_i y2 hy
      have e:y2=y:=by
       have:=Option.some.inj hz
       cases this; rfl
      subst e
      rw [q77 _ _ _ hy]; exact hl
     ·simp at hz
    ·split at hz
     ·have:=Option.some.inj hz
      cases this
     ·simp at hz
   | inr y=>
    obtain ⟨r2,o2,l,h1,h2,h3⟩:=ih r' o' y
    refine ⟨r2,o2,l,List.mem_cons_of_mem _ h1,λs hz=> ?_,λQ hQ=>h3 Q hQ⟩
    simp only [finB]at hz
    split at hz
    ·split at hz
     ·have:=Option.some.inj hz
      cases this
     ·simp at hz
    ·split at hz
     ·rename_i y2 hy
      have e:y2=y:=by
       have:=Option.some.inj hz
       cases this; rfl
      subst e
      exact h2 s hy
     ·simp at hz
 intro al z
 cases al with
 | nil=>exact nomatch z
 | cons p w=>exact key w p.1 p.2 z
theorem qpt{P:Program}(hm:P.follows .mixedOrders=true){sig:Sig}{f np:Nat}{an:List (Nat×An)}{F:F2}{tb:Tab}(htb:TabOk P tb)(hg:GlbOk)(hF:compF P sig f np an=some F){ps:List (Bool×Sh)}{al:Wy}(hnp:ps.length=np)(hps:psOk ps=true)(hal:fitA al=true)
  {p:PayL (cods (ps.map (·.2)))} {z:SumA al} (hz:evF tb (some F) ps al p=some z):
  wayP (λrs os l=>Good P f (encAs ps (untV (cods (ps.map (·.2))) p)) (encRs rs (l.take (cods rs).length)) (encTs os (l.drop (cods rs).length))) al z:=by
 obtain ⟨G,hG,hGn,hGr,hGb⟩:=qk6 hF
 simp only [evF]at hz
 split at hz
 case h_2=>simp at hz
 rename_i s hs
 have hr:=qn3 hs hps
 -- the ways that the run may end in
 have hend:∀o s1',Aft (dsts F.body) (q65 (encAs ps (untV _ p))) s (λo s=>match o with | .exit _=>none | _=>finA F.rvs s al) z o s1'->wk (λs1''=>∃s',R2 s1'' s'/\s1''.gh.length=(q65 (encAs ps (untV _ p))).gh.length/\(∀ i,o≠ .exit i)/\finA F.rvs s' al=some z) s1':=by
  intro o s1' h
  refine wk.mono h λs1'' ⟨s',h1,⟨w,h2,h3⟩,h4⟩=>⟨s',h1,h3.gl,λi e=> ?_, ?_⟩
  ·subst e; simp at h4
  ·cases o with
   | exit i=>simp at h4
   | _=>exact h4
 have hW:=W.mono hend (qlo htb hg F.body _ s _ z hz hr)
 obtain ⟨r,o,l,h1,h2,h3⟩:=qwn (rvs:=F.rvs) al z
 refine h3 _ (qt8 hm hG (m:=r.map isX) ⟨?_,hGb _ _ (W.mono (λout s1' h=> ?_) hW)⟩)
 ·rw [qn9,hnp,hGn]
 ·have hf:=List.all_eq_true.1 hal (r,o) h1
  simp only [Bool.and_eq_true]at hf
  have fin:wk (λs=>s.gh.length=(q65 (encAs ps (untV (cods (ps.map (·.2))) p))).gh.length/\∃rs0,qck G.rvs s rs0 (encTs o (l.drop (cods r).length))/\frzRs (r.map isX) rs0=encRs r (l.take (cods r).length)) s1':=by
   refine wk.mono h λs1'' ⟨s',k1,k2,_,k4⟩=>⟨k2, ?_⟩
   rw [hGr]
   exact qos hg k1 (h2 s' k4) hf.1 hf.2
  cases out with
  | normal=>exact fin
  | ret=>exact fin
  | exit i=>
   obtain ⟨_,_,_,_,_,k,_⟩:=h
   exact absurd rfl (k i)
theorem q0f{P:Program}(hm:P.follows .mixedOrders=true)(hg:GlbOk){sig:Sig}{f np:Nat}{an:List (Nat×An)}{tb:Tab}(htb:TabOk P tb){sp:Spc}
  (h1:(wyOk sp && Nat.beq sp.ps.length np && fitA sp.al)=true) (h3:(λp=>evF tb (compF P sig f np an) sp.ps sp.al p)=sp.fn):SpcOk P f sp:=by
 simp only [Bool.and_eq_true]at h1
 obtain ⟨⟨h4,h5⟩,h6⟩:=h1
 refine ⟨h4,λp z hz=> ?_⟩
 have hp:psOk sp.ps=true:=by
  simp only [wyOk,Bool.and_eq_true]at h4
  exact h4.1.1.2
 rw [<- h3]at hz
 have hz:evF tb (compF P sig f np an) sp.ps sp.al p=some z:=hz
 cases hF:compF P sig f np an with
 | none=>rw [hF]at hz; simp [evF]at hz
 | some F=>
  rw [hF]at hz
  exact qpt hm htb hg hF (Nat.eq_of_beq_eq_true h5) hp h6 hz
theorem qso(h:∀g,glbV g=none):GlbOk:=λg v hg=>by rw [h g]at hg; simp at hg
end Go.Ev

namespace Go.Ev
section
variable {P:Program}{sz:Nat}{z:List Value}{rows:List (List D)}{i j:Int}
end
end Go.Ev

namespace Go.Ev
section
variable {H:Heap}{nx:Nat}
end
section
variable {P:Program}{z:List Value}{rows:List (List D)}{x:List D}{i:Int}
end
end Go.Ev

namespace Go.Ev
open Go.ChangeShapes Go.WideShapes Go.ChangeAt Go.RowKit
def fitT:(t:Ty)->El t->Prop
 | .i k,x=>k.min<=x/\x<=k.max
 | .s,s=>s.size<=maxLen
 | .f k,b=>(Lit.float k b).wf=true
 | .sl t,s=>s.l.length<=maxLen/\∀x∈s.l,fitT t x
 | .pr a c,v=>fitT a v.1/\fitT c v.2
 | .st t,v=>fitT t v
 | .ar _ t,v=>∀x∈v.1,fitT t x
 | _,_=>True
def okFs(P:Program)(ok:TypeId->Bool)(sz:TypeId->Nat):List Field->Nat->Nat->Bool
 | [],off,tot=>Nat.beq off tot
 | f :: r,off,tot=>ok f.type && Nat.beq f.offset off && Nat.beq (P.cellsOf f.type) (sz f.type) && okFs P ok sz r (off+sz f.type) tot
def okY(P:Program):Nat->TypeId->Bool
 | 0,_=>false
 | n+1,t=>match P.underlying t with
  | some (.int _) | some .bool | some .string | some (.float _)=>true
  | some (.slice e)=>okY P n e && Nat.blt 0 (szT (tyOf P n e)) && Nat.beq (P.cellsOf e) (szT (tyOf P n e))
  | some (.struct fs)=>okFs P (okY P n) (λt=>szT (tyOf P n t)) fs.toList 0 (P.cellsOf t)
  | some (.array m e)=>okY P n e && Nat.beq (P.cellsOf e) (szT (tyOf P n e)) && Nat.beq (P.cellsOf t) (m * szT (tyOf P n e))
  | _=>false
theorem qr4{P:Program}:∀(n:Nat) (t:TypeId),okY P n t=true->Opens P t (encE (tyOf P n t)) (fitT (tyOf P n t)):=by
 intro n
 induction n with
 | zero=>intro t h; simp [okY]at h
 | succ n ih=>
  intro t h
  simp only [okY]at h
  split at h
  ·rename_i k hu
   rw [show tyOf P (n+1) t= .i k by simp only [tyOf,hu]]
   exact qpb hu
  ·rename_i hu
   rw [show tyOf P (n+1) t= .b by simp only [tyOf,hu]]
   exact qjs hu
  ·rename_i hu
   rw [show tyOf P (n+1) t= .s by simp only [tyOf,hu]]
   exact qg0 hu
  ·rename_i k hu
   rw [show tyOf P (n+1) t= .f k by simp only [tyOf,hu]]
   exact qh1 hu
  ·rename_i e hu
   simp only [Bool.and_eq_true]at h
   obtain ⟨⟨h1,h2⟩,h3⟩:=h
   rw [show tyOf P (n+1) t= .sl (tyOf P n e) by simp only [tyOf,hu]]
   exact qgy (enc:=encE (tyOf P n e)) hu (Nat.eq_of_beq_eq_true h3) (by simpa [Nat.blt_eq]using h2) (λa=>q05 _ a) (ih e h1)
  ·rename_i fs hu
   rw [show tyOf P (n+1) t= .st (tyOf.chn (fs.toList.map λf=>tyOf P n f.type)) by simp only [tyOf,hu]]
   intro H en w fuel cs x hx
   have hl:=qkc hu hx
   have key:∀(suf:List Field) (i off:Nat),(∀ j,fs[i+j]? =suf[j]?)->okFs P (okY P n) (λt=>szT (tyOf P n t)) suf off (P.cellsOf t)=true->
     ∃v:El (tyOf.chn (suf.map λf=>tyOf P n f.type)),fitT _ v/\Cells w (cs.drop off) (encE _ v):=by
    intro suf
    induction suf with
    | nil=>
     intro i off _ hok
     have e:=Nat.eq_of_beq_eq_true hok
     exact ⟨(),trivial,Cells.nil (by rw [List.length_drop,hl,e]; omega)⟩
    | cons f r ihr=>
     intro i off hi hok
     simp only [okFs,Bool.and_eq_true]at hok
     obtain ⟨⟨⟨k1,k2⟩,k3⟩,k4⟩:=hok
     have k2:=Nat.eq_of_beq_eq_true k2
     have k3:=Nat.eq_of_beq_eq_true k3
     have hf:fs[i]? =some f:=by have:=hi 0; simpa using this
     obtain ⟨a,f1,c1⟩:=qh8 hu hx hf (ih f.type k1)
     rw [k2,k3]at c1
     obtain ⟨v,f2,c2⟩:=ihr (i+1) (off+szT (tyOf P n f.type)) (λj=>by have:=hi (j+1); rw [show i+1+j=i+(j+1) by omega,this]; rfl) k4
     have hle:off+szT (tyOf P n f.type)<=cs.length:=by
      have hmono:∀(suf:List Field) (off:Nat),okFs P (okY P n) (λt=>szT (tyOf P n t)) suf off (P.cellsOf t)=true->off<=P.cellsOf t:=by
       intro suf
       induction suf with
       | nil=>intro off h; exact Nat.le_of_eq (Nat.eq_of_beq_eq_true h)
       | cons g r ih=>intro off h; simp only [okFs,Bool.and_eq_true]at h; have:=ih _ h.2; omega
      rw [hl]; exact hmono r _ k4
     have hfield:=Cells.field c1 rfl c2 hle
     cases r with
     | nil=>
      have e:encE (tyOf.chn (([]:List Field).map λf=>tyOf P n f.type)) v= []:=rfl
      rw [e,List.append_nil]at hfield
      exact ⟨a,f1,hfield⟩
     | cons g r=>exact ⟨(a,v),⟨f1,f2⟩,hfield⟩
   obtain ⟨v,f1,c1⟩:=key fs.toList 0 0 (λj=>by simp) h
   exact ⟨v,f1,by rw [List.drop_zero]at c1; exact c1⟩
  ·rename_i m e hu
   simp only [Bool.and_eq_true]at h
   obtain ⟨⟨h1,h2⟩,h3⟩:=h
   have h2:=Nat.eq_of_beq_eq_true h2
   have h3:=Nat.eq_of_beq_eq_true h3
   rw [show tyOf P (n+1) t= .ar m (tyOf P n e) by simp only [tyOf,hu]]
   intro H en w fuel cs x hx
   have hl:=qoj hu hx
   have key:∀j,j<=m->∃l:List (El (tyOf P n e)),l.length=j/\(∀ y∈l,fitT _ y)/\Cells w (cs.drop ((m - j) * szT (tyOf P n e))) (l.flatMap (encE (tyOf P n e))):=by
    intro j
    induction j with
    | zero=>intro _; exact ⟨[],rfl,λy hy=>by simp at hy,Cells.nil (by rw [List.length_drop,hl,h3]; simp)⟩
    | succ j ihj=>
     intro hj
     obtain ⟨l,l1,l2,l3⟩:=ihj (by omega)
     obtain ⟨a,f1,c1⟩:=qks hu hx (i:=m - (j+1)) (by omega) (ih e h1)
     rw [h2]at c1
     have hs:(m - (j+1)) * szT (tyOf P n e)+szT (tyOf P n e)=(m - j) * szT (tyOf P n e):=by
      rw [show m - j=(m - (j+1))+1 by omega,Nat.succ_mul]
     refine ⟨a :: l,by simp [l1],λy hy=> ?_, ?_⟩
     ·rcases List.mem_cons.1 hy with rfl | hy
      ·exact f1
      ·exact l2 y hy
     ·rw [List.flatMap_cons]
      refine Cells.field c1 hs l3 ?_
      rw [hl,h3]; exact Nat.mul_le_mul_right _ (by omega)
   obtain ⟨l,l1,l2,l3⟩:=key m (Nat.le_refl _)
   rw [Nat.sub_self,Nat.zero_mul,List.drop_zero]at l3
   exact ⟨⟨l,l1⟩,l2,l3⟩
  ·simp at h
def FitL:List Ty->List V->Prop
 | [],l=>l= []
 | a :: r,l=>∃(v:El a) (m:List V),l= .x a v :: m/\fitT a v/\FitL r m
theorem qm5{a:Ty}(v:El a):castX a (.x a v)=some v:=by simp [castX,castE]
theorem FitL.tup:∀ {cs:List Ty} {l:List V},FitL cs l->∃p,tupV cs l=some p/\untV cs p=l:=by
 have key:∀(r:List Ty) (a:Ty) (l:List V),FitL (a :: r) l->∃p,tupC a r l=some p:=by
  intro r
  induction r with
  | nil=>
   rintro a l ⟨v,m,rfl,_,hm⟩
   have hm:m= []:=hm
   subst hm
   exact ⟨v,qm5 v⟩
  | cons c r ih=>
   rintro a l ⟨v,m,rfl,_,hm⟩
   obtain ⟨p,hp⟩:=ih c m hm
   refine ⟨(v,p), ?_⟩
   show tup2 (castX a (.x a v)) (tupC c r m)=_
   rw [qm5,hp]; rfl
 intro cs l h
 cases cs with
 | nil=>
  have h:l= []:=h
  subst h
  exact ⟨(),rfl,rfl⟩
 | cons a r=>
  obtain ⟨p,hp⟩:=key r a l h
  exact ⟨p,hp,q77 (a :: r) l p hp⟩
theorem qwk{P:Program}{n:Nat}{t:TypeId}(ho:okY P n t=true)(h1:(agT (tyOf P n t) || Nat.beq (szT (tyOf P n t)) 1)=true){w:World}{r:Reach}{b:Nat}{v:Value}(hv:Value.okWide P w r b t v)
  {H:Type} {en:TypeId×Value->H} {x:DataW H} {ps:List MemPlace} (h:DataW.Trod en P w 0 (λ_=>true) true t v x ps):∃a:El (tyOf P n t),fitT _ a/\RA (S0 w) w (bif agT (tyOf P n t)then .agg (encE _ a)else .d ((encE _ a).headD default)) v []:=by
 have hop:=qr4 n t ho
 cases hag:agT (tyOf P n t)with
 | true=>
  simp only [cond_true]
  cases n with
  | zero=>simp [okY]at ho
  | succ n=>
   simp only [okY]at ho
   split at ho
   ·rename_i hu; simp [tyOf,hu,agT]at hag
   ·rename_i hu; simp [tyOf,hu,agT]at hag
   ·rename_i hu; simp [tyOf,hu,agT]at hag
   ·rename_i hu; simp [tyOf,hu,agT]at hag
   ·rename_i hu; simp [tyOf,hu,agT]at hag
   ·rename_i fs hu; exact qu4 hop hv hu h
   ·rename_i m e hu; exact quu hop hv hu h
   ·simp at ho
 | false=>
  simp only [cond_false]
  have hsz:szT (tyOf P n t)=1:=by
   rw [hag,Bool.false_or]at h1
   exact Nat.eq_of_beq_eq_true h1
  have he:(λa=> [(encE (tyOf P n t) a).headD default])=encE (tyOf P n t):=by
   funext a
   have hl:=q05 (tyOf P n t) a
   rw [hsz]at hl
   match hh:encE (tyOf P n t) a,hl with
   | [d],_=>rfl
  have hs:match P.underlying t with | some (.struct _) | some (.array _ _) | some (.interface _) | some (.func ..) | some (.chan ..) | some .unsafePointer | some (.map _ _)=>False | _=>True:=by
   cases n with
   | zero=>simp [okY]at ho
   | succ n=>
    simp only [okY]at ho
    split at ho
    ·rename_i hu; rw [hu]; trivial
    ·rename_i hu; rw [hu]; trivial
    ·rename_i hu; rw [hu]; trivial
    ·rename_i hu; rw [hu]; trivial
    ·rename_i hu; rw [hu]; trivial
    ·rename_i fs hu; simp [tyOf,hu,agT]at hag
    ·rename_i m e hu; simp [tyOf,hu,agT]at hag
    ·simp at ho
  exact arg_d (d:=λa=>(encE (tyOf P n t) a).headD default) (fit:=fitT (tyOf P n t)) (by rw [he]; exact hop) hv hs h
def okA(P:Program)(ts:List TypeId):Bool:=ts.all λt=>okY P dep t && (agT (tyOf P dep t) || Nat.beq (szT (tyOf P dep t)) 1)
theorem quh{P:Program}{W:World}{base:Nat}{H:Type}{en:TypeId×Value->H}:∀(ts:List TypeId) (vs:List Value) (ds:List (DataW H)) (ps:List MemPlace),DataW.TrodAll en P W 0 (λ_=>true) true ts vs ds ps->okA P ts=true->
  (∀ (j:Nat) t v,ts[j]? =some t->vs[j]? =some v->Value.okWide P W .any base t v)->∃l,FitL (ts.map (tyOf P dep)) l/\RAs (S0 W) W (encAs (ts.map λt=>(false,Sh.x (tyOf P dep t))) l) vs []:=by
 intro ts
 induction ts with
 | nil=>
  intro vs ds ps h _ _
  cases vs with
  | nil=>exact ⟨[],rfl,rfl⟩
  | cons=>cases ds <;> exact h.elim
 | cons t ts ih=>
  intro vs ds ps h hok hv
  cases vs with
  | nil=>cases ds <;> exact h.elim
  | cons v vs=>
   cases ds with
   | nil=>exact h.elim
   | cons d ds=>
    obtain ⟨p,q,h1,h2,rfl⟩:=h
    simp only [okA,List.all_cons,Bool.and_eq_true]at hok
    obtain ⟨a,f1,r1⟩:=qwk hok.1.1 (by simpa using hok.1.2) (hv 0 t v rfl rfl) h1
    obtain ⟨l,f2,r2⟩:=ih vs ds q h2 (by simpa [okA]using hok.2) λj t' v' ht hv'=>hv (j+1) t' v' (by simpa using ht) (by simpa using hv')
    exact ⟨.x _ a :: l,⟨a,l,rfl,f1,f2⟩, [], [],rfl,r1,r2⟩
theorem qwh:∀(tys:List Ty),cods ((tys.map λt=>(false,Sh.x t)).map (·.2))=tys:=by
 intro tys
 induction tys with
 | nil=>rfl
 | cons a r ih=>show a :: cods ((r.map λt=>(false,Sh.x t)).map (·.2))=a :: r; rw [ih]
theorem qmb {P : Program} {f : FuncId} {fn : Func} {s : ChangeSpec} {apart fresh handsOn again : Bool} {tb : TypeId} {H : Type} {en : TypeId × Value → H} (hl : laidOutB P = true) (hfn : P.funcs[f]? = some fn) (hbody : fn.body.isSome = true) (hname : (fn.name == "runtime.NumGoroutine") = false)
  (hts:fn.params.toList.all (λt=>P.readableRec t && decide (t < P.types.size))=true) (hrt:fn.resultTypes=#[tb]) (htb:P.underlying tb=some .bool) (hvars:s.vars= [])
  {W:World} {args:Array Value} {ds gs:List (DataW H)} {q11:List MemPlace} (hW:DataW.Whole en P fn.params.toList s.vars apart W args.toList ds gs q11)
  (hspec:(s.fn H (ds++gs)).results= [.lit (.bool true)]/\(s.fn H (ds++gs)).args=ds/\(s.fn H (ds++gs)).vars= [])
  (hgl:Glob (S0 W) W) {base:Nat} (hval:∀(j:Nat) t v,fn.params[j]? =some t->args[j]? =some v->Value.okWide P W .any base t v)
  {tys:List Ty} (hty:fn.params.toList.map (tyOf P dep)=tys) (hok:okA P fn.params.toList=true) {ro:Bool} {muts:List Bool} {g:PayL (cods ((tys.map λt=>(false,Sh.x t)).map (·.2)))->Option (SumA [([.x .b], [])])}
  (hsp:SpcOk P f ⟨tys.map λt=>(false,Sh.x t), [([.x .b], [])],ro,muts,g⟩) (law:∀p,FitL (cods ((tys.map λt=>(false,Sh.x t)).map (·.2))) (untV _ p)->g p=some true):
  Calls P f args W λe W'=>∃v,e= .returned v/\s.post en P fn apart fresh handsOn again W args v W':=by
 have hW':=hW
 obtain ⟨p,q,hA0,hV,hpq,hfz,hnd⟩:=hW
 have hA:DataW.TrodAll en P W 0 (λ_=>true) true fn.params.toList args.toList ds p:=hA0
 obtain ⟨l,h1,h2⟩:=quh (base:=base) _ _ _ _ hA hok λj t v ht hv=>hval j t v (by simpa using ht) (by simpa using hv)
 have h3:fn.params.toList.map (λt=>(false,Sh.x (tyOf P dep t)))=tys.map λt=>(false,Sh.x t):=by rw [<- hty,List.map_map]; rfl
 rw [h3]at h2
 rw [hty,<- qwh tys]at h1
 obtain ⟨pl,hp,hu⟩:=h1.tup
 have hg:=hsp.2 pl true (law pl (by rw [hu]; exact h1))
 rw [<- hu]at h2
 exact qin hl hfn hbody hname hts hrt htb hvars hW' hspec hgl ⟨_,h2,hg⟩
end Go.Ev
