/- Routes of any kind: what the program's Walk, Far, Good and Moves answer. Conditions: as stated. -/
import Derived.Test.YthcplpfiidlinaaLM
open Go.Ev Go
namespace Go.Proofs.Ythcplpfiidlinaa.L
section
variable {t:api_Topo}{r:Sl (Sl Int)}{h:Nat}
theorem qoh(hV:RValid t r)(hh:h < t.Hosts.l.length):∀(d:Nat) (l:List Nat) (x:Nat),l.length+d=9->l.Nodup->(∀ y∈l++ [x],y < r.l.length)->(∀ k,¬Away t r h x k)->
  loopO (q0k t r (h:Int)) (.mk (intsR (l++ [x])))=some (.inr ())\/∃e,e≠0/\loopO (q0k t r (h:Int)) (.mk (intsR (l++ [x])))=some (.inl (e, .nil)):=by
 have hsm:=hV.small
 intro d
 induction d with
 | zero=>
  intro l x hd hnd hlt _
  exfalso
  have hsub:l ⊆ List.range r.l.length:=λy hy=>List.mem_range.2 (hlt y (List.mem_append_left _ hy))
  have:=hnd.length_le_of_subset hsub
  simp at this; omega
 | succ d ih=>
  intro l x hd hnd hlt hno
  have hx:x < r.l.length:=hlt x (by simp)
  have htw:=q9b (l:=l) (x:=x) (by omega)
  by_cases hm:x∈l
  ·rw [decide_eq_true hm]at htw
   exact .inl (q0u (by simp only [q0k,htw,Option.bind_some,Bool.not_true,cond_false]))
  rw [decide_eq_false hm]at htw
  have hlen:(Sl.mk (intsR (l++ [x]))).l.length=l.length+1:=by rw [Sl.l_mk,q41]; simp
  have hw:wr .i64 (((Sl.mk (intsR (l++ [x]))).l.length:Int) - 1)=(l.length:Int):=by rw [hlen,wr_id (by omega) (by omega)]; omega
  have hi:l.length < (Sl.mk (intsR (l++ [x]))).l.length:=by omega
  have hg:gt (Sl.mk (intsR (l++ [x]))).l l.length=(x:Int):=by rw [Sl.l_mk,qan,qlp]
  have hhr:h < (gt r.l x).l.length:=by rw [hV.row hx]; exact hh
  have hport:gt (gt r.l x).l h=q10 r h x:=rfl
  have hH:¬Here t r h x:=λhH=>hno 0 (.here hH)
  rcases qar (h:=h) hV x with ⟨_,e2⟩ | ⟨y,b,c,e1,hy,e2⟩
  ·exact .inr ⟨13,by decide,q0u (by simp only [q0k,htw,Option.bind_some,Bool.not_false,cond_true,hw,q08 hi,q08 hh,hg,q08 hx,q08 hhr,hport,qaf,decide_eq_false hH,cond_false,qbc hV hh hx,e2])⟩
  ·have hcap:capI ((Sl.mk (intsR (l++ [x]))).l++ [(y:Int)])=some (intsR (l++ [x]++ [y])):=by
    rw [Sl.l_mk,q3e (by rw [List.length_append,q41]; simp; omega),qfj]
   rw [q1f (a':= .mk (intsR (l++ [x]++ [y]))) (by
    simp only [q0k,htw,Option.bind_some,Bool.not_false,cond_true,hw,q08 hi,q08 hh,hg,q08 hx,q08 hhr,hport,qaf,decide_eq_false hH,cond_false,qbc hV hh hx,e2,Bool.not_true,hcap])]
   refine ih (l++ [x]) y (by rw [List.length_append,List.length_singleton]; omega) ?_ (λz hz=> ?_) λk hk=>hno (k+1) (.step hH e1 hk)
   ·exact List.nodup_append.2 ⟨hnd,by simp,λa ha b hb=>by rw [List.mem_singleton]at hb; subst hb; exact λe=>hm (e▸ha)⟩
   ·rcases List.mem_append.1 hz with hz | hz
    ·exact hlt z hz
    ·obtain rfl:=List.mem_singleton.1 hz; exact hy
theorem qnb(hV:RValid t r)(hh:h < t.Hosts.l.length){s:Nat}(hs:s < r.l.length)(hno:∀k,¬Away t r h s k):∃e,q2d t r (s:Int) (h:Int)=some (.nil,e):=by
 rcases qoh hV hh 9 [] s rfl List.nodup_nil (λy hy=>by
  have e:y=s:=by simpa using hy
  rw [e]; exact hs) hno with h1 | ⟨e,_,h1⟩
 ·have h1:loopO (q0k t r (h:Int)) (.mk [(s:Int)])=_:=h1
  exact ⟨12,by simp only [q2d,q8l hV hs hh,q3s hV,Option.bind_some,Bool.not_true,cond_false,h1]⟩
 ·have h1:loopO (q0k t r (h:Int)) (.mk [(s:Int)])=_:=h1
  exact ⟨e,by simp only [q2d,q8l hV hs hh,q3s hV,Option.bind_some,Bool.not_true,cond_false,h1]⟩
noncomputable def distI(t:api_Topo)(r:Sl (Sl Int))(h s:Nat):Int:=bif tt (∃ k,Away t r h s k)then (dist t r h s:Int)else -1
theorem qt4(hV:RValid t r)(hh:h < t.Hosts.l.length):∃S,q3a t r (h:Int)=some S/\S.l=(List.range r.l.length).map (distI t r h):=by
 have hsm:=hV.small
 have main:∀(d i:Nat),i+d=r.l.length->∀s:Sl Int,s.l=(List.range i).map (distI t r h)->∃S,loopO (q14 t r (h:Int)) ((i:Int),s)=some S/\S.l=(List.range r.l.length).map (distI t r h):=by
  intro d
  induction d with
  | zero=>
   intro i hi s hs
   obtain rfl:i=r.l.length:=by omega
   exact ⟨s,q0u (by simp only [q14,lt_f,cond_false]),hs⟩
  | succ d ih=>
   intro i hi s hs
   have hlt:i < r.l.length:=by omega
   have hsl:s.l.length=i:=by rw [hs]; simp
   have hstep:∃l e,q2d t r (i:Int) (h:Int)=some (l,e)/\wr .i64 ((l.l.length:Int) - 1)=distI t r h i:=by
    by_cases hk:∃k,Away t r h i k
    ·obtain ⟨k,hk⟩:=hk
     obtain ⟨w,h1,h2⟩:=qg3 hV hh hlt hk
     have:=hk.lt hV hlt
     refine ⟨_,_,h1, ?_⟩
     rw [distI,tt_t ⟨k,hk⟩,cond_true,qoa hk,Sl.l_mk,h2,wr_id (by omega) (by omega)]; omega
    ·obtain ⟨e,h1⟩:=qnb hV hh hlt (λk hk2=>hk ⟨k,hk2⟩)
     refine ⟨_,_,h1, ?_⟩
     rw [distI,tt_f hk,cond_false]; rfl
   obtain ⟨l,e,h1,h2⟩:=hstep
   obtain ⟨S,h3,h4⟩:=ih (i+1) (by omega) (.mk (s.l++ [distI t r h i])) (by rw [Sl.l_mk,hs,List.range_succ,List.map_append]; rfl)
   exact ⟨S,(q1f (by
    simp only [q14,lt_t hlt,cond_true,h1,Option.bind_some,h2,q3e (show (s.l++ [distI t r h i]).length<=2147483648 by rw [List.length_append,List.length_singleton]; omega),wr_s (show i < 9223372036854775807 by omega)])).trans h3,h4⟩
 obtain ⟨S,h1,h2⟩:=main r.l.length 0 (by omega) .nil rfl
 have h1:loopO (q14 t r (h:Int)) (0,Sl.nil)=_:=h1
 exact ⟨S,by simp only [q3a,q3s hV,Option.bind_some,qlg hh,cond_false,h1],h2⟩
theorem qjl(hS:Small t r):q29 t r=some (tt (GoodP t r)):=by
 by_cases hV:RValid t r
 rotate_left
 ·unfold q29
  rw [qas (by have:=hS.2.2.2; omega) (λrow hm=>by have:=hS.1 row hm; omega),decide_eq_false hV,tt_f λh=>hV h.1]; rfl
 have hsm:=hV.small
 have hho:=hV.hosts
 by_cases hG:GoodP t r
 ·rw [qdq hG,tt_t hG]
 have h1:=scanE (f:=q1b t r) (β:=Bool) (γ:=Unit) (List.range t.Hosts.l.length) (λ_ h=>bif tt (∀ s,s < r.l.length->∃k,Away t r h s k)then none else some false) () (by simp; omega) (λi hi=>by
  have hi:i < t.Hosts.l.length:=by simpa using hi
  rw [qea hi]
  obtain ⟨S,h1,h2⟩:=qt4 hV hi
  have hc:=q3l (s:=S) (-1) (by rw [h2]; simp; omega)
  have hm:decide ((-1:Int)∈S.l)= !tt (∀ s,s < r.l.length->∃k,Away t r i s k):=by
   rw [Bool.eq_iff_iff,decide_eq_true_eq,Bool.not_eq_true',qje,h2]
   constructor
   ·intro hm hall
    obtain ⟨s,hs,e⟩:=List.mem_map.1 hm
    rw [distI,tt_t (hall s (List.mem_range.1 hs)),cond_true]at e
    omega
   ·intro hn
    obtain ⟨s,hs⟩:=Classical.not_forall.1 hn
    obtain ⟨hs,hk⟩:=Classical.not_imp.1 hs
    exact List.mem_map.2 ⟨s,List.mem_range.2 hs,by rw [distI,tt_f hk,cond_false]⟩
  rw [hm]at hc
  simp only [q1b,lt_t hi,cond_true,h1,Option.bind_some,hc]
  cases tt (∀ s,s < r.l.length->∃k,Away t r i s k) <;> rfl) (by simp only [q1b,List.length_range,lt_f,cond_false])
 simp only [q29,q3s hV,Option.bind_some,Bool.not_true,cond_false,h1]
 cases hc:scan (λ(_:Nat) h=>bif tt (∀ s,s < r.l.length->∃k,Away t r h s k)then none else some false) (List.range t.Hosts.l.length) 0 with
 | none=>
  exfalso
  refine hG ⟨hV,λs hs h hh=> ?_⟩
  have:=q2z.1 hc h h (by simp [hh])
  cases hq:tt (∀ s,s < r.l.length->∃k,Away t r h s k)with
  | true=>exact qne.1 hq s hs
  | false=>rw [hq]at this; simp at this
 | some b=>
  obtain ⟨j,x,h2,h3,_⟩:=q6o hc
  cases hq:tt (∀ s,s < r.l.length->∃k,Away t r x s k)with
  | true=>rw [hq]at h3; simp at h3
  | false=>
   rw [hq]at h3
   obtain rfl:false=b:=by simpa using h3
   rw [tt_f hG]
theorem qmj{old now:Sl (Sl Int)}(hO:Small t old)(hN:Small t now)(hG:¬(GoodP t old/\GoodP t now)):q2j t old now=some (.nil,2):=by
 unfold q2j
 rw [qjl hO,qjl hN]
 by_cases h1:GoodP t old
 ·rw [tt_t h1,tt_f λh2=>hG ⟨h1,h2⟩]; rfl
 ·rw [tt_f h1]; rfl
end
end Go.Proofs.Ythcplpfiidlinaa.L
