/- Routes: what the program's Walk, Far and Good answer, of routes that are good. Conditions: as stated. -/
import Derived.Test.YthcplpfiidlinaaLR
open Go.Ev Go
namespace Go.Proofs.Ythcplpfiidlinaa.L
def GoodP(t:api_Topo)(r:Sl (Sl Int)):Prop:=RValid t r/\∀s,s < r.l.length->∀h,h < t.Hosts.l.length->∃k,Away t r h s k
section
variable {t:api_Topo}{r:Sl (Sl Int)}{h:Nat}
noncomputable def dist(t:api_Topo)(r:Sl (Sl Int))(h s:Nat):Nat:=open Classical in if hk:∃k,Away t r h s k then Classical.choose hk else 0
theorem qoa{s k:Nat}(ha:Away t r h s k):dist t r h s=k:=by
 have hk:∃k,Away t r h s k:=⟨k,ha⟩
 unfold dist
 rw [dif_pos hk]
 exact (Classical.choose_spec hk).uniq ha
theorem GoodP.dist(hG:GoodP t r){s:Nat}(hs:s < r.l.length)(hh:h < t.Hosts.l.length):Away t r h s (dist t r h s):=by
 obtain ⟨k,hk⟩:=hG.2 s hs h hh
 rw [qoa hk]; exact hk
theorem GoodP.lt(hG:GoodP t r){s:Nat}(hs:s < r.l.length)(hh:h < t.Hosts.l.length):L.dist t r h s < r.l.length:=(hG.dist hs hh).lt hG.1 hs
noncomputable def dists(t:api_Topo)(r:Sl (Sl Int))(h:Nat):List Int:=(List.range r.l.length).map λs=>(dist t r h s:Int)
theorem qb4:(dists t r h).length=r.l.length:=by simp [dists]
theorem qrp{s:Nat}(hs:s < r.l.length):gt (dists t r h) s=(dist t r h s:Int):=by
 rw [gt_eq (by rw [qb4]; exact hs)]; simp [dists]
theorem qlb{n:Nat}:((List.range (n+1)).map λs=>(dist t r h s:Int))=((List.range n).map λs=>(dist t r h s:Int))++ [(dist t r h n:Int)]:=by
 rw [List.range_succ,List.map_append]; rfl
theorem qlg(hh:h < t.Hosts.l.length):(((!true) || (decide ((h:Int) < 0))) || (decide ((h:Int) >= (t.Hosts.l.length:Int))))=false:=by
 simp only [Bool.not_true,Bool.false_or,Bool.or_eq_false_iff,decide_eq_false_iff_not]; omega
theorem q8l(hV:RValid t r){s:Nat}(hs:s < r.l.length)(hh:h < t.Hosts.l.length):q3n r (s:Int) (h:Int)=some (q10 r h s,true):=by
 have h1:decide ((s:Int) < 0)=false:=by rw [decide_eq_false_iff_not]; omega
 have h2:decide ((s:Int) >= (r.l.length:Int))=false:=by rw [decide_eq_false_iff_not]; omega
 have h3:decide ((h:Int) < 0)=false:=by rw [decide_eq_false_iff_not]; omega
 have hrl:=hV.row hs
 have h4:decide ((h:Int) >= ((gt r.l s).l.length:Int))=false:=by rw [decide_eq_false_iff_not]; omega
 have hhl:h < (gt r.l s).l.length:=by omega
 simp only [q3n,h1,h2,h3,Bool.or_self,cond_false,q08 hs,Option.bind_some,h4,q08 hhl,q10]
theorem qbc(hV:RValid t r)(hh:h < t.Hosts.l.length){s:Nat}(hs:s < r.l.length):
  q4h t r (s:Int) (h:Int)=some ((peerR t s (q10 r h s)).1,(peerR t s (q10 r h s)).2.2.2):=by
 have hlk:=hV.topo.links
 simp only [q4h,q8l hV hs hh,Option.bind_some,Bool.not_true,cond_false,qpf _ _ (show t.Links.l.length < 9223372036854775808 by omega)]
def intsR(l:List Nat):List Int:=l.map λ(x:Nat)=>(x:Int)
theorem q41(l:List Nat):(intsR l).length=l.length:=by simp [intsR]
theorem qan(l:List Nat)(i:Nat):gt (intsR l) i=((gt l i:Nat):Int):=by
 simp only [gt,intsR,List.getD_eq_getElem?_getD,List.getElem?_map]
 cases l[i]? <;> rfl
theorem qod{l:List Nat}{k:Nat}:(k:Int)∈intsR l↔k∈l:=by
 simp only [intsR,List.mem_map]
 exact ⟨λ⟨y,hy,e⟩=>by rw [show k=y by omega]; exact hy,λh=>⟨k,h,rfl⟩⟩
theorem qfj(l:List Nat)(k:Nat):intsR l++ [(k:Int)]=intsR (l++ [k]):=by simp [intsR]
theorem q3l{s:Sl Int}(x:Int)(hb:s.l.length < 9223372036854775808):q0d s x=some (decide (x∈s.l)):=by
 have h:=scanE (f:=q0w s x) s.l (λi y=>if x=y then some (i:Int)else none) () hb (λi hi=>by
  have e:(x == gt s.l i)=decide (x=gt s.l i):=by rw [Bool.eq_iff_iff]; simp
  simp only [q0w,lt_t hi,cond_true,q08 hi,Option.bind_some,e]
  by_cases hc:x=gt s.l i
  ·rw [if_pos hc,decide_eq_true hc]; rfl
  ·rw [if_neg hc,decide_eq_false hc]; rfl) (by simp only [q0w,lt_f,cond_false])
 simp only [q0d,q19,h,Option.bind_some]
 cases hs:scan (λi y=>if x=y then some (i:Int)else none) s.l 0 with
 | none=>
  have hn:x∉s.l:=by
   intro hx
   obtain ⟨j,hj,e⟩:=List.getElem_of_mem hx
   have:=q2z.1 hs j s.l[j] (by simp [hj])
   rw [if_pos e.symm]at this; simp at this
  rw [decide_eq_false hn]; rfl
 | some b=>
  obtain ⟨j,y,h1,h2,_⟩:=q6o hs
  split at h2
  ·rename_i hx
   obtain rfl:=Option.some.inj h2
   rw [decide_eq_true (by rw [hx]; exact List.mem_of_getElem? h1)]
   simp only [Option.bind_some,Option.some.injEq,decide_eq_true_eq]; omega
  ·simp at h2
theorem q9b{l:List Nat}{x:Nat}(hb:l.length < 1000000):q1h (.mk (intsR (l++ [x])))=some (decide (x∈l)):=by
 have main:∀s:Sl Int,s= .mk (intsR (l++ [x]))->q1h s=some (decide (x∈l)):=by
  intro s hs
  have hsl:s.l=intsR (l++ [x]):=by rw [hs]; rfl
  have hlen:s.l.length=l.length+1:=by rw [hsl,q41]; simp
  have h0:decide ((s.l.length:Int) > 0)=true:=by rw [decide_eq_true_eq]; omega
  have hw:wr .i64 ((s.l.length:Int) - 1)=(l.length:Int):=by rw [hlen,wr_id (by omega) (by omega)]; omega
  have hcut:cutI s.l 0 (l.length:Int)=some (intsR l):=by
   rw [q5t]
   refine ⟨⟨Int.le_refl _,by omega,by omega⟩, ?_⟩
   rw [hsl]; simp [intsR]
  have hi:l.length < s.l.length:=by omega
  have hg:gt s.l l.length=(x:Int):=by
   rw [hsl,qan,gt_eq (by simp)]; simp
  have hto:s.to (intsR l)= .mk (intsR l):=by rw [hs]; rfl
  have hc:=q3l (s:= .mk (intsR l)) (x:Int) (by rw [Sl.l_mk,q41]; omega)
  have hm:decide ((x:Int)∈(Sl.mk (intsR l)).l)=decide (x∈l):=by rw [Bool.eq_iff_iff,decide_eq_true_eq,decide_eq_true_eq]; exact qod
  rw [hm]at hc
  simp only [q1h,h0,cond_true,hw,hcut,Option.bind_some,q08 hi,hto,hg,hc]
 exact main _ rfl
theorem qaf(s:Nat):decide ((gt t.Hosts.l h)=(⟨(s:Int),q10 r h s⟩:api_Host))=decide (Here t r h s):=by
 rw [Bool.eq_iff_iff,decide_eq_true_eq,decide_eq_true_eq (p:=Here t r h s)]
 unfold Here
 generalize gt t.Hosts.l h=x
 obtain ⟨a,b⟩:=x
 exact Prod.mk.injEq .. ▸Iff.rfl
theorem qlp{o:List Nat}{k:Nat}:gt (o++ [k]) o.length=k:=by
 rw [gt_eq (by simp)]; simp
theorem qpl(hV:RValid t r)(hh:h < t.Hosts.l.length):∀(m:Nat) (l:List Nat) (x:Nat),x < r.l.length->(∀ y∈l,∃j,m < j/\Away t r h y j)->Away t r h x m->l.length+m < 1000->
  ∃w:List Int,loopO (q0k t r (h:Int)) (.mk (intsR (l++ [x])))=some (.inl (0, .mk w))/\w.length=l.length+m+1:=by
 intro m
 induction m with
 | zero=>
  intro l x hx hl ha hb
  have hno:x∉l:=λhm=>by
   obtain ⟨j,h1,h2⟩:=hl x hm
   have:=h2.uniq ha; omega
  have htw:=q9b (l:=l) (x:=x) (by omega)
  rw [decide_eq_false hno]at htw
  have hlen:(Sl.mk (intsR (l++ [x]))).l.length=l.length+1:=by rw [Sl.l_mk,q41]; simp
  have hw:wr .i64 (((Sl.mk (intsR (l++ [x]))).l.length:Int) - 1)=(l.length:Int):=by rw [hlen,wr_id (by omega) (by omega)]; omega
  have hi:l.length < (Sl.mk (intsR (l++ [x]))).l.length:=by omega
  have hg:gt (Sl.mk (intsR (l++ [x]))).l l.length=(x:Int):=by rw [Sl.l_mk,qan,qlp]
  have hhr:h < (gt r.l x).l.length:=by rw [hV.row hx]; exact hh
  have hport:gt (gt r.l x).l h=q10 r h x:=rfl
  cases ha with
  | here hH=>
   refine ⟨_,q0u (by simp only [q0k,htw,Option.bind_some,Bool.not_false,cond_true,hw,q08 hi,q08 hh,hg,q08 hx,q08 hhr,hport,qaf,decide_eq_true hH]; rfl),by rw [q41]; simp⟩
 | succ m ih=>
  intro l x hx hl ha hb
  have hno:x∉l:=λhm=>by
   obtain ⟨j,h1,h2⟩:=hl x hm
   have:=h2.uniq ha; omega
  have htw:=q9b (l:=l) (x:=x) (by omega)
  rw [decide_eq_false hno]at htw
  have hlen:(Sl.mk (intsR (l++ [x]))).l.length=l.length+1:=by rw [Sl.l_mk,q41]; simp
  have hw:wr .i64 (((Sl.mk (intsR (l++ [x]))).l.length:Int) - 1)=(l.length:Int):=by rw [hlen,wr_id (by omega) (by omega)]; omega
  have hi:l.length < (Sl.mk (intsR (l++ [x]))).l.length:=by omega
  have hg:gt (Sl.mk (intsR (l++ [x]))).l l.length=(x:Int):=by rw [Sl.l_mk,qan,qlp]
  have hhr:h < (gt r.l x).l.length:=by rw [hV.row hx]; exact hh
  have hport:gt (gt r.l x).l h=q10 r h x:=rfl
  have ha0:=ha
  cases ha with
  | @step _ y _ hH hn ha'=>
   rcases qar (h:=h) hV x with ⟨e1,_⟩ | ⟨y',b,c,e1,hy,e2⟩
   ·rw [e1]at hn; cases hn
   ·rw [e1]at hn
    obtain rfl:=Option.some.inj hn
    obtain ⟨w,h1,h2⟩:=ih (l++ [x]) y' hy (λz hz=>by
     rcases List.mem_append.1 hz with hz | hz
     ·obtain ⟨j,q1,q2⟩:=hl z hz; exact ⟨j,by omega,q2⟩
     ·obtain rfl:=List.mem_singleton.1 hz; exact ⟨m+1,by omega,ha0⟩) ha' (by rw [List.length_append,List.length_singleton]; omega)
    refine ⟨w, ?_,by rw [h2,List.length_append,List.length_singleton]; omega⟩
    rw [q1f (a':= .mk (intsR (l++ [x]++ [y'])))]
    ·exact h1
    ·have hcap:capI ((Sl.mk (intsR (l++ [x]))).l++ [(y':Int)])=some (intsR (l++ [x]++ [y'])):=by
      rw [Sl.l_mk,q3e (by rw [List.length_append,q41]; simp; omega),qfj]
     simp only [q0k,htw,Option.bind_some,Bool.not_false,cond_true,hw,q08 hi,q08 hh,hg,q08 hx,q08 hhr,hport,qaf,decide_eq_false hH,cond_false,qbc hV hh hx,e2,Bool.not_true,hcap]
theorem q3s(hV:RValid t r):q26 t r=some true:=by
 have hsm:=hV.small
 rw [qas (by omega) (λrow hm=>by have:=(hV.rows row hm).1; have:=hV.topo.hosts; omega),decide_eq_true hV]
theorem qg3(hV:RValid t r)(hh:h < t.Hosts.l.length){s k:Nat}(hs:s < r.l.length)(ha:Away t r h s k):∃w:List Int,q2d t r (s:Int) (h:Int)=some (.mk w,0)/\w.length=k+1:=by
 have hk:=ha.lt hV hs
 have hsm:=hV.small
 obtain ⟨w,h1,h2⟩:=qpl hV hh k [] s hs (λy hy=>by simp at hy) ha (by simp; omega)
 have h1:loopO (q0k t r (h:Int)) (.mk [(s:Int)])=_:=h1
 exact ⟨w,by simp only [q2d,q8l hV hs hh,q3s hV,Option.bind_some,Bool.not_true,cond_false,h1],by simpa using h2⟩
theorem qlm(hG:GoodP t r)(hh:h < t.Hosts.l.length)(hn:0 < r.l.length):q3a t r (h:Int)=some (.mk (dists t r h)):=by
 have hsm:=hG.1.small
 have main:∀(d i:Nat),i+d=r.l.length->∀s:Sl Int,s.l=((List.range i).map λs=>(dist t r h s:Int))->(0 < i\/0 < d)->(0 < i->s= .mk s.l)->loopO (q14 t r (h:Int)) ((i:Int),s)=some (.mk (dists t r h)):=by
  intro d
  induction d with
  | zero=>
   intro i hi s hs hp hmk
   obtain rfl:i=r.l.length:=by omega
   rw [q0u (b:=s) (by simp only [q14,lt_f,cond_false]),hmk (by omega),hs]; rfl
  | succ d ih=>
   intro i hi s hs hp hmk
   have hlt:i < r.l.length:=by omega
   have ha:=hG.dist hlt hh
   have hb:=hG.lt hlt hh
   obtain ⟨l,h1,h2⟩:=qg3 hG.1 hh hlt ha
   have hw:wr .i64 (((Sl.mk l).l.length:Int) - 1)=(dist t r h i:Int):=by rw [Sl.l_mk,h2,wr_id (by omega) (by omega)]; omega
   have hsl:s.l.length=i:=by rw [hs]; simp
   rw [q1f (a':=(((i+1:Nat):Int), .mk (s.l++ [(dist t r h i:Int)]))) (by
    simp only [q14,lt_t hlt,cond_true,h1,Option.bind_some,hw,q3e (show (s.l++ [(dist t r h i:Int)]).length<=2147483648 by rw [List.length_append,List.length_singleton]; omega),wr_s (show i < 9223372036854775807 by omega)])]
   exact ih (i+1) (by omega) _ (by rw [Sl.l_mk,hs,qlb]) (.inl (by omega)) (λ_=>rfl)
 have h1:loopO (q14 t r (h:Int)) (0,Sl.nil)=_:=main r.l.length 0 (by omega) .nil rfl (.inr hn) (λh=>by omega)
 simp only [q3a,q3s hG.1,Option.bind_some,qlg hh,cond_false,h1]
theorem GoodP.pos(hG:GoodP t r):0 < r.l.length:=by have:=hG.1.len; have:=hG.1.topo.sw; omega
theorem qdq(hG:GoodP t r):q29 t r=some true:=by
 have hsm:=hG.1.small
 have hho:=hG.1.hosts
 have h1:=scanE (f:=q1b t r) (β:=Bool) (γ:=Unit) (List.range t.Hosts.l.length) (λ_ _=>none) () (by simp; omega) (λi hi=>by
  have hi:i < t.Hosts.l.length:=by simpa using hi
  have hno:(-1:Int)∉(Sl.mk (dists t r i)).l:=λhm=>by
   obtain ⟨s,_,e⟩:=List.mem_map.1 hm
   omega
  have hc:=q3l (s:= .mk (dists t r i)) (-1) (by rw [Sl.l_mk,qb4]; omega)
  rw [decide_eq_false hno]at hc
  simp only [q1b,lt_t hi,cond_true,qlm hG hi hG.pos,Option.bind_some,hc,cond_false]) (by simp only [q1b,List.length_range,lt_f,cond_false])
 have h2:scan (β:=Bool) (λ(_ _:Nat)=>none) (List.range t.Hosts.l.length) 0=none:=q2z.2 λ_ _ _=>rfl
 rw [h2]at h1
 simp only [q29,q3s hG.1,Option.bind_some,Bool.not_true,cond_false,h1]
end
end Go.Proofs.Ythcplpfiidlinaa.L
