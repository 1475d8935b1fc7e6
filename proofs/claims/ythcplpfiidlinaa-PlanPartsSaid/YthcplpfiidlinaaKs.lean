/- slices.SortFunc, by the library's qin, as the evaluator's calls want it. Conditions: as stated. -/
import Derived.Test.YthcplpfiidlinaaKm
import Derived.Shelf.SlSortCmp.WholeK
namespace Go.Ev
open Go.Sort
open Go.Proofs (sortWorldK)
section
variable {α:Type} [Inhabited α] {enc:α->List Value}{k:Nat}{w:World}{blk off n:Nat}{d:Array α}{os:Array Obj}
theorem qgl{b:Nat}(hb:b < w.heap.size):(sortWorldK enc k w blk off n d os).heap[b]? =if blk=b then (w.heap[b]?).map (onCells (putCells id off (flatK enc k d)))else w.heap[b]? :=by
 unfold sortWorldK grow putRowK putRow mapBlock
 simp only [heap_ahead]
 rw [Array.getElem?_append_left (by simpa using hb),Array.getElem?_modify]
theorem qgu:w.heap.size<=(sortWorldK enc k w blk off n d os).heap.size:=by
 unfold sortWorldK grow putRowK putRow mapBlock
 simp
theorem qag{b:Nat}(hb:b < w.heap.size)(hne:b≠blk):(sortWorldK enc k w blk off n d os).heap[b]? =w.heap[b]? :=by
 rw [qgl hb,if_neg (Ne.symm hne)]
theorem qsd{arr:Array Value}(ho:Own w blk arr):Own (sortWorldK enc k w blk off n d os) blk (putCells id off (flatK enc k d) arr):=by
 have hlt:=ho.lt
 obtain ⟨t,h⟩:=ho
 exact ⟨t,by rw [qgl hlt,if_pos rfl,h]; rfl⟩
theorem qov{a:Addr}(ha:a.block < w.heap.size):(sortWorldK enc k w blk off n d os).frozen? a=w.frozen? a:=by
 unfold World.frozen?
 rw [qgl ha]
 by_cases e:blk=a.block
 ·rw [if_pos e]
  cases w.heap[a.block]? with
  | none=>rfl
  | some o=>cases o <;> rfl
 ·rw [if_neg e]
theorem qox(arr F:Array Value):(putCells id off F arr).size=arr.size:=by simp [putCells]
theorem qvs{arr F:Array Value}{j:Nat}(hj:j < F.size)(hk:off+F.size<=arr.size):(putCells id off F arr)[off+j]? =some F[j]! :=by
 unfold putCells
 rw [Array.getElem?_mapIdx,Array.getElem?_eq_getElem (by omega)]
 simp only [Option.map_some,Option.some.injEq]
 rw [if_pos ⟨by omega,by omega⟩,Nat.add_sub_cancel_left]; rfl
end
section
variable {P:Program}{f g:FuncId}{t:Ty}{vals:El t->List Value}
theorem q8n(hv:∀x,encE t x=litsD (vals x))(x:El t):(vals x).length=szT t:=by
 have:=congrArg List.length (hv x)
 rw [q05,litsD,List.length_map]at this
 exact this.symm
theorem qmz (hv : ∀ x, encE t x = litsD (vals x)) (l : List (El t)) {i r : Nat} (hi : i < l.length) (hr : r < szT t) : (flatK vals (szT t) l.toArray)[i * szT t + r]! = (vals (l[i]'hi))[r]'(by rw [q8n hv]; exact hr) := by
 have hk:i * szT t+r < l.length * szT t:=by
  have:(i+1) * szT t<=l.length * szT t:=Nat.mul_le_mul_right _ hi
  rw [Nat.add_mul,Nat.one_mul]at this; omega
 rw [get_flatK _ _ _ _ (by simpa using hk)]
 have h1:(i * szT t+r) / szT t=i:=by
  rw [Nat.mul_comm,Nat.mul_add_div (by omega),Nat.div_eq_of_lt hr]; rfl
 have h2:(i * szT t+r) % szT t=r:=by
  rw [Nat.mul_comm,Nat.mul_add_mod,Nat.mod_eq_of_lt hr]
 rw [h1,h2]
 have h3:l.toArray[i]! =l[i]:=by simp [hi]
 rw [h3,List.getElem!_eq_getElem?_getD,List.getElem?_eq_getElem (by rw [q8n hv]; exact hr)]; rfl
theorem row_holds(hv:∀x,encE t x=litsD (vals x))(hs:0 < szT t){S:Nat->Prop}{w:World}{b off:Nat}{arr:Array Value}{l:List (El t)}(ho:Own w b arr)(hr:RowsAt S w (szT t) (λi=>arr[i]?) off (l.map (encE t))):
  HoldsK vals (szT t) w b off l.toArray:=by
 intro j hj
 rw [size_flatK,List.size_toArray]at hj
 refine ⟨?_,ho.frozen _ _⟩
 have hq:j / szT t < l.length:=Nat.div_lt_of_lt_mul (by rwa [Nat.mul_comm]at hj)
 have hm:j % szT t < szT t:=Nat.mod_lt _ hs
 have hj2:j=(j / szT t) * szT t+j % szT t:=by rw [Nat.mul_comm]; exact (Nat.div_add_mod _ _).symm
 rw [ho.cell]
 obtain ⟨v, h5, h6⟩ := hr.2 (j / szT t) (encE t l[j / szT t]) (by rw [List.getElem?_map, List.getElem?_eq_getElem hq]; rfl) (j % szT t) (.lit ((vals l[j / szT t])[j % szT t]'(by rw [q8n hv]; exact hm))) (by
  rw [hv,litsD,List.getElem?_map,List.getElem?_eq_getElem (by rw [q8n hv]; exact hm)]; rfl)
 have h5:arr[off+(j / szT t) * szT t+j % szT t]? =some v:=h5
 rw [Nat.add_assoc,<- hj2]at h5
 rw [h5]
 cases h6 with
 | lit _=>
  have:=qmz hv l hq hm
  rw [<- hj2]at this
  rw [this]; rfl
theorem qs7(hv:∀x,encE t x=litsD (vals x))(hp:∀x,∀v∈vals x,plain v=true)(hs:0 < szT t){S:Nat->Prop}{w:World}{b off len cap n:Nat}{arr:Array Value}{os:Array Obj}{l:List (El t)}{d:Array (El t)}(ho:Own w b arr)(hl:len<=d.size)(hle:l.length=d.size)(hcap:l.length<=cap)(hext:off+cap * szT t<=arr.size):
  RT S (sortWorldK vals (szT t) w b off n d os) (.sl (szT t) ((d.toList.take len).map (encE t))) (.slice (some ⟨b,off,none⟩) len cap) [b]:=by
 have hle2:off+d.size * szT t<=arr.size:=Nat.le_trans (Nat.add_le_add_left (Nat.mul_le_mul_right _ (by omega)) _) hext
 refine .sl hs (qsd ho) (by rw [List.length_map,List.length_take,Array.length_toList]; omega) (by omega) (by rw [qox]; exact hext) ⟨λi r hi=> ?_,λi r hi j x hj=> ?_⟩
 ·rw [List.getElem?_map]at hi
  obtain ⟨y,_,rfl⟩:=Option.map_eq_some_iff.1 hi
  exact q05 _ _
 ·rw [List.getElem?_map]at hi
  obtain ⟨y,hy,rfl⟩:=Option.map_eq_some_iff.1 hi
  obtain ⟨hi2,rfl⟩:=List.getElem?_eq_some_iff.1 hy
  rw [hv,litsD,List.getElem?_map]at hj
  obtain ⟨v,hv2,rfl⟩:=Option.map_eq_some_iff.1 hj
  obtain ⟨hj2,rfl⟩:=List.getElem?_eq_some_iff.1 hv2
  have hj3:j < szT t:=by rwa [q8n hv]at hj2
  have hi4:i < len:=by rw [List.length_take]at hi2; omega
  have hi3:i < d.toList.length:=by rw [Array.length_toList]; omega
  have hlt:i * szT t+j < d.size * szT t:=by
   have:(i+1) * szT t<=d.size * szT t:=Nat.mul_le_mul_right _ (by omega)
   rw [Nat.add_mul,Nat.one_mul]at this; omega
  refine ⟨_, ?_, .lit (hp _ _ (List.getElem_mem hj2))⟩
  show (putCells id off (flatK vals (szT t) d) arr)[off+i * szT t+j]? =_
  rw [Nat.add_assoc,qvs (by rw [size_flatK]; exact hlt) (by rw [size_flatK]; exact hle2)]
  have:=qmz hv d.toList hi3 hj3
  rw [Array.toArray_toList]at this
  rw [this]
  simp only [List.getElem_take]
theorem qs6{w:World}{b off n:Nat}{arr:Array Value}{os:Array Obj}{d:Array (El t)}(ho:Own w b arr):Frm (λc=>c < w.heap.size/\c∉ [b]) w (sortWorldK vals (szT t) w b off n d os):=
 ⟨λc hc=>hc.1,λc hc=>qag hc.1 λe=>hc.2 (by rw [e]; simp),qgu,λa ha=>qov ha,λc a hc=>by
  by_cases e:c=b
  ·subst e
   obtain ⟨t1,h5⟩:=hc
   obtain ⟨t2,h6⟩:=ho
   obtain ⟨rfl,_⟩:a=arr/\t1=t2:=by rw [h5]at h6; simpa using h6
   exact ⟨_,qsd ⟨t1,h5⟩,qox _ _⟩
  ·exact ⟨a,hc.of_same (qag hc.lt e),rfl⟩,rfl,rfl,rfl,Nat.le_add_right _ _⟩
theorem qj8(hv:∀x,encE t x=litsD (vals x))(hp:∀x,∀v∈vals x,plain v=true)(hs:0 < szT t){S:Nat->Prop}{w:World}(hS:∀c,S c->c < w.heap.size){b off cap n:Nat}{arr:Array Value}{os:Array Obj}{l:List (El t)}{d:Array (El t)}(ho:Own w b arr)(hle:l.length=d.size)(hcap:l.length<=cap)(hext:off+cap * szT t<=arr.size)(hSb:¬S b):
  Left S w [b] [] [.sl (szT t) (d.toList.map (encE t))] [.slice (some ⟨b,off,none⟩) l.length cap] (.tuple #[]) (sortWorldK vals (szT t) w b off n d os):=by
 have hrt:=qs7 (S:=S) (n:=n) (os:=os) hv hp hs ho (Nat.le_of_eq hle) hle hcap hext
 rw [List.take_of_length_le (by rw [Array.length_toList]; omega)]at hrt
 refine ⟨S, [], [], [b],rfl,⟨λ_ h=>h,λc hc=>qag (hS c hc) λe=>hSb (e▸hc)⟩,λc h=> .inl h,λc hc=>Nat.lt_of_lt_of_le (hS c hc) qgu,rfl,⟨[b], [],rfl, .inr hrt,rfl⟩,by simp,λc hc=> ?_,qs6 ho⟩
 obtain rfl:=List.mem_singleton.1 (by simpa using hc)
 exact ⟨hSb, .inl (by simp)⟩
theorem qi9{S:Nat->Prop}{w:World}(hS:∀c,S c->c < w.heap.size){x:D}{v:Value}(h:RD S w x v):Left S w [] [] [.d x] [v] (.tuple #[]) w:=
 ⟨S, [], [], [],rfl,⟨λ_ h=>h,λ_ _=>rfl⟩,λb h=> .inl h,hS,rfl,⟨[], [],rfl, .inr (.d h),rfl⟩,List.nodup_nil,λb hb=>by simp at hb,
  ⟨λb hb=>hb.1,λ_ _=>rfl,Nat.le_refl _,λ_ _=>rfl,λb arr ho=>⟨arr,ho,rfl⟩,Io.refl _⟩⟩
theorem qof(hv:∀x,encE t x=litsD (vals x))(hp:∀x,∀v∈vals x,plain v=true)(hs:0 < szT t)(srt:Array (El t)->Array (El t))(hsz:∀d,(srt d).size=d.size)
  (henter:∀args w,(callFunc f args).run P w= .ok (.enter f args) w)
  (hcon:∀(blk off cap:Nat) (d:Array (El t)) (w:World),HoldsK vals (szT t) w blk off d->blk < w.heap.size->d.size < 4611686018427387904->
   Calls P f #[.slice (some ⟨blk,off,none⟩) d.size cap, .func (.func g) #[] #[]] w λe w'=>e= .returned (.tuple #[])/\∃n os,w'=sortWorldK vals (szT t) w blk off n (srt d) os)
  (hnil:∀(p:Option Addr) (cap:Nat) (fv:Value) (w:World),Calls P f #[.slice p 0 cap,fv] w λe w'=>e= .returned (.tuple #[])/\w'=w)
  (s:Sl (El t)) (hn:s.l.length < 4611686018427387904):Good P f [.mt (slT (szT t) (encE t) s), .d (.fn g [])] [] [slT (szT t) (encE t) (s.to (srt s.l.toArray).toList)]:=by
 intro S w vs fp hS hA hnd hfp _
 cases vs with
 | nil=>exact hA.elim
 | cons v vs=>
  obtain ⟨f1,f2,rfl,h1,h2⟩:=hA
  cases vs with
  | nil=>exact h2.elim
  | cons u vs=>
   obtain ⟨f3,f4,rfl,⟨h3,rfl⟩,h4⟩:=h2
   cases vs with
   | cons _ _=>exact h4.elim
   | nil=>
    obtain rfl:f4= []:=h4
    simp only [List.append_nil]at hnd hfp ⊢
    obtain ⟨cs,hcs,rfl⟩:∃cs:Array Value,cs.size=0/\u= .func (.func g) #[] cs:=by
     cases h3 with
     | fn hlen _=>exact ⟨_,hlen.symm,rfl⟩
    obtain rfl:cs=#[]:=Array.size_eq_zero_iff.1 hcs
    refine .inl ⟨f,_,henter _ _, ?_⟩
    have h1:RT S w (slT (szT t) (encE t) s) v f1:=h1
    cases s with
    | nil=>
     cases h1 with
     | d h=>
      have h':=h
      cases h with
      | lit _=>
       refine (hnil none 0 _ w).mono ?_
       rintro e w' ⟨rfl,rfl⟩
       exact ⟨_,rfl,qi9 hS h'⟩
    | mk l=>
     cases h1 with
     | @sl sz rows b off len cap arr hsz0 ho hlen hcap hext hr=>
      rw [List.length_map]at hlen
      subst hlen
      have hcon:=hcon b off cap l.toArray w (row_holds hv hs ho hr) ho.lt (by simpa using hn)
      rw [List.size_toArray]at hcon
      refine hcon.mono ?_
      rintro e w' ⟨rfl,n,os,rfl⟩
      exact ⟨_,rfl,qj8 hv hp hs hS ho (by rw [hsz,List.size_toArray]; rfl) hcap hext (hfp b (by simp))⟩
theorem qkx(hv:∀x,encE t x=litsD (vals x))(hp:∀x,∀v∈vals x,plain v=true)(hs:0 < szT t)(srt:Array (El t)->Array (El t))(hsz:∀d,(srt d).size=d.size)
  (henter:∀args w,(callFunc f args).run P w= .ok (.enter f args) w)
  (hcon:∀(blk off cap:Nat) (d:Array (El t)) (w:World),HoldsK vals (szT t) w blk off d->blk < w.heap.size->d.size < 4611686018427387904->
   Calls P f #[.slice (some ⟨blk,off,none⟩) d.size cap] w λe w'=>e= .returned (.tuple #[])/\∃n os,w'=sortWorldK vals (szT t) w blk off n (srt d) os)
  (hnil:∀(p:Option Addr) (cap:Nat) (w:World),Calls P f #[.slice p 0 cap] w λe w'=>e= .returned (.tuple #[])/\w'=w)
  (s:Sl (El t)) (hn:s.l.length < 4611686018427387904):Good P f [.mt (slT (szT t) (encE t) s)] [] [slT (szT t) (encE t) (s.to (srt s.l.toArray).toList)]:=by
 intro S w vs fp hS hA hnd hfp _
 cases vs with
 | nil=>exact hA.elim
 | cons v vs=>
  obtain ⟨f1,f2,rfl,h1,h2⟩:=hA
  cases vs with
  | cons _ _=>exact h2.elim
  | nil=>
   obtain rfl:f2= []:=h2
   simp only [List.append_nil]at hnd hfp ⊢
   refine .inl ⟨f,_,henter _ _, ?_⟩
   have h1:RT S w (slT (szT t) (encE t) s) v f1:=h1
   cases s with
   | nil=>
    cases h1 with
    | d h=>
     have h':=h
     cases h with
     | lit _=>
      refine (hnil none 0 w).mono ?_
      rintro e w' ⟨rfl,rfl⟩
      exact ⟨_,rfl,qi9 hS h'⟩
   | mk l=>
    cases h1 with
    | @sl sz rows b off len cap arr hsz0 ho hlen hcap hext hr=>
     rw [List.length_map]at hlen
     subst hlen
     have hcon:=hcon b off cap l.toArray w (row_holds hv hs ho hr) ho.lt (by simpa using hn)
     rw [List.size_toArray]at hcon
     refine hcon.mono ?_
     rintro e w' ⟨rfl,n,os,rfl⟩
     exact ⟨_,rfl,qj8 hv hp hs hS ho (by rw [hsz,List.size_toArray]; rfl) hcap hext (hfp b (by simp))⟩
theorem qq7(hv:∀x,encE t x=litsD (vals x))(hp:∀x,∀v∈vals x,plain v=true)(hs:0 < szT t)(fn:List (El t)->List (El t))
  (henter:∀args w,(callFunc f args).run P w= .ok (.enter f args) w)
  (hcon:∀(blk off cap:Nat) (l:List (El t)) (w:World),HoldsK vals (szT t) w blk off l.toArray->blk < w.heap.size->l.length < 4611686018427387904->l.length<=cap->
   Calls P f #[.slice (some ⟨blk,off,none⟩) l.length cap] w λe w'=>e= .returned (.slice (some ⟨blk,off,none⟩) (fn l).length cap)/\∃n os rest,(fn l++rest).length=l.length/\w'=sortWorldK vals (szT t) w blk off n (fn l++rest).toArray os)
  (hnil:∀(p:Option Addr) (cap:Nat) (w:World),Calls P f #[.slice p 0 cap] w λe w'=>e= .returned (.slice p 0 cap)/\w'=w)
  (s:Sl (El t)) (hn:s.l.length < 4611686018427387904):Good P f [.mt (slT (szT t) (encE t) s)] [.c (slT (szT t) (encE t) (s.to (fn s.l)))] [.gone]:=by
 intro S w vs fp hS hA hnd hfp _
 cases vs with
 | nil=>exact hA.elim
 | cons v vs=>
  obtain ⟨f1,f2,rfl,h1,h2⟩:=hA
  cases vs with
  | cons _ _=>exact h2.elim
  | nil=>
   obtain rfl:f2= []:=h2
   simp only [List.append_nil]at hnd hfp ⊢
   refine .inl ⟨f,_,henter _ _, ?_⟩
   have h1:RT S w (slT (szT t) (encE t) s) v f1:=h1
   cases s with
   | nil=>
    cases h1 with
    | d h=>
     have h':=h
     cases h with
     | lit _=>
      refine (hnil none 0 w).mono ?_
      rintro e w' ⟨rfl,rfl⟩
      exact ⟨_,rfl,S, [_], [], [],rfl,⟨λ_ h=>h,λ_ _=>rfl⟩,λb h=> .inl h,hS,⟨[], [],rfl, .d h',rfl⟩,⟨[], [],rfl, .inl ⟨rfl,rfl⟩,rfl⟩,List.nodup_nil,λb hb=>by simp at hb,
       ⟨λb hb=>hb.1,λ_ _=>rfl,Nat.le_refl _,λ_ _=>rfl,λb arr ho=>⟨arr,ho,rfl⟩,Io.refl _⟩⟩
   | mk l=>
    cases h1 with
    | @sl sz rows b off len cap arr hsz0 ho hlen hcap hext hr=>
     rw [List.length_map]at hlen
     subst hlen
     refine (hcon b off cap l w (row_holds hv hs ho hr) ho.lt hn hcap).mono ?_
     rintro e w' ⟨rfl,n,os,rest,hrest,rfl⟩
     have hSb:=hfp b (by simp)
     have hrt:=qs7 (S:=S) (n:=n) (os:=os) (l:=l) (d:=(fn l++rest).toArray) (len:=(fn l).length) hv hp hs ho (by rw [List.size_toArray,List.length_append]; omega) (by rw [List.size_toArray,hrest]) hcap hext
     rw [show ((fn l++rest).toArray.toList.take (fn l).length)=fn l by simp]at hrt
     refine ⟨_,rfl,S, [_], [b], [],rfl,⟨λ_ h=>h,λc hc=>qag (hS c hc) λe=>hSb (e▸hc)⟩,λc h=> .inl h,λc hc=>Nat.lt_of_lt_of_le (hS c hc) qgu,⟨[b], [],rfl,hrt,rfl⟩,⟨[], [],rfl, .inl ⟨rfl,rfl⟩,rfl⟩,by simp,λc hc=> ?_,qs6 ho⟩
     obtain rfl:=List.mem_singleton.1 (by simpa using hc)
     exact ⟨hSb, .inl (by simp)⟩
theorem qtd{w w':World}(hk:∀b,b < w.heap.size->w'.heap[b]? =w.heap[b]?)(hg:w.heap.size<=w'.heap.size)(hio:Io w w'):∃q os,w'=grow (w.drewN q) os:=by
 refine ⟨w'.drawn - w.drawn,w'.heap.extract w.heap.size w'.heap.size, ?_⟩
 obtain ⟨h1,h2,h3,h4⟩:=hio
 have hh:w'.heap=w.heap++w'.heap.extract w.heap.size w'.heap.size:=by
  apply Array.ext_getElem?
  intro i
  by_cases hi:i < w.heap.size
  ·rw [Array.getElem?_append_left hi,hk i hi]
  ·rw [Array.getElem?_append_right (by omega),Array.getElem?_extract]
   by_cases hi2:i < w'.heap.size
   ·rw [if_pos (by omega)]; congr 1; omega
   ·rw [if_neg (by omega),Array.getElem?_eq_none (by omega)]
 obtain ⟨heap,tape,drawn,os,output⟩:=w'
 simp only at h1 h2 h3 h4 hh ⊢
 subst h1 h2 h3
 unfold grow World.drewN
 simp only
 rw [<- hh]
 congr 1
 omega
theorem qq4(hv:∀x,encE t x=litsD (vals x))(hp:∀x,∀v∈vals x,plain v=true){cf:El t->El t->Int}(hg:∀x y,Good P g [.agg (encE t x), .agg (encE t y)] [.c (.d (.lit (.int .i64 (cf x y))))] [])
  (henter:∀args w,(callFunc g args).run P w= .ok (.enter g args) w) (hglob:∀w,Glob (λ_=>False) w) (x y:El t) (w:World):
  Calls P g #[.agg (vals x).toArray, .agg (vals y).toArray] w λe w'=>e= .returned (.int .i64 (cf x y))/\∃q os,w'=grow (w.drewN q) os:=by
 have ra:∀z,RA (λ_=>False) w (.agg (encE t z)) (.agg (vals z).toArray) []:=λz=>by
  refine ⟨_,rfl,by rw [hv]; simp [litsD],λi d hi=> ?_,rfl⟩
  rw [hv,litsD,List.getElem?_map]at hi
  obtain ⟨v,hv2,rfl⟩:=Option.map_eq_some_iff.1 hi
  obtain ⟨hi2,rfl⟩:=List.getElem?_eq_some_iff.1 hv2
  have e:(vals z).toArray.getD i undef=(vals z)[i]:=by simp [Array.getD,hi2]
  rw [e]
  exact .lit (hp _ _ (List.getElem_mem hi2))
 rcases hg x y (λ_=>False) w [.agg (vals x).toArray, .agg (vals y).toArray] [] (λb h=>h.elim) ⟨[], [],rfl,ra x, [], [],rfl,ra y,rfl⟩ List.nodup_nil (λb hb=>by simp at hb) (hglob w)with ⟨f',as',h1,h2⟩ | ⟨v,h1,_⟩
 ·have h1:(callFunc g #[.agg (vals x).toArray, .agg (vals y).toArray]).run P w= .ok (.enter f' as') w:=h1
  rw [henter]at h1
  obtain ⟨rfl,rfl⟩:g=f'/\#[Value.agg (vals x).toArray, .agg (vals y).toArray]=as':=by simpa using h1
  refine h2.mono ?_
  rintro e w' ⟨v,rfl,S',rvs,fp1,fp2,rfl,_,_,_,hrr,_,_,_,hfrm⟩
  cases rvs with
  | nil=>exact hrr.elim
  | cons v rvs=>
   obtain ⟨f1,f2,_,h3,h4⟩:=hrr
   cases rvs with
   | cons _ _=>exact h4.elim
   | nil=>
    cases h3 with
    | d h5=>
     cases h5 with
     | lit _=>exact ⟨rfl,qtd (λb hb=>hfrm.keep b ⟨hb,by simp⟩) hfrm.grow hfrm.io⟩
 ·have h1:(callFunc g #[.agg (vals x).toArray, .agg (vals y).toArray]).run P w= .ok (.value v) w:=h1
  rw [henter]at h1; simp at h1
def sortF{α:Type}(srt:Array α->Array α)(s:Sl α):Option (Sl α):=bif Nat.blt s.l.length 4611686018427387904 then some (s.to (srt s.l.toArray).toList)else none
def cutF{α:Type}(fn:List α->List α)(s:Sl α):Option (Sl α):=bif Nat.blt s.l.length 4611686018427387904 then some (s.to (fn s.l))else none
def qhr(t:Ty)(g:FuncId)(srt:Array (El t)->Array (El t)):Spc:=⟨[(true, .os t),(false, .fn g .ni)], [([], [.os t])],false, [true,false],λp=>match p with | s=>sortF srt s⟩
def qdy(t:Ty)(srt:Array (El t)->Array (El t)):Spc:=⟨[(true, .os t)], [([], [.os t])],false, [true],λp=>match p with | s=>sortF srt s⟩
def qiy(t:Ty)(fn:List (El t)->List (El t)):Spc:=⟨[(true, .os t)], [([.os t], [.gn])],false, [true],λp=>match p with | s=>cutF fn s⟩
theorem qtv{srt:Array (El t)->Array (El t)}(h:∀s:Sl (El t),s.l.length < 4611686018427387904->Good P f [.mt (slT (szT t) (encE t) s), .d (.fn g [])] [] [slT (szT t) (encE t) (s.to (srt s.l.toArray).toList)]):SpcOk P f (qhr t g srt):=by
 refine ⟨rfl,λp r hr=> ?_⟩
 have hr:sortF srt p=some r:=hr
 obtain ⟨hl,hr⟩:=q00 hr
 obtain rfl:=Option.some.inj hr
 exact h p (by simpa [Nat.blt_eq]using hl)
theorem qr2{srt:Array (El t)->Array (El t)}(h:∀s:Sl (El t),s.l.length < 4611686018427387904->Good P f [.mt (slT (szT t) (encE t) s)] [] [slT (szT t) (encE t) (s.to (srt s.l.toArray).toList)]):SpcOk P f (qdy t srt):=by
 refine ⟨rfl,λp r hr=> ?_⟩
 have hr:sortF srt p=some r:=hr
 obtain ⟨hl,hr⟩:=q00 hr
 obtain rfl:=Option.some.inj hr
 exact h p (by simpa [Nat.blt_eq]using hl)
theorem qwi{fn:List (El t)->List (El t)}(h:∀s:Sl (El t),s.l.length < 4611686018427387904->Good P f [.mt (slT (szT t) (encE t) s)] [.c (slT (szT t) (encE t) (s.to (fn s.l)))] [.gone]):SpcOk P f (qiy t fn):=by
 refine ⟨rfl,λp r hr=> ?_⟩
 have hr:cutF fn p=some r:=hr
 obtain ⟨hl,hr⟩:=q00 hr
 obtain rfl:=Option.some.inj hr
 exact h p (by simpa [Nat.blt_eq]using hl)
end
end Go.Ev
