/- slices.SortFunc, by the library's contract, as the evaluator's calls want it. Conditions: as stated. -/
import Derived.Test.YthcplpfiidlinaaDoorKm
import Derived.Shelf.SlSortCmp.WholeK
open Array renaming getElem?_append_left->cJ,length_toList->cK
open List renaming append_nil->bC,getElem?_eq_getElem->aw,getElem?_eq_some_iff->ak,getElem?_map->aH,getElem_mem->ce,length_map->aO,length_take->b_,mem_singleton->ao,nodup_nil->fY,size_toArray->cV
open Nat renaming add_assoc->cP,add_mul->bP,blt_eq->lA,le_refl->au,lt_of_lt_of_le->cn,mul_comm->jB,mul_le_mul_right->aI
open Option renaming map_eq_some_iff->aF
open Option.some renaming inj->aa,injEq->bn
namespace Go.Ev
open Go.Sort
open Go.Proofs (sortWorldK)
section
variable{α:Type}[Inhabited α]{enc:α->List Value}{k:Nat}{w:World}{bY off n:Nat}{d:Array α}{os:Array Obj}
theorem BN{b:Nat}(hb:b<w.heap.size):(sortWorldK enc k w bY off n d os).heap[b]?=if bY=b then(w.heap[b]?).map (onCells (putCells id off (flatK enc k d)))else w.heap[b]?:=by unfold sortWorldK grow putRowK putRow mapBlock;simp only[heap_ahead];rw[cJ (by simpa using hb),Array.getElem?_modify]
theorem xN:w.heap.size<=(sortWorldK enc k w bY off n d os).heap.size:=by unfold sortWorldK grow putRowK putRow mapBlock;simp
theorem sK{b:Nat}(hb:b<w.heap.size)(hne:b≠bY):(sortWorldK enc k w bY off n d os).heap[b]?=w.heap[b]?:=by rw[BN hb,if_neg (Ne.symm hne)]
theorem Kr{aM:Array Value}(ho:nw w bY aM):nw (sortWorldK enc k w bY off n d os) bY (putCells id off (flatK enc k d) aM):=by have hlt:=ho.lt;obtain⟨t,h⟩:=ho;exact⟨t,by rw[BN hlt,if_pos rfl,h];rfl⟩
theorem Ij{a:Addr}(ha:a.block<w.heap.size):(sortWorldK enc k w bY off n d os).frozen? a=w.frozen? a:=by
 unfold World.frozen?;rw[BN ha];by_cases e:bY=a.block
 .rw [if_pos e];cases w.heap[a.block]?with
  |none=>rfl
  |some o=>cases o<;>rfl
 .rw [if_neg e]
theorem Hj(aM F:Array Value):(putCells id off F aM).size=aM.size:=by simp[putCells]
theorem Qi{aM F:Array Value}{j:Nat}(hj:j<F.size)(hk:off+F.size<=aM.size):(putCells id off F aM)[off+j]?=some F[j]!:=by unfold putCells;rw[Array.getElem?_mapIdx,Array.getElem?_eq_getElem (by omega)];simp only[Option.map_some,bn];rw[if_pos ⟨by omega,by omega⟩,Nat.add_sub_cancel_left];rfl
end
section
variable{P:Program}{f g:FuncId}{t:Ty}{vals:El t->List Value}
theorem sF(hv:∀x,aS t x=cF (vals x))(x:El t):(vals x).length=bA t:=by have:=congrArg List.length (hv x);rw[bJ,cF,aO]at this;exact this.symm
theorem HK(hv:∀x,aS t x=cF (vals x))(l:List (El t)){i r:Nat}(hi:i<l.length)(hr:r<bA t):(flatK vals (bA t) l.toArray)[i*bA t+r]! =(vals (l[i]'hi))[r]'(by rw[sF hv];exact hr):=by
 have hk:i*bA t+r<l.length*bA t:=by have:(i+1)*bA t<=l.length*bA t:=aI _ hi;rw[bP,Nat.one_mul]at this;omega
 rw[get_flatK _ _ _ _ (by simpa using hk)];have h1:(i*bA t+r)/bA t=i:=by rw[jB,Nat.mul_add_div (by omega),Nat.div_eq_of_lt hr];rfl
 have h2:(i*bA t+r) %bA t=r:=by rw[jB,Nat.mul_add_mod,Nat.mod_eq_of_lt hr]
 rw[h1,h2];have h3:l.toArray[i]! =l[i]:=by simp[hi]
 rw[h3,List.getElem!_eq_getElem?_getD,aw (by rw[sF hv];exact hr)];rfl
theorem row_holds(hv:∀x,aS t x=cF (vals x))(hs:0<bA t){S:Nat->Prop}{w:World}{b off:Nat}{aM:Array Value}{l:List (El t)}(ho:nw w b aM)(hr:cW S w (bA t) (fun i=>aM[i]?) off (l.map (aS t))):
  HoldsK vals (bA t) w b off l.toArray:=by
 intro j hj;rw[size_flatK,cV]at hj;refine⟨?_,ho.frozen _ _⟩;have hq:j/bA t<l.length:=Nat.div_lt_of_lt_mul (by rwa[jB]at hj);have hm:j %bA t<bA t:=Nat.mod_lt _ hs;have hj2:j=(j/bA t)*bA t+j %bA t:=by rw[jB];exact(Nat.div_add_mod _ _).symm
 rw[ho.cell];obtain⟨v,h5,h6⟩:=hr.2 (j/bA t) (aS t l[j/bA t]) (by rw[aH,aw hq];rfl) (j %bA t) (.lit ((vals l[j/bA t])[j %bA t]'(by rw[sF hv];exact hm))) (by rw[hv,cF,aH,aw (by rw[sF hv];exact hm)];rfl);have h5:aM[off+(j/bA t)*bA t+j %bA t]?=some v:=h5;rw[cP,<-hj2]at h5;rw[h5];cases h6 with|lit _=>have:=HK hv l hq hm;rw[<-hj2]at this;rw[this];rfl
theorem KJ(hv:∀x,aS t x=cF (vals x))(hp:∀x,∀v∈vals x,eu v=true)(hs:0<bA t){S:Nat->Prop}{w:World}{b off len cap n:Nat}{aM:Array Value}{os:Array Obj}{l:List (El t)}{d:Array (El t)}(ho:nw w b aM)(hl:len<=d.size)(hle:l.length=d.size)(hcap:l.length<=cap)(hext:off+cap*bA t<=aM.size):
  RT S (sortWorldK vals (bA t) w b off n d os) (.sl (bA t) ((d.toList.take len).map (aS t))) (.slice (some ⟨b,off,none⟩) len cap) [b]:=by
 have hle2:off+d.size*bA t<=aM.size:=Nat.le_trans (Nat.add_le_add_left (aI _ (by omega)) _) hext;refine .sl hs (Kr ho) (by rw[aO,b_,cK];omega) (by omega) (by rw[Hj];exact hext) ⟨fun i r hi=>?_,fun i r hi j x hj=>?_⟩
 .rw [aH]at hi;obtain⟨y,_,rfl⟩:=aF.1 hi;exact bJ _ _
 .rw [aH]at hi;obtain⟨y,hy,rfl⟩:=aF.1 hi;obtain⟨hi2,rfl⟩:=ak.1 hy;rw[hv,cF,aH]at hj;obtain⟨v,hv2,rfl⟩:=aF.1 hj;obtain⟨hj2,rfl⟩:=ak.1 hv2;have hj3:j<bA t:=by rwa[sF hv]at hj2
  have hi4:i<len:=by rw[b_]at hi2;omega
  have hi3:i<d.toList.length:=by rw[cK];omega
  have hlt:i*bA t+j<d.size*bA t:=by have:(i+1)*bA t<=d.size*bA t:=aI _ (by omega);rw[bP,Nat.one_mul]at this;omega
  refine⟨_,?_,.lit (hp _ _ (ce hj2))⟩;show(putCells id off (flatK vals (bA t) d) aM)[off+i*bA t+j]?=_;rw[cP,Qi (by rw[size_flatK];exact hlt) (by rw[size_flatK];exact hle2)];have:=HK hv d.toList hi3 hj3;rw[Array.toArray_toList]at this;rw[this];simp only[List.getElem_take]
theorem Ks{w:World}{b off n:Nat}{aM:Array Value}{os:Array Obj}{d:Array (El t)}(ho:nw w b aM):G2 (fun c=>c<w.heap.size/\c∉[b]) w (sortWorldK vals (bA t) w b off n d os):=
 ⟨fun c hc=>hc.1,fun c hc=>sK hc.1 fun e=>hc.2 (by rw[e];simp),xN,fun a ha=>Ij ha,fun c a hc=>by
  by_cases e:c=b
  .subst e;obtain⟨t1,h5⟩:=hc;obtain⟨t2,h6⟩:=ho;obtain⟨rfl,_⟩:a=aM/\t1=t2:=by rw[h5]at h6;simpa using h6
   exact⟨_,Kr ⟨t1,h5⟩,Hj _ _⟩
  .exact ⟨a,hc.mq (sK hc.lt e),rfl⟩,rfl,rfl,rfl,Nat.le_add_right _ _⟩
theorem NK{k:Nat}{α:Type}[Inhabited α]{enc:α->List Value}{S:Nat->Prop}{w:World}{b off n:Nat}{os:Array Obj}{d:Array α}(hS:∀c,S c->c<w.heap.size)(hSb:¬S b)(h:u4 S w):u4 S (sortWorldK enc k w b off n d os):=h.mono ⟨fun _ h=>h,fun c hc=>sK (hS c hc) fun e=>hSb (e▸hc)⟩
theorem R5{k:Nat}{α:Type}[Inhabited α]{enc:α->List Value}{S:Nat->Prop}{w:World}{b off n:Nat}{os:Array Obj}{d:Array α}(hS:∀c,S c->c<w.heap.size):∀c,S c->c<(sortWorldK enc k w b off n d os).heap.size:=fun c hc=>cn (hS c hc) xN
theorem Di(hv:∀x,aS t x=cF (vals x))(hp:∀x,∀v∈vals x,eu v=true)(hs:0<bA t){S:Nat->Prop}{w:World}(hS:∀c,S c->c<w.heap.size){b off cap n:Nat}{aM:Array Value}{os:Array Obj}{l:List (El t)}{d:Array (El t)}(ho:nw w b aM)(hle:l.length=d.size)(hcap:l.length<=cap)(hext:off+cap*bA t<=aM.size)(hSb:¬S b):
  Left S w [b] [] [.sl (bA t) (d.toList.map (aS t))] [.slice (some ⟨b,off,none⟩) l.length cap] (.tuple #[]) (sortWorldK vals (bA t) w b off n d os):=by
 have hrt:=KJ (S:=S) (n:=n) (os:=os) hv hp hs ho (Nat.le_of_eq hle) hle hcap hext;rw[List.take_of_length_le (by rw[cK];omega)]at hrt;refine⟨S,[],[],[b],rfl,⟨fun _ h=>h,fun c hc=>sK (hS c hc) fun e=>hSb (e▸hc)⟩,fun c h=>.inl h,fun c hc=>cn (hS c hc) xN,rfl,⟨[b],[],rfl,.inr hrt,rfl⟩,by simp,fun c hc=>?_,Ks ho⟩;obtain rfl:=ao.1 (by simpa using hc);exact⟨hSb,.inl (by simp)⟩
theorem DO{S:Nat->Prop}{w:World}(hS:∀c,S c->c<w.heap.size){x:D}{v:Value}(h:RD S w x v):Left S w [] [] [.d x] [v] (.tuple #[]) w:=
 ⟨S,[],[],[],rfl,⟨fun _ h=>h,fun _ _=>rfl⟩,fun b h=>.inl h,hS,rfl,⟨[],[],rfl,.inr (.d h),rfl⟩,fY,fun b hb=>by simp at hb,
  ⟨fun b hb=>hb.1,fun _ _=>rfl,au _,fun _ _=>rfl,fun b aM ho=>⟨aM,ho,rfl⟩,Io.refl _⟩⟩
theorem Il(hv:∀x,aS t x=cF (vals x))(hp:∀x,∀v∈vals x,eu v=true)(hs:0<bA t)(srt:Array (El t)->Array (El t))(hsz:∀d,(srt d).size=d.size)
  (henter:∀args w,(callFunc f args).run P w=.ok (.enter f args) w)
  (hcon:∀(S:Nat->Prop)(bY off cap:Nat)(d:Array (El t))(w:World),HoldsK vals (bA t) w bY off d->bY<w.heap.size->d.size<4611686018427387904->(∀c,S c->c<w.heap.size)->¬S bY->u4 S w->
   Calls P f #[.slice (some ⟨bY,off,none⟩) d.size cap,.func (.func g) #[] #[]] w fun e w'=>e=.returned (.tuple #[])/\∃n os,w'=sortWorldK vals (bA t) w bY off n (srt d) os)
  (hnil:∀(p:Option Addr)(cap:Nat)(fv:Value)(w:World),Calls P f #[.slice p 0 cap,fv] w fun e w'=>e=.returned (.tuple #[])/\w'=w)
  (s:Sl (El t)) (hn:s.l.length<4611686018427387904):sy P f [.mt (z_ (bA t) (aS t) s),.d (.fn g [])] [] [z_ (bA t) (aS t) (s.to (srt s.l.toArray).toList)]:=by
 intro S w vs fp hS hA hnd hfp hgl;cases vs with
 |nil=>exact hA.elim
 |cons v vs=>
  obtain⟨f1,f2,rfl,h1,h2⟩:=hA;cases vs with
  |nil=>exact h2.elim
  |cons u vs=>
   obtain⟨f3,f4,rfl,⟨h3,rfl⟩,h4⟩:=h2;cases vs with
   |cons _ _=>exact h4.elim
   |nil=>
    obtain rfl:f4=[]:=h4;simp only[bC]at hnd hfp|-;obtain⟨cs,hcs,rfl⟩:∃cs:Array Value,cs.size=0/\u=.func (.func g) #[] cs:=by cases h3 with|fn hlen _=>exact⟨_,hlen.symm,rfl⟩
    obtain rfl:cs= #[]:=Array.size_eq_zero_iff.1 hcs;refine .inl ⟨f,_,henter _ _,?_⟩;have h1:RT S w (z_ (bA t) (aS t) s) v f1:=h1;cases s with
    |nil=>
     cases h1 with
     |d h=>have h':=h;cases h with|lit _=>refine(hnil none 0 _ w).mono ?_;rintro e w' ⟨rfl,rfl⟩;exact⟨_,rfl,DO hS h'⟩
    |mk l=>cases h1 with|@sl sz aq b off len cap aM hsz0 ho hlen hcap hext hr=>rw[aO]at hlen;subst hlen;have hcon:=hcon S b off cap l.toArray w (row_holds hv hs ho hr) ho.lt (by simpa using hn) hS (hfp b (by simp)) hgl;rw[cV]at hcon;refine hcon.mono ?_;rintro e w' ⟨rfl,n,os,rfl⟩;exact⟨_,rfl,Di hv hp hs hS ho (by rw[hsz,cV];rfl) hcap hext (hfp b (by simp))⟩
theorem Fk(hv:∀x,aS t x=cF (vals x))(hp:∀x,∀v∈vals x,eu v=true)(hs:0<bA t)(srt:Array (El t)->Array (El t))(hsz:∀d,(srt d).size=d.size)
  (henter:∀args w,(callFunc f args).run P w=.ok (.enter f args) w)
  (hcon:∀(bY off cap:Nat)(d:Array (El t))(w:World),HoldsK vals (bA t) w bY off d->bY<w.heap.size->d.size<4611686018427387904->
   Calls P f #[.slice (some ⟨bY,off,none⟩) d.size cap] w fun e w'=>e=.returned (.tuple #[])/\∃n os,w'=sortWorldK vals (bA t) w bY off n (srt d) os)
  (hnil:∀(p:Option Addr)(cap:Nat)(w:World),Calls P f #[.slice p 0 cap] w fun e w'=>e=.returned (.tuple #[])/\w'=w)
  (s:Sl (El t)) (hn:s.l.length<4611686018427387904):sy P f [.mt (z_ (bA t) (aS t) s)] [] [z_ (bA t) (aS t) (s.to (srt s.l.toArray).toList)]:=by
 intro S w vs fp hS hA hnd hfp _;cases vs with
 |nil=>exact hA.elim
 |cons v vs=>
  obtain⟨f1,f2,rfl,h1,h2⟩:=hA;cases vs with
  |cons _ _=>exact h2.elim
  |nil=>
   obtain rfl:f2=[]:=h2;simp only[bC]at hnd hfp|-;refine .inl ⟨f,_,henter _ _,?_⟩;have h1:RT S w (z_ (bA t) (aS t) s) v f1:=h1;cases s with
   |nil=>
    cases h1 with
    |d h=>have h':=h;cases h with|lit _=>refine(hnil none 0 w).mono ?_;rintro e w' ⟨rfl,rfl⟩;exact⟨_,rfl,DO hS h'⟩
   |mk l=>cases h1 with|@sl sz aq b off len cap aM hsz0 ho hlen hcap hext hr=>rw[aO]at hlen;subst hlen;have hcon:=hcon b off cap l.toArray w (row_holds hv hs ho hr) ho.lt (by simpa using hn);rw[cV]at hcon;refine hcon.mono ?_;rintro e w' ⟨rfl,n,os,rfl⟩;exact⟨_,rfl,Di hv hp hs hS ho (by rw[hsz,cV];rfl) hcap hext (hfp b (by simp))⟩
theorem MH(hv:∀x,aS t x=cF (vals x))(hp:∀x,∀v∈vals x,eu v=true)(hs:0<bA t)(fn:List (El t)->List (El t))
  (henter:∀args w,(callFunc f args).run P w=.ok (.enter f args) w)
  (hcon:∀(bY off cap:Nat)(l:List (El t))(w:World),HoldsK vals (bA t) w bY off l.toArray->bY<w.heap.size->l.length<4611686018427387904->l.length<=cap->
   Calls P f #[.slice (some ⟨bY,off,none⟩) l.length cap] w fun e w'=>e=.returned (.slice (some ⟨bY,off,none⟩) (fn l).length cap)/\∃n os rest,(fn l++rest).length=l.length/\w'=sortWorldK vals (bA t) w bY off n (fn l++rest).toArray os)
  (hnil:∀(p:Option Addr)(cap:Nat)(w:World),Calls P f #[.slice p 0 cap] w fun e w'=>e=.returned (.slice p 0 cap)/\w'=w)
  (s:Sl (El t)) (hn:s.l.length<4611686018427387904):sy P f [.mt (z_ (bA t) (aS t) s)] [.c (z_ (bA t) (aS t) (s.to (fn s.l)))] [.uS]:=by
 intro S w vs fp hS hA hnd hfp _;cases vs with
 |nil=>exact hA.elim
 |cons v vs=>
  obtain⟨f1,f2,rfl,h1,h2⟩:=hA;cases vs with
  |cons _ _=>exact h2.elim
  |nil=>
   obtain rfl:f2=[]:=h2;simp only[bC]at hnd hfp|-;refine .inl ⟨f,_,henter _ _,?_⟩;have h1:RT S w (z_ (bA t) (aS t) s) v f1:=h1;cases s with
   |nil=>
    cases h1 with
    |d h=>
     have h':=h;cases h with
     |lit _=>
      refine(hnil none 0 w).mono ?_;rintro e w' ⟨rfl,rfl⟩
      exact⟨_,rfl,S,[_],[],[],rfl,⟨fun _ h=>h,fun _ _=>rfl⟩,fun b h=>.inl h,hS,⟨[],[],rfl,.d h',rfl⟩,⟨[],[],rfl,.inl ⟨rfl,rfl⟩,rfl⟩,fY,fun b hb=>by simp at hb,
       ⟨fun b hb=>hb.1,fun _ _=>rfl,au _,fun _ _=>rfl,fun b aM ho=>⟨aM,ho,rfl⟩,Io.refl _⟩⟩
   |mk l=>cases h1 with|@sl sz aq b off len cap aM hsz0 ho hlen hcap hext hr=>rw[aO]at hlen;subst hlen;refine(hcon b off cap l w (row_holds hv hs ho hr) ho.lt hn hcap).mono ?_;rintro e w' ⟨rfl,n,os,rest,hrest,rfl⟩;have hSb:=hfp b (by simp);have hrt:=KJ (S:=S) (n:=n) (os:=os) (l:=l) (d:=(fn l++rest).toArray) (len:=(fn l).length) hv hp hs ho (by rw[cV,List.length_append];omega) (by rw[cV,hrest]) hcap hext;rw[show((fn l++rest).toArray.toList.take (fn l).length)=fn l by simp]at hrt;refine⟨_,rfl,S,[_],[b],[],rfl,⟨fun _ h=>h,fun c hc=>sK (hS c hc) fun e=>hSb (e▸hc)⟩,fun c h=>.inl h,fun c hc=>cn (hS c hc) xN,⟨[b],[],rfl,hrt,rfl⟩,⟨[],[],rfl,.inl ⟨rfl,rfl⟩,rfl⟩,by simp,fun c hc=>?_,Ks ho⟩;obtain rfl:=ao.1 (by simpa using hc);exact⟨hSb,.inl (by simp)⟩
theorem OB{w w':World}(hk:∀b,b<w.heap.size->w'.heap[b]?=w.heap[b]?)(hg:w.heap.size<=w'.heap.size)(hio:Io w w'):∃q os,w'=grow (w.drewN q) os:=by
 refine⟨w'.drawn-w.drawn,w'.heap.extract w.heap.size w'.heap.size,?_⟩;obtain⟨h1,h2,h3,h4⟩:=hio
 have hh:w'.heap=w.heap++w'.heap.extract w.heap.size w'.heap.size:=by
  apply Array.ext_getElem?;intro i;by_cases hi:i<w.heap.size
  .rw [cJ hi,hk i hi]
  .rw [Array.getElem?_append_right (by omega),Array.getElem?_extract];by_cases hi2:i<w'.heap.size
   .rw [if_pos (by omega)];congr 1;omega
   .rw [if_neg (by omega),Array.getElem?_eq_none (by omega)]
 obtain⟨heap,tape,drawn,os,output⟩:=w';simp only at h1 h2 h3 h4 hh|-;subst h1 h2 h3;unfold grow World.drewN;simp only;rw[<-hh];congr 1;omega
theorem L3(hv:∀x,aS t x=cF (vals x))(hp:∀x,∀v∈vals x,eu v=true){cf:El t->El t->Int}(hg:∀x y,sy P g [.agg (aS t x),.agg (aS t y)] [.c (.d (.lit (.int .i64 (cf x y))))] [])
  (henter:∀args w,(callFunc g args).run P w=.ok (.enter g args) w) (x y:El t) {S:Nat->Prop} {w:World} (hS:∀c,S c->c<w.heap.size) (hgl:u4 S w):
  Calls P g #[.agg (vals x).toArray,.agg (vals y).toArray] w fun e w'=>e=.returned (.int .i64 (cf x y))/\∃q os,w'=grow (w.drewN q) os:=by
 have ra:∀z,RA S w (.agg (aS t z)) (.agg (vals z).toArray) []:=fun z=>by
  refine⟨_,rfl,by rw[hv];simp[cF],fun i d hi=>?_,rfl⟩;rw[hv,cF,aH]at hi;obtain⟨v,hv2,rfl⟩:=aF.1 hi;obtain⟨hi2,rfl⟩:=ak.1 hv2;have e:(vals z).toArray.getD i undef=(vals z)[i]:=by simp[Array.getD,hi2]
  rw[e];exact .lit (hp _ _ (ce hi2))
 rcases hg x y S w [.agg (vals x).toArray,.agg (vals y).toArray] [] hS ⟨[],[],rfl,ra x,[],[],rfl,ra y,rfl⟩ fY (fun b hb=>by simp at hb) hgl with⟨f',as',h1,h2⟩|⟨v,h1,_⟩
 .have h1:(callFunc g #[.agg (vals x).toArray,.agg (vals y).toArray]).run P w=.ok (.enter f' as') w:=h1;rw[henter]at h1;obtain⟨rfl,rfl⟩:g=f'/\ #[Value.agg (vals x).toArray,.agg (vals y).toArray]=as':=by simpa using h1
  refine h2.mono ?_;rintro e w' ⟨v,rfl,S',kN,fp1,fp2,rfl,_,_,_,hrr,_,_,_,hfrm⟩;cases kN with
  |nil=>exact hrr.elim
  |cons v kN=>
   obtain⟨f1,f2,_,h3,h4⟩:=hrr;cases kN with
   |cons _ _=>exact h4.elim
   |nil=>
    cases h3 with
    |d h5=>cases h5 with|lit _=>exact⟨rfl,OB (fun b hb=>hfrm.nc b ⟨hb,by simp⟩) hfrm.grow hfrm.io⟩
 .have h1:(callFunc g #[.agg (vals x).toArray,.agg (vals y).toArray]).run P w=.ok (.value v) w:=h1;rw[henter]at h1;simp at h1
def ui{α:Type}(srt:Array α->Array α)(s:Sl α):Option (Sl α):=bif Nat.blt s.l.length 4611686018427387904 then some (s.to (srt s.l.toArray).toList)else none
def ML{α:Type}(fn:List α->List α)(s:Sl α):Option (Sl α):=bif Nat.blt s.l.length 4611686018427387904 then some (s.to (fn s.l))else none
def BP(t:Ty)(g:FuncId)(srt:Array (El t)->Array (El t)):lD:=⟨[(true,.os t),(false,.fn g .ni)],[([],[.os t])],false,[true,false],fun p=>match p with|s=>ui srt s⟩
def yl(t:Ty)(srt:Array (El t)->Array (El t)):lD:=⟨[(true,.os t)],[([],[.os t])],false,[true],fun p=>match p with|s=>ui srt s⟩
def Cp(t:Ty)(fn:List (El t)->List (El t)):lD:=⟨[(true,.os t)],[([.os t],[.gn])],false,[true],fun p=>match p with|s=>ML fn s⟩
theorem NO{srt:Array (El t)->Array (El t)}(h:∀s:Sl (El t),s.l.length<4611686018427387904->sy P f [.mt (z_ (bA t) (aS t) s),.d (.fn g [])] [] [z_ (bA t) (aS t) (s.to (srt s.l.toArray).toList)]):cY P f (BP t g srt):=by refine⟨rfl,fun p r hr=>?_⟩;have hr:ui srt p=some r:=hr;obtain⟨hl,hr⟩:=aP hr;obtain rfl:=aa hr;exact h p (by simpa[lA]using hl)
theorem Ku{srt:Array (El t)->Array (El t)}(h:∀s:Sl (El t),s.l.length<4611686018427387904->sy P f [.mt (z_ (bA t) (aS t) s)] [] [z_ (bA t) (aS t) (s.to (srt s.l.toArray).toList)]):cY P f (yl t srt):=by refine⟨rfl,fun p r hr=>?_⟩;have hr:ui srt p=some r:=hr;obtain⟨hl,hr⟩:=aP hr;obtain rfl:=aa hr;exact h p (by simpa[lA]using hl)
theorem Q7{fn:List (El t)->List (El t)}(h:∀s:Sl (El t),s.l.length<4611686018427387904->sy P f [.mt (z_ (bA t) (aS t) s)] [.c (z_ (bA t) (aS t) (s.to (fn s.l)))] [.uS]):cY P f (Cp t fn):=by refine⟨rfl,fun p r hr=>?_⟩;have hr:ML fn p=some r:=hr;obtain⟨hl,hr⟩:=aP hr;obtain rfl:=aa hr;exact h p (by simpa[lA]using hl)
end
end Go.Ev
