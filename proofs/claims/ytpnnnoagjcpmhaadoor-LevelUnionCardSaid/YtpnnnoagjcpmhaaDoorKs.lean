/- slices.SortFunc, by the library's contract, as the evaluator's calls want it. Conditions: as stated. -/
import Derived.Test.YtpnnnoagjcpmhaaDoorKm
import Derived.Shelf.SlSortCmp.WholeK
open Array renaming getElem?_append_left->bw,length_toList->bQ
open List renaming append_nil->bi,getElem?_eq_getElem->au,getElem?_eq_some_iff->ai,getElem?_map->aD,getElem_mem->bU,length_map->aI,length_take->cM,mem_singleton->am,nodup_nil->gX,size_toArray->cj
open Nat renaming add_assoc->ct,add_mul->bI,blt_eq->gr,le_refl->ao,lt_of_lt_of_le->ci,mul_comm->ir,mul_le_mul_right->aH
open Option renaming map_eq_some_iff->aB
open Option.some renaming inj->aa,injEq->bl
namespace Go.Ev
open Go.Sort
open Go.Proofs (sortWorldK)
section
variable{α:Type}[Inhabited α]{enc:α->List Value}{k:Nat}{w:World}{bA off n:Nat}{d:Array α}{os:Array Obj}
theorem zp{b:Nat}(hb:b<w.heap.size):(sortWorldK enc k w bA off n d os).heap[b]?=if bA=b then(w.heap[b]?).map (onCells (putCells id off (flatK enc k d)))else w.heap[b]?:=by unfold sortWorldK grow putRowK putRow mapBlock;simp only[heap_ahead];rw[bw (by simpa using hb),Array.getElem?_modify]
theorem vq:w.heap.size<=(sortWorldK enc k w bA off n d os).heap.size:=by unfold sortWorldK grow putRowK putRow mapBlock;simp
theorem qx{b:Nat}(hb:b<w.heap.size)(hne:b≠bA):(sortWorldK enc k w bA off n d os).heap[b]?=w.heap[b]?:=by rw[zp hb,if_neg (Ne.symm hne)]
theorem HO{aJ:Array Value}(ho:kP w bA aJ):kP (sortWorldK enc k w bA off n d os) bA (putCells id off (flatK enc k d) aJ):=by have hlt:=ho.lt;obtain⟨t,h⟩:=ho;exact⟨t,by rw[zp hlt,if_pos rfl,h];rfl⟩
theorem FP{a:Addr}(ha:a.block<w.heap.size):(sortWorldK enc k w bA off n d os).frozen? a=w.frozen? a:=by
 unfold World.frozen?;rw[zp ha];by_cases e:bA=a.block
 .rw [if_pos e];cases w.heap[a.block]?with
  |none=>rfl
  |some o=>cases o<;>rfl
 .rw [if_neg e]
theorem ER(aJ F:Array Value):(putCells id off F aJ).size=aJ.size:=by simp[putCells]
theorem NH{aJ F:Array Value}{j:Nat}(hj:j<F.size)(hk:off+F.size<=aJ.size):(putCells id off F aJ)[off+j]?=some F[j]!:=by unfold putCells;rw[Array.getElem?_mapIdx,Array.getElem?_eq_getElem (by omega)];simp only[Option.map_some,bl];rw[if_pos ⟨by omega,by omega⟩,Nat.add_sub_cancel_left];rfl
end
section
variable{P:Program}{f g:FuncId}{t:Ty}{vals:El t->List Value}
theorem nv(hv:∀x,aM t x=ce (vals x))(x:El t):(vals x).length=bm t:=by have:=congrArg List.length (hv x);rw[bD,ce,aI]at this;exact this.symm
theorem Fh(hv:∀x,aM t x=ce (vals x))(l:List (El t)){i r:Nat}(hi:i<l.length)(hr:r<bm t):(flatK vals (bm t) l.toArray)[i*bm t+r]! =(vals (l[i]'hi))[r]'(by rw[nv hv];exact hr):=by
 have hk:i*bm t+r<l.length*bm t:=by have:(i+1)*bm t<=l.length*bm t:=aH _ hi;rw[bI,Nat.one_mul]at this;omega
 rw[get_flatK _ _ _ _ (by simpa using hk)];have h1:(i*bm t+r)/bm t=i:=by rw[ir,Nat.mul_add_div (by omega),Nat.div_eq_of_lt hr];rfl
 have h2:(i*bm t+r) %bm t=r:=by rw[ir,Nat.mul_add_mod,Nat.mod_eq_of_lt hr]
 rw[h1,h2];have h3:l.toArray[i]! =l[i]:=by simp[hi]
 rw[h3,List.getElem!_eq_getElem?_getD,au (by rw[nv hv];exact hr)];rfl
def u9(v:Value):Bool:=dP v&&!KR v
theorem wn{v:Value}(h:u9 v=true):dP v=true:=(Bool.and_eq_true_iff.1 h).1
theorem row_holds(hv:∀x,aM t x=ce (vals x))(hp:∀x,∀v∈vals x,u9 v=true)(hs:0<bm t){S:Nat->Prop}{w:World}{b off:Nat}{aJ:Array Value}{l:List (El t)}(ho:kP w b aJ)(hr:cD S w (bm t) (fun i=>aJ[i]?) off (l.map (aM t))):
  HoldsK vals (bm t) w b off l.toArray:=by
 intro j hj;rw[size_flatK,cj]at hj;refine⟨?_,ho.frozen _ _⟩;have hq:j/bm t<l.length:=Nat.div_lt_of_lt_mul (by rwa[ir]at hj);have hm:j %bm t<bm t:=Nat.mod_lt _ hs;have hj2:j=(j/bm t)*bm t+j %bm t:=by rw[ir];exact(Nat.div_add_mod _ _).symm
 rw[ho.cell];obtain⟨v,h5,h6⟩:=hr.2 (j/bm t) (aM t l[j/bm t]) (by rw[aD,au hq];rfl) (j %bm t) (.lit ((vals l[j/bm t])[j %bm t]'(by rw[nv hv];exact hm))) (by rw[hv,ce,aD,au (by rw[nv hv];exact hm)];rfl);have h5:aJ[off+(j/bm t)*bm t+j %bm t]?=some v:=h5;rw[ct,<-hj2]at h5;rw[h5];have hnf:=hp _ _ (bU (l:=vals l[j/bm t]) (by rw[nv hv];exact hm));generalize hq0:(vals l[j/bm t])[j %bm t]'(by rw[nv hv];exact hm)=q0 at h6 hnf;cases h6 with|nan=>exact absurd hnf (by simp[u9,KR])|ex=>exact absurd hnf (by simp[u9,KR])|lit _=>rw[<-hq0];have:=Fh hv l hq hm;rw[<-hj2]at this;rw[this];rfl
theorem Ie(hv:∀x,aM t x=ce (vals x))(hp:∀x,∀v∈vals x,u9 v=true)(hs:0<bm t){S:Nat->Prop}{w:World}{b off len cap n:Nat}{aJ:Array Value}{os:Array Obj}{l:List (El t)}{d:Array (El t)}(ho:kP w b aJ)(hl:len<=d.size)(hle:l.length=d.size)(hcap:l.length<=cap)(hext:off+cap*bm t<=aJ.size):
  RT S (sortWorldK vals (bm t) w b off n d os) (.sl (bm t) ((d.toList.take len).map (aM t))) (.slice (some ⟨b,off,none⟩) len cap) [b]:=by
 have hle2:off+d.size*bm t<=aJ.size:=Nat.le_trans (Nat.add_le_add_left (aH _ (by omega)) _) hext;refine .sl hs (HO ho) (by rw[aI,cM,bQ];omega) (by omega) (by rw[ER];exact hext) ⟨fun i r hi=>?_,fun i r hi j x hj=>?_⟩
 .rw [aD]at hi;obtain⟨y,_,rfl⟩:=aB.1 hi;exact bD _ _
 .rw [aD]at hi;obtain⟨y,hy,rfl⟩:=aB.1 hi;obtain⟨hi2,rfl⟩:=ai.1 hy;rw[hv,ce,aD]at hj;obtain⟨v,hv2,rfl⟩:=aB.1 hj;obtain⟨hj2,rfl⟩:=ai.1 hv2;have hj3:j<bm t:=by rwa[nv hv]at hj2
  have hi4:i<len:=by rw[cM]at hi2;omega
  have hi3:i<d.toList.length:=by rw[bQ];omega
  have hlt:i*bm t+j<d.size*bm t:=by have:(i+1)*bm t<=d.size*bm t:=aH _ (by omega);rw[bI,Nat.one_mul]at this;omega
  refine⟨_,?_,.lit (wn (hp _ _ (bU hj2)))⟩;show(putCells id off (flatK vals (bm t) d) aJ)[off+i*bm t+j]?=_;rw[ct,NH (by rw[size_flatK];exact hlt) (by rw[size_flatK];exact hle2)];have:=Fh hv d.toList hi3 hj3;rw[Array.toArray_toList]at this;rw[this];simp only[List.getElem_take]
theorem HP{w:World}{b off n:Nat}{aJ:Array Value}{os:Array Obj}{d:Array (El t)}(ho:kP w b aJ):Ey (fun c=>c<w.heap.size/\c∉[b]) w (sortWorldK vals (bm t) w b off n d os):=
 ⟨fun c hc=>hc.1,fun c hc=>qx hc.1 fun e=>hc.2 (by rw[e];simp),vq,fun a ha=>FP ha,fun c a hc=>by
  by_cases e:c=b
  .subst e;obtain⟨t1,h5⟩:=hc;obtain⟨t2,h6⟩:=ho;obtain⟨rfl,_⟩:a=aJ/\t1=t2:=by rw[h5]at h6;simpa using h6
   exact⟨_,HO ⟨t1,h5⟩,ER _ _⟩
  .exact ⟨a,hc.kE (qx hc.lt e),rfl⟩,rfl,rfl,rfl,Nat.le_add_right _ _⟩
theorem Lb{k:Nat}{α:Type}[Inhabited α]{enc:α->List Value}{S:Nat->Prop}{w:World}{b off n:Nat}{os:Array Obj}{d:Array α}(hS:∀c,S c->c<w.heap.size)(hSb:¬S b)(h:sE S w):sE S (sortWorldK enc k w b off n d os):=h.mono ⟨fun _ h=>h,fun c hc=>qx (hS c hc) fun e=>hSb (e▸hc)⟩
theorem Pn{k:Nat}{α:Type}[Inhabited α]{enc:α->List Value}{S:Nat->Prop}{w:World}{b off n:Nat}{os:Array Obj}{d:Array α}(hS:∀c,S c->c<w.heap.size):∀c,S c->c<(sortWorldK enc k w b off n d os).heap.size:=fun c hc=>ci (hS c hc) vq
theorem A7(hv:∀x,aM t x=ce (vals x))(hp:∀x,∀v∈vals x,u9 v=true)(hs:0<bm t){S:Nat->Prop}{w:World}(hS:∀c,S c->c<w.heap.size){b off cap n:Nat}{aJ:Array Value}{os:Array Obj}{l:List (El t)}{d:Array (El t)}(ho:kP w b aJ)(hle:l.length=d.size)(hcap:l.length<=cap)(hext:off+cap*bm t<=aJ.size)(hSb:¬S b):
  Left S w [b] [] [.sl (bm t) (d.toList.map (aM t))] [.slice (some ⟨b,off,none⟩) l.length cap] (.tuple #[]) (sortWorldK vals (bm t) w b off n d os):=by
 have hrt:=Ie (S:=S) (n:=n) (os:=os) hv hp hs ho (Nat.le_of_eq hle) hle hcap hext;rw[List.take_of_length_le (by rw[bQ];omega)]at hrt;refine⟨S,[],[],[b],rfl,⟨fun _ h=>h,fun c hc=>qx (hS c hc) fun e=>hSb (e▸hc)⟩,fun c h=>.inl h,fun c hc=>ci (hS c hc) vq,rfl,⟨[b],[],rfl,.inr hrt,rfl⟩,by simp,fun c hc=>?_,HP ho⟩;obtain rfl:=am.1 (by simpa using hc);exact⟨hSb,.inl (by simp)⟩
theorem Bz{S:Nat->Prop}{w:World}(hS:∀c,S c->c<w.heap.size){x:D}{v:Value}(h:RD S w x v):Left S w [] [] [.d x] [v] (.tuple #[]) w:=
 ⟨S,[],[],[],rfl,⟨fun _ h=>h,fun _ _=>rfl⟩,fun b h=>.inl h,hS,rfl,⟨[],[],rfl,.inr (.d h),rfl⟩,gX,fun b hb=>by simp at hb,
  ⟨fun b hb=>hb.1,fun _ _=>rfl,ao _,fun _ _=>rfl,fun b aJ ho=>⟨aJ,ho,rfl⟩,Io.refl _⟩⟩
theorem FR(hv:∀x,aM t x=ce (vals x))(hp:∀x,∀v∈vals x,u9 v=true)(hs:0<bm t)(srt:Array (El t)->Array (El t))(hsz:∀d,(srt d).size=d.size)
  (henter:∀args w,(callFunc f args).run P w=.ok (.enter f args) w)
  (hcon:∀(S:Nat->Prop)(bA off cap:Nat)(d:Array (El t))(w:World),HoldsK vals (bm t) w bA off d->bA<w.heap.size->d.size<4611686018427387904->(∀c,S c->c<w.heap.size)->¬S bA->sE S w->
   Calls P f #[.slice (some ⟨bA,off,none⟩) d.size cap,.func (.func g) #[] #[]] w fun e w'=>e=.returned (.tuple #[])/\∃n os,w'=sortWorldK vals (bm t) w bA off n (srt d) os)
  (hnil:∀(p:Option Addr)(cap:Nat)(fv:Value)(w:World),Calls P f #[.slice p 0 cap,fv] w fun e w'=>e=.returned (.tuple #[])/\w'=w)
  (s:Sl (El t)) (hn:s.l.length<4611686018427387904):qV P f [.mt (xD (bm t) (aM t) s),.d (.fn g [])] [] [xD (bm t) (aM t) (s.to (srt s.l.toArray).toList)]:=by
 intro S w vs fp hS hA hnd hfp hgl;cases vs with
 |nil=>exact hA.elim
 |cons v vs=>
  obtain⟨f1,f2,rfl,h1,h2⟩:=hA;cases vs with
  |nil=>exact h2.elim
  |cons u vs=>
   obtain⟨f3,f4,rfl,⟨h3,rfl⟩,h4⟩:=h2;cases vs with
   |cons _ _=>exact h4.elim
   |nil=>
    obtain rfl:f4=[]:=h4;simp only[bi]at hnd hfp|-;obtain⟨cs,hcs,rfl⟩:∃cs:Array Value,cs.size=0/\u=.func (.func g) #[] cs:=by cases h3 with|fn hlen _=>exact⟨_,hlen.symm,rfl⟩
    obtain rfl:cs= #[]:=Array.size_eq_zero_iff.1 hcs;refine .inl ⟨f,_,henter _ _,?_⟩;have h1:RT S w (xD (bm t) (aM t) s) v f1:=h1;cases s with
    |nil=>
     cases h1 with
     |d h=>have h':=h;cases h with|lit _=>refine(hnil none 0 _ w).mono ?_;rintro e w' ⟨rfl,rfl⟩;exact⟨_,rfl,Bz hS h'⟩
    |mk l=>cases h1 with|@sl sz aj b off len cap aJ hsz0 ho hlen hcap hext hr=>rw[aI]at hlen;subst hlen;have hcon:=hcon S b off cap l.toArray w (row_holds hv hp hs ho hr) ho.lt (by simpa using hn) hS (hfp b (by simp)) hgl;rw[cj]at hcon;refine hcon.mono ?_;rintro e w' ⟨rfl,n,os,rfl⟩;exact⟨_,rfl,A7 hv hp hs hS ho (by rw[hsz,cj];rfl) hcap hext (hfp b (by simp))⟩
theorem C0(hv:∀x,aM t x=ce (vals x))(hp:∀x,∀v∈vals x,u9 v=true)(hs:0<bm t)(srt:Array (El t)->Array (El t))(hsz:∀d,(srt d).size=d.size)
  (henter:∀args w,(callFunc f args).run P w=.ok (.enter f args) w)
  (hcon:∀(bA off cap:Nat)(d:Array (El t))(w:World),HoldsK vals (bm t) w bA off d->bA<w.heap.size->d.size<4611686018427387904->
   Calls P f #[.slice (some ⟨bA,off,none⟩) d.size cap] w fun e w'=>e=.returned (.tuple #[])/\∃n os,w'=sortWorldK vals (bm t) w bA off n (srt d) os)
  (hnil:∀(p:Option Addr)(cap:Nat)(w:World),Calls P f #[.slice p 0 cap] w fun e w'=>e=.returned (.tuple #[])/\w'=w)
  (s:Sl (El t)) (hn:s.l.length<4611686018427387904):qV P f [.mt (xD (bm t) (aM t) s)] [] [xD (bm t) (aM t) (s.to (srt s.l.toArray).toList)]:=by
 intro S w vs fp hS hA hnd hfp _;cases vs with
 |nil=>exact hA.elim
 |cons v vs=>
  obtain⟨f1,f2,rfl,h1,h2⟩:=hA;cases vs with
  |cons _ _=>exact h2.elim
  |nil=>
   obtain rfl:f2=[]:=h2;simp only[bi]at hnd hfp|-;refine .inl ⟨f,_,henter _ _,?_⟩;have h1:RT S w (xD (bm t) (aM t) s) v f1:=h1;cases s with
   |nil=>
    cases h1 with
    |d h=>have h':=h;cases h with|lit _=>refine(hnil none 0 w).mono ?_;rintro e w' ⟨rfl,rfl⟩;exact⟨_,rfl,Bz hS h'⟩
   |mk l=>cases h1 with|@sl sz aj b off len cap aJ hsz0 ho hlen hcap hext hr=>rw[aI]at hlen;subst hlen;have hcon:=hcon b off cap l.toArray w (row_holds hv hp hs ho hr) ho.lt (by simpa using hn);rw[cj]at hcon;refine hcon.mono ?_;rintro e w' ⟨rfl,n,os,rfl⟩;exact⟨_,rfl,A7 hv hp hs hS ho (by rw[hsz,cj];rfl) hcap hext (hfp b (by simp))⟩
theorem J4(hv:∀x,aM t x=ce (vals x))(hp:∀x,∀v∈vals x,u9 v=true)(hs:0<bm t)(fn:List (El t)->List (El t))
  (henter:∀args w,(callFunc f args).run P w=.ok (.enter f args) w)
  (hcon:∀(bA off cap:Nat)(l:List (El t))(w:World),HoldsK vals (bm t) w bA off l.toArray->bA<w.heap.size->l.length<4611686018427387904->l.length<=cap->
   Calls P f #[.slice (some ⟨bA,off,none⟩) l.length cap] w fun e w'=>e=.returned (.slice (some ⟨bA,off,none⟩) (fn l).length cap)/\∃n os rest,(fn l++rest).length=l.length/\w'=sortWorldK vals (bm t) w bA off n (fn l++rest).toArray os)
  (hnil:∀(p:Option Addr)(cap:Nat)(w:World),Calls P f #[.slice p 0 cap] w fun e w'=>e=.returned (.slice p 0 cap)/\w'=w)
  (s:Sl (El t)) (hn:s.l.length<4611686018427387904):qV P f [.mt (xD (bm t) (aM t) s)] [.c (xD (bm t) (aM t) (s.to (fn s.l)))] [.rD]:=by
 intro S w vs fp hS hA hnd hfp _;cases vs with
 |nil=>exact hA.elim
 |cons v vs=>
  obtain⟨f1,f2,rfl,h1,h2⟩:=hA;cases vs with
  |cons _ _=>exact h2.elim
  |nil=>
   obtain rfl:f2=[]:=h2;simp only[bi]at hnd hfp|-;refine .inl ⟨f,_,henter _ _,?_⟩;have h1:RT S w (xD (bm t) (aM t) s) v f1:=h1;cases s with
   |nil=>
    cases h1 with
    |d h=>
     have h':=h;cases h with
     |lit _=>
      refine(hnil none 0 w).mono ?_;rintro e w' ⟨rfl,rfl⟩
      exact⟨_,rfl,S,[_],[],[],rfl,⟨fun _ h=>h,fun _ _=>rfl⟩,fun b h=>.inl h,hS,⟨[],[],rfl,.d h',rfl⟩,⟨[],[],rfl,.inl ⟨rfl,rfl⟩,rfl⟩,gX,fun b hb=>by simp at hb,
       ⟨fun b hb=>hb.1,fun _ _=>rfl,ao _,fun _ _=>rfl,fun b aJ ho=>⟨aJ,ho,rfl⟩,Io.refl _⟩⟩
   |mk l=>cases h1 with|@sl sz aj b off len cap aJ hsz0 ho hlen hcap hext hr=>rw[aI]at hlen;subst hlen;refine(hcon b off cap l w (row_holds hv hp hs ho hr) ho.lt hn hcap).mono ?_;rintro e w' ⟨rfl,n,os,rest,hrest,rfl⟩;have hSb:=hfp b (by simp);have hrt:=Ie (S:=S) (n:=n) (os:=os) (l:=l) (d:=(fn l++rest).toArray) (len:=(fn l).length) hv hp hs ho (by rw[cj,List.length_append];omega) (by rw[cj,hrest]) hcap hext;rw[show((fn l++rest).toArray.toList.take (fn l).length)=fn l by simp]at hrt;refine⟨_,rfl,S,[_],[b],[],rfl,⟨fun _ h=>h,fun c hc=>qx (hS c hc) fun e=>hSb (e▸hc)⟩,fun c h=>.inl h,fun c hc=>ci (hS c hc) vq,⟨[b],[],rfl,hrt,rfl⟩,⟨[],[],rfl,.inl ⟨rfl,rfl⟩,rfl⟩,by simp,fun c hc=>?_,HP ho⟩;obtain rfl:=am.1 (by simpa using hc);exact⟨hSb,.inl (by simp)⟩
theorem L3{w w':World}(hk:∀b,b<w.heap.size->w'.heap[b]?=w.heap[b]?)(hg:w.heap.size<=w'.heap.size)(hio:Io w w'):∃q os,w'=grow (w.drewN q) os:=by
 refine⟨w'.drawn-w.drawn,w'.heap.extract w.heap.size w'.heap.size,?_⟩;obtain⟨h1,h2,h3,h4⟩:=hio
 have hh:w'.heap=w.heap++w'.heap.extract w.heap.size w'.heap.size:=by
  apply Array.ext_getElem?;intro i;by_cases hi:i<w.heap.size
  .rw [bw hi,hk i hi]
  .rw [Array.getElem?_append_right (by omega),Array.getElem?_extract];by_cases hi2:i<w'.heap.size
   .rw [if_pos (by omega)];congr 1;omega
   .rw [if_neg (by omega),Array.getElem?_eq_none (by omega)]
 obtain⟨heap,tape,drawn,os,output⟩:=w';simp only at h1 h2 h3 h4 hh|-;subst h1 h2 h3;unfold grow World.drewN;simp only;rw[<-hh];congr 1;omega
theorem Js(hv:∀x,aM t x=ce (vals x))(hp:∀x,∀v∈vals x,u9 v=true){cf:El t->El t->Int}(hg:∀x y,qV P g [.agg (aM t x),.agg (aM t y)] [.c (.d (.lit (.int .i64 (cf x y))))] [])
  (henter:∀args w,(callFunc g args).run P w=.ok (.enter g args) w) (x y:El t) {S:Nat->Prop} {w:World} (hS:∀c,S c->c<w.heap.size) (hgl:sE S w):
  Calls P g #[.agg (vals x).toArray,.agg (vals y).toArray] w fun e w'=>e=.returned (.int .i64 (cf x y))/\∃q os,w'=grow (w.drewN q) os:=by
 have ra:∀z,RA S w (.agg (aM t z)) (.agg (vals z).toArray) []:=fun z=>by
  refine⟨_,rfl,by rw[hv];simp[ce],fun i d hi=>?_,rfl⟩;rw[hv,ce,aD]at hi;obtain⟨v,hv2,rfl⟩:=aB.1 hi;obtain⟨hi2,rfl⟩:=ai.1 hv2;have e:(vals z).toArray.getD i undef=(vals z)[i]:=by simp[Array.getD,hi2]
  rw[e];exact .lit (wn (hp _ _ (bU hi2)))
 rcases hg x y S w [.agg (vals x).toArray,.agg (vals y).toArray] [] hS ⟨[],[],rfl,ra x,[],[],rfl,ra y,rfl⟩ gX (fun b hb=>by simp at hb) hgl with⟨f',as',h1,h2⟩|⟨v,h1,_⟩
 .have h1:(callFunc g #[.agg (vals x).toArray,.agg (vals y).toArray]).run P w=.ok (.enter f' as') w:=h1;rw[henter]at h1;obtain⟨rfl,rfl⟩:g=f'/\ #[Value.agg (vals x).toArray,.agg (vals y).toArray]=as':=by simpa using h1
  refine h2.mono ?_;rintro e w' ⟨v,rfl,S',ji,fp1,fp2,rfl,_,_,_,hrr,_,_,_,hfrm⟩;cases ji with
  |nil=>exact hrr.elim
  |cons v ji=>
   obtain⟨f1,f2,_,h3,h4⟩:=hrr;cases ji with
   |cons _ _=>exact h4.elim
   |nil=>
    cases h3 with
    |d h5=>cases h5 with|lit _=>exact⟨rfl,L3 (fun b hb=>hfrm.lr b ⟨hb,by simp⟩) hfrm.grow hfrm.io⟩
 .have h1:(callFunc g #[.agg (vals x).toArray,.agg (vals y).toArray]).run P w=.ok (.value v) w:=h1;rw[henter]at h1;simp at h1
def ny{α:Type}(srt:Array α->Array α)(s:Sl α):Option (Sl α):=bif Nat.blt s.l.length 4611686018427387904 then some (s.to (srt s.l.toArray).toList)else none
def Ce{α:Type}(fn:List α->List α)(s:Sl α):Option (Sl α):=bif Nat.blt s.l.length 4611686018427387904 then some (s.to (fn s.l))else none
def zt(t:Ty)(g:FuncId)(srt:Array (El t)->Array (El t)):l8:=⟨[(true,.os t),(false,.fn g .ni)],[([],[.os t])],false,[true,false],fun p=>match p with|s=>ny srt s⟩
def vS(t:Ty)(srt:Array (El t)->Array (El t)):l8:=⟨[(true,.os t)],[([],[.os t])],false,[true],fun p=>match p with|s=>ny srt s⟩
def Af(t:Ty)(fn:List (El t)->List (El t)):l8:=⟨[(true,.os t)],[([.os t],[.gn])],false,[true],fun p=>match p with|s=>Ce fn s⟩
theorem Le{srt:Array (El t)->Array (El t)}(h:∀s:Sl (El t),s.l.length<4611686018427387904->qV P f [.mt (xD (bm t) (aM t) s),.d (.fn g [])] [] [xD (bm t) (aM t) (s.to (srt s.l.toArray).toList)]):dq P f (zt t g srt):=by refine⟨rfl,fun p r hr=>?_⟩;have hr:ny srt p=some r:=hr;obtain⟨hl,hr⟩:=aK hr;obtain rfl:=aa hr;exact h p (by simpa[gr]using hl)
theorem HU{srt:Array (El t)->Array (El t)}(h:∀s:Sl (El t),s.l.length<4611686018427387904->qV P f [.mt (xD (bm t) (aM t) s)] [] [xD (bm t) (aM t) (s.to (srt s.l.toArray).toList)]):dq P f (vS t srt):=by refine⟨rfl,fun p r hr=>?_⟩;have hr:ny srt p=some r:=hr;obtain⟨hl,hr⟩:=aK hr;obtain rfl:=aa hr;exact h p (by simpa[gr]using hl)
theorem OD{fn:List (El t)->List (El t)}(h:∀s:Sl (El t),s.l.length<4611686018427387904->qV P f [.mt (xD (bm t) (aM t) s)] [.c (xD (bm t) (aM t) (s.to (fn s.l)))] [.rD]):dq P f (Af t fn):=by refine⟨rfl,fun p r hr=>?_⟩;have hr:Ce fn p=some r:=hr;obtain⟨hl,hr⟩:=aK hr;obtain rfl:=aa hr;exact h p (by simpa[gr]using hl)
end
end Go.Ev
