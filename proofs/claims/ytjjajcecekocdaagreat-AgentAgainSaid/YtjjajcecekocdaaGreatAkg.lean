/- The keys of a map, in order: what Staged and Armed answer, as a law of the model. Conditions: a map of few entries. -/
import Derived.Test.YtjjajcecekocdaaGreatKm
import Derived.Test.YtjjajcecekocdaaGreatAk
open Array renaming getElem?_eq_getElem->mm,getElem?_eq_none->gP,getElem?_eq_some_iff->bk,getElem?_toList->bc
open List renaming ext_getElem?->ZM,getElem?_eq_getElem->aC,getElem?_eq_none_iff->ZI,getElem?_eq_some_iff->ap,getElem?_map->aQ,length_map->aM,mem_map->bB
open Nat renaming le_refl->am
open Option.some renaming inj->aa
open Go.Ev Go
noncomputable section
namespace Go.Proofs.YtjjajcecekocdaaGreat.A
def ZU{ν:Type}(m:Mp Int ν):Sl Int:=match m.es with|[]=>.nil|es=>.mk ((es.map (·.1)).mergeSort fun x y=>decide (x<=y))
def aan{ν:Type}(m:Mp Int ν):Prop:=m.es.length<=1000000/\(∀e∈m.es,e.2.2<m.bP/\-9223372036854775808<=e.1/\e.1<=9223372036854775807)/\(m.es.map (·.2.2)).Nodup/\(m.es.map (·.1)).Nodup
open Go.RowKit Go.Maps Go.Shelf in
theorem aab{fld f:Nat}(hen:∀(w:World)(args:Array Value),(callFunc f args).run Tryz.prog w=.ok (.enter f args) w)
  (hw:∀(B b nn:Nat)(D0:DataW Unit)(R:Value->Option (DataW Unit×List MemPlace))(w:World),w.cell? ⟨B,fld,none⟩=some (.map (some b))->w.ownsMap Tryz.prog 3 R b nn D0->Maps.size D0<=maxLen->Maps.size D0*8<=140737488355328->
   Calls Tryz.prog f #[.pointer (some ⟨B,0,none⟩)] w fun e w'=>∃(v:Value)(ss:List Int),e=.returned v/\ss.Perm (intKeys D0)/\
    w'.ownsRow w.heap.size 3 1 v ss.length ((ss.mergeSort (fun x y=>decide (x<=y))).map encZ)/\(v=.slice none 0 0<->ss=[])/\Below w.heap.size w w')
  {ν:Type} {ev:ν->List D} {va:Bool} {m:Mp Int ν} (hm:aan m) {ts:List T} (ht:ts[fld]?=some (.mp false va (m.es.map (B6 (fun x=>[.int .i64 x]) ev)) m.bP)):
  Go.Ev.yf Tryz.prog f [.mt (.pt ts)] [.c (.d (wL 1 (aS (.i .i64)) (ZU m)))] [.pt ts]:=by
 intro S W vs fp hS hra hnd hfp hG
 match vs,hra with
 |[v1],⟨f1,f2,hf,h1,hf2⟩=>
  have hf2:f2=[]:=hf2;subst hf2;rw[List.append_nil]at hf;subst hf;have h1:RT S W (.pt ts) v1 fp:=h1;have h1':=h1;cases h1 with
  |@pt _ B aK fps ho hlen hfl h=>
   have hfl':fld<ts.length:=(ap.1 ht).1;have hq:=h fld _ (fps[fld]'(by omega)) ht (aC _);have hcell:W.cell? ⟨B,fld,none⟩=some (aK.getD fld undef):=by rw[ho.cell,Array.getD_eq_getD_getElem?,mm (by omega)];rfl
   generalize hfv:aK.getD fld undef=fv at hq hcell;generalize hfp0:fps[fld]'(by omega)=fp0 at hq;cases hq with
   |@mp _ _ _ _ b ms hob hl hr=>
    obtain⟨n1,n2,n3,n4⟩:=hm;rw[aM]at hl;have hent:∀(i:Nat)(e:Int×ν×Nat),m.es[i]?=some e->∃x:MapEntry,ms[i]?=some x/\x.key=Value.int .i64 e.1/\x.born=e.2.2:=fun i e he=>by have hi:i<m.es.length:=(ap.1 he).1;have hx:ms[i]?=some (ms[i]'(by omega)):=mm _;obtain⟨⟨_,k1⟩,_,k2⟩:=hr i (B6 (fun x=>[.int .i64 x]) ev e) _ (by rw[aQ,he];rfl) hx;refine⟨_,hx,?_,k2⟩;simpa[B6]using k1.symm
    have hkeys:ms.toList.map (·.key)=(m.es.map (·.1)).map (Value.int .i64):=by
     apply ZM;intro i;rw[aQ,aQ,aQ,bc];cases he:m.es[i]?with
     |none=>have:m.es.length<=i:=ZI.1 he;rw[gP (by omega)];rfl
     |some e=>obtain⟨x,hx,hk,_⟩:=hent i e he;rw[hx];simp[hk]
    have hborn:ms.toList.map (·.born)=m.es.map (·.2.2):=by
     apply ZM;intro i;rw[aQ,aQ,bc];cases he:m.es[i]?with
     |none=>have:m.es.length<=i:=ZI.1 he;rw[gP (by omega)];rfl
     |some e=>obtain⟨x,hx,_,hb⟩:=hent i e he;rw[hx];simp[hb]
    have hkx:∀x∈ms.toList,∃a,x.key=.int .i64 a/\keyOf Tryz.prog 3 x.key=some (.int .i64 a):=fun x hx=>by have:x.key∈ms.toList.map (·.key):=bB.2 ⟨x,hx,rfl⟩;rw[hkeys]at this;obtain⟨a,ha,e⟩:=bB.1 this;obtain⟨en,hen',rfl⟩:=bB.1 ha;have:=n2 en hen';refine⟨en.1,e.symm,e▸keyOf_int_mk Tryz.underlying3 ?_⟩;simp only[Lit.wf,Bool.and_eq_true,decide_eq_true_eq];exact⟨this.2.1,this.2.2⟩
    let R:Value->Option (DataW Unit×List MemPlace):=fun _=>some (.nil,[])
    have hrg:∀x∈ms.toList,∀a,x.key=.int .i64 a->WideElems.rd Tryz.prog 3 R x=some (.int .i64 a,.nil):=fun x hx a ha=>by
     obtain⟨a',h1,h2⟩:=hkx x hx;obtain rfl:a'=a:=by rw[h1]at ha;simpa using ha
     simp[WideElems.rd,h2,R]
    have hfit:WideElems.Fit Tryz.prog 3 R ms m.bP:=by
     refine⟨?_,⟨fun x hx=>?_,?_,?_⟩,fun x hx=>?_⟩
     .have:ms.size<=1000000:=by omega
      simp only[maxLen];omega
     .have:x.born∈ms.toList.map (·.born):=bB.2 ⟨x,hx,rfl⟩;rw[hborn]at this;obtain⟨e,he,e2⟩:=bB.1 this;exact e2▸(n2 e he).1
     .rw [hborn];exact n3
     .rw [hkeys];exact List.Pairwise.map _ (fun a b hab e=>hab (by simpa using e)) n4
     .obtain ⟨a,h1,_⟩:=hkx x hx;exact⟨_,hrg x hx a h1⟩
    have hown:W.ownsMap Tryz.prog 3 R b ms.size (.map ((ms.toList.map (WideElems.rg Tryz.prog 3 R)).foldr DataW.insert [])):=⟨ms,m.bP,hob,hfit,am _,rfl⟩
    have hik:(intKeys (.map ((ms.toList.map (WideElems.rg Tryz.prog 3 R)).foldr DataW.insert []))).Perm (m.es.map (·.1)):=by
     have hp:=((WideShapes.sorted_perm (ms.toList.map (WideElems.rg Tryz.prog 3 R))).map fun(p:Lit×DataW Unit)=>Go.intOf p.1)
     refine hp.trans (.of_eq ?_);have:(m.es.map (·.1)).map (Value.int .i64)=ms.toList.map (·.key):=hkeys.symm;apply ZM;intro i;rw[aQ,aQ,aQ,bc];cases he:m.es[i]?with
     |none=>have:m.es.length<=i:=ZI.1 he;rw[gP (by omega)];rfl
     |some e=>
      obtain⟨x,hx,hk,_⟩:=hent i e he;have hxm:x∈ms.toList:=by have:=Array.mem_of_getElem? hx;simpa using this
      rw[hx];simp[WideElems.rg,hrg x hxm e.1 hk,Go.intOf]
    have hsz:Maps.size (.map ((ms.toList.map (WideElems.rg Tryz.prog 3 R)).foldr DataW.insert []))=ms.size:=by rw[Maps.size_eq,(WideShapes.sorted_perm _).length_eq,aM,Array.length_toList]
    have hcalls:=hw B b ms.size _ R W hcell hown (by rw[hsz];simp only[maxLen];omega) (by rw[hsz];omega);refine .inl ⟨f,_,hen W _,hcalls.mono fun e W'⟨v,ss,he,hp,hrow,hnil,hB⟩=>⟨_,he,?_⟩⟩;have hpk:=hp.trans hik;have hms:ss.mergeSort (fun x y=>decide (x<=y))=(m.es.map (·.1)).mergeSort fun x y=>decide (x<=y):=mergeSort_of_perm_i hpk;refine⟨fun c=>S c\/(W.heap.size<=c/\c<W'.heap.size),[_],[],B::fps.flatten,rfl,⟨fun _ h=>.inl h,fun c hc=>hB.block c (hS c hc)⟩,fun c hc=>hc.imp id fun h=>.inr h.1,fun c hc=>hc.elim (fun h=>Nat.lt_of_lt_of_le (hS c h) hB.size) (·.2),⟨[],[],rfl,.d ?_,rfl⟩,?_,by simpa using hnd,?_,?_⟩
    .unfold ZU;split
     .rename_i hes;rw[hes]at hpk;have:ss=[]:=by simpa using hpk
      rw[hnil.2 this];exact .lit rfl
     .rename_i hes;rw[hms]at hrow;obtain⟨hl1,hrow⟩:=hrow;have hne:ss≠[]:=fun e=>by rw[e]at hpk;have:=hpk.symm.eq_nil;exact hes (by simpa using this)
      rcases hrow with⟨e1,_⟩|⟨g,cap,cur,e1,hg,hcur,hcap,_,hcs,htk⟩
      .exact absurd (hnil.1 e1) hne
      .rw [e1];generalize hL:(m.es.map (·.1)).mergeSort (fun x y=>decide (x<=y))=L at htk hl1|-;have hlen2:ss.length=L.length:=by rw[<-hL,List.length_mergeSort];exact hpk.length_eq
       have hlt:g<W'.heap.size:=(bk.1 hcur).1
       have hc2:∀i,(hi:i<L.length)->W'.cell? ⟨g,0+i*1+0,none⟩=some (.int .i64 L[i]):=fun i hi=>by
        have:cur.toList[i]?=some (.int .i64 L[i]):=by
         have h3:(cur.toList.take (ss.length*1))[i]?=some (.int .i64 L[i]):=by rw[htk,aQ,aC hi];rfl
         rw[List.getElem?_take_of_lt (by omega)]at h3;exact h3
        simp only[World.cell?,hcur,Nat.zero_add,Nat.mul_one,Nat.add_zero];simpa using this
       have hgoal:=RD.sl (S:=fun c=>S c\/(W.heap.size<=c/\c<W'.heap.size)) (w:=W') (sz:=1) (rows:=L.map (aS (.i .i64))) (b:=g) (off:=0) (cap:=cap) (fun i _=>.int .i64 (L.getD i 0)) (.inr ⟨hg,hlt⟩) (by omega) (by rw[aM];omega)
        (fun i r hr=>by rw[aQ]at hr;cases hi:L[i]?with|none=>rw[hi]at hr;cases hr|some a=>rw[hi]at hr;obtain rfl:=aa hr;rfl)
        (fun i r hr j x hx=>by
         rw[aQ]at hr;cases hi:L[i]?with
         |none=>rw[hi]at hr;cases hr
         |some a=>
          rw[hi]at hr;obtain rfl:=aa hr;obtain⟨hi',ha⟩:=ap.1 hi;cases j with
          |zero=>rw[hc2 i hi'];simp[hi']
          |succ j=>simp[aS]at hx)
        (fun i r hr j x hx=>by
         rw[aQ]at hr;cases hi:L[i]?with
         |none=>rw[hi]at hr;cases hr
         |some a=>
          rw[hi]at hr;obtain rfl:=aa hr;cases j with
          |zero=>
           obtain rfl:D.lit (.int .i64 a)=x:=by simpa[aS]using hx
           have:L.getD i 0=a:=by rw[List.getD_eq_getElem?_getD,hi];rfl
           rw[this];exact .lit rfl
          |succ j=>simp[aS]at hx)
       rw[aM,<-hlen2]at hgoal;exact hgoal
    .exact ⟨_,[],by simp,.inr (h1'.mono ⟨fun _ h=>.inl h,fun c hc=>hB.block c (hS c hc)⟩ fun c hc=>hB.block c (h1'.lt c hc)),rfl⟩
    .intro c hc;have hc:c∈B::fps.flatten:=by simpa using hc
     exact⟨fun h=>h.elim (hfp c hc) fun h=>absurd (h1'.lt c hc) (by omega),.inl hc⟩
    .exact ⟨fun c hc=>hc.1,fun c hc=>hB.block c hc.1,hB.size,fun a ha=>hB.frozen ha,fun c aK h=>⟨aK,by obtain⟨t,h⟩:=h;exact⟨t,(hB.block c (bk.1 h).1).trans h⟩,rfl⟩,⟨hB.os,hB.output,hB.tape,am _⟩⟩
end Go.Proofs.YtjjajcecekocdaaGreat.A
