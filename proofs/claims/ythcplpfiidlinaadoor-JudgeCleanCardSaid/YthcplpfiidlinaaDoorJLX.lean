/- Plans: what the program's Make answers. Conditions: as stated. -/
import Derived.Test.YthcplpfiidlinaaDoorJLK
import Derived.Test.YthcplpfiidlinaaDoorJLQ
open Go.Ev Go
open List renaming getElem_append_left->mi
open Option renaming bind_some->af
namespace Go.Proofs.YthcplpfiidlinaaDoor.J
section
variable{t:ah}{old now:Sl (Sl Int)}
theorem IT:Cw (cm t old now):=BY
structure Nj(ms:List ae)(first gap:Int)(R:List aj):Prop where
 Nh:(R.map fun x=>x.1).Pairwise (·<·)
 AX:∀x,x∈(R.map fun x=>x.1)<->∃m∈ms,m.2.2.2=x
 PV:∀i,i<R.length->(gt R i).2.1=first+(i:Int)*gap
 Rv:∀i,i<R.length->Bv ms (gt R i).1 (gt R i).2.2.l
theorem Cp{l:List Int}(h:l.Pairwise (·<·))(hb:∀x∈l,0<=x/\x<8):l.length<=8:=by
 have hnd:l.Nodup:=h.imp fun h e=>by omega
 have hsub:l⊆(List.range 8).map fun(i:Nat)=>(i:Int):=fun x hx=>by have:=hb x hx;exact List.mem_map.2 ⟨x.toNat,List.mem_range.2 (by omega),by omega⟩
 simpa using hnd.length_le_of_subset hsub
theorem Nj.len{first gap:Int}{R:List aj}(hN:gx t now)(h:Nj (cm t old now) first gap R):R.length<=8:=by
 have:=Cp h.Nh fun x hx=>by obtain⟨m,hm,rfl⟩:=(h.AX x).1 hx;have:=DD hN hm;omega
 simpa using this
def iY(t:ah)(at' miss lead:Int):Int:=at'+lead+miss+iw t+1
def ma(t:ah)(miss:Int):Int:=2*miss+iw t+1
def In(at' miss lead:Int):Prop:=(0<=at'/\at'<=1099511627776)/\(0<=miss/\miss<=1048576)/\(0<=lead/\lead<=1048576)
instance{a b c:Int}:Decidable (In a b c):=by unfold In;infer_instance
def tH:aJ:=⟨Sl.nil,Sl.nil,0,0,0,0⟩
def w9(t:ah)(at' miss lead:Int)(n:Nat):Int:=iY t at' miss lead+((n-1:Nat):Int)*ma t miss+miss
theorem Gb(hV:lr t){at' miss lead:Int}(hI:In at' miss lead):0<ma t miss/\ma t miss<=1073741824:=by have:=tK hV;unfold ma;unfold In at hI;omega
theorem Me(hV:lr t){at' miss lead:Int}(hI:In at' miss lead):0<=iY t at' miss lead/\iY t at' miss lead<=1100000000000:=by have:=tK hV;unfold iY;unfold In at hI;omega
theorem xD(hV:lr t){at' miss lead:Int}(hI:In at' miss lead){i:Nat}(hi:i<=8):0<=iY t at' miss lead+(i:Int)*ma t miss/\iY t at' miss lead+(i:Int)*ma t miss<=1200000000000:=by obtain⟨h1,h2⟩:=Gb hV hI;have h3:=Me hV hI;have h4:=FN h1 h2 hi (show 8<=64 by omega);omega
structure UX(t:ah)(old now:Sl (Sl Int))(at' miss lead:Int)(p:aJ)(e:Int):Prop where
 none:cm t old now=[]->p=tH/\e=7
 P8:cm t old now≠[]->∃(s:Sl ae)(R:Sl aj),s.l=cm t old now/\Nj (cm t old now) (iY t at' miss lead) (ma t miss) R.l/\0<R.l.length/\
  ((w9 t at' miss lead R.l.length>1099511627776/\p=tH/\e=11)\/
   (w9 t at' miss lead R.l.length<=1099511627776/\p=(s,R,miss,iw t,at'+lead+1,w9 t at' miss lead R.l.length)/\e=0))
theorem I4(hN:gx t now){at' miss lead:Int}(hI:In at' miss lead){s:Sl ae}(hs:s.l=cm t old now){L:Sl Int}(hL1:L.l.Pairwise (·<·))(hL2:∀x,x∈L.l<->∃m∈s.l,m.2.2.2=x)(hL3:L.l.length<=8):
  ∃R,bD (mW at' miss lead s (iw t) L (.mk (mr L.l.length (ma t miss)))) (0,s,miss,iw t,0,0,Sl.nil)=some (s,miss,iw t,0,0,R)/\Nj (cm t old now) (iY t at' miss lead) (ma t miss) R.l/\R.l.length=L.l.length:=by
 have hV:=hN.1.sy;have hlf:=tK hV;have hI2:=hI;unfold In at hI2;have hms:s.l.length<=1000:=by rw[hs];have:=BX (old:=old) hN;omega
 have hsort:Cw s.l:=hs▸IT;have htl:(Sl.mk (mr L.l.length (ma t miss))).l.length=L.l.length:=by simp[mr]
 have w1:wr .i64 (wr .i64 (wr .i64 (wr .i64 (at'+lead)+miss)+iw t)+1)=iY t at' miss lead:=by unfold iY;rw[ig (n:=at'+lead) (by omega) (by omega),ig (n:=at'+lead+miss) (by omega) (by omega),ig (n:=at'+lead+miss+iw t) (by omega) (by omega),ig (by omega) (by omega)]
 have h:=Gd (f:=mW at' miss lead s (iw t) L (.mk (mr L.l.length (ma t miss)))) (fun i(R:Sl aj)=>((i:Int),s,miss,iw t,(0:Int),(0:Int),R)) L.l.length
  (fun i R=>R.l.length=i/\(R.l.map fun x=>x.1)=L.l.take i/\(∀j,j<i->(gt R.l j).2.1=iY t at' miss lead+(j:Int)*ma t miss)/\∀j,j<i->Bv s.l (gt R.l j).1 (gt R.l j).2.2.l)
  (fun b=>∃R,b=(s,miss,iw t,(0:Int),(0:Int),R)/\Nj (cm t old now) (iY t at' miss lead) (ma t miss) R.l/\R.l.length=L.l.length) (fun i R hi⟨i1,i2,i3,i4⟩=>by
   left;obtain⟨S,q1,q2⟩:=Ny hsort hms (gt L.l i);have l1:i<(Sl.mk (mr L.l.length (ma t miss))).l.length:=by rw[htl];exact hi
   have g1:gt (Sl.mk (mr L.l.length (ma t miss))).l i=(i:Int)*ma t miss:=by rw[Sl.iO,Ke hi]
   have ht:=xD hV hI (show i<=8 by omega);have w2:wr .i64 (iY t at' miss lead+(i:Int)*ma t miss)=iY t at' miss lead+(i:Int)*ma t miss:=ig (by omega) (by omega);refine⟨.mk (R.l++[(gt L.l i,iY t at' miss lead+(i:Int)*ma t miss,S)]),?_,by simp[i1],?_,fun j hj=>?_,fun j hj=>?_⟩
   .have hiL:=hi;rw[<-htl]at hi;simp only[mW,jt hi,cond_true,bq l1,bq hiL,af,q1,w1,g1,w2,k9 (show i<9223372036854775807 by omega)];rw[ik (by rw[List.length_append,List.length_singleton];omega)];rfl
   .rw [Sl.iO,List.map_append,i2,cR hi];simp
   .rw [Sl.iO];by_cases he:j=i
    .subst he;rw[cR (by simp[i1]),List.getElem_append_right (by omega)];simp[i1]
    .rw [cR (by simp;omega),mi (by omega),<-cR (by omega)];exact i3 j (by omega)
   .rw [Sl.iO];by_cases he:j=i
    .subst he;rw[cR (by simp[i1]),List.getElem_append_right (by omega)];simpa[i1]using q2
    .rw [cR (by simp;omega),mi (by omega),<-cR (by omega)];exact i4 j (by omega))
  (fun R⟨i1,i2,i3,i4⟩=>by rw[List.take_length]at i2;refine⟨_,by simp only[mW,htl,kK,cond_false],R,rfl,⟨by rw[i2];exact hL1,fun x=>by rw[i2,hL2,hs],fun j hj=>i3 j (by omega),fun j hj=>hs▸i4 j (by omega)⟩,i1⟩) 0 .nil (Nat.zero_le _) ⟨rfl,by simp,fun j hj=>by omega,fun j hj=>by omega⟩
 obtain⟨b,h1,R,rfl,h2,h3⟩:=h;exact⟨R,h1,h2,h3⟩
theorem F4{at' miss lead:Int}:((p8 at' 1099511627776).bind fun r1=>bif !r1 then some true else((p8 miss 1048576).bind fun r2=>bif !r2 then some true else((p8 lead 1048576).bind fun r3=>some (!r3))):Option Bool)=some (decide (¬In at' miss lead)):=by
 have e:decide (¬In at' miss lead)=!((decide (at'>=0)&&decide (at'<=1099511627776))&&((decide (miss>=0)&&decide (miss<=1048576))&&(decide (lead>=0)&&decide (lead<=1048576)))):=by rw[Bool.eq_iff_iff,decide_eq_true_eq (p:=¬In at' miss lead)];simp only[Bool.not_eq_true',Bool.and_eq_false_iff,decide_eq_false_iff_not];unfold In;omega
 rw[e];simp only[p8,af];cases(decide (at'>=0)&&decide (at'<=1099511627776))<;>cases(decide (miss>=0)&&decide (miss<=1048576))<;>cases(decide (lead>=0)&&decide (lead<=1048576))<;>rfl
theorem I3(hO:gx t old)(hN:gx t now){at' miss lead:Int}(hI:In at' miss lead):∃p e,kE t old now at' miss lead=some (p,e)/\UX t old now at' miss lead p e:=by
 have hV:=hN.1.sy;obtain⟨s,h1,h2⟩:=IV hO hN;have h2:s.l=cm t old now:=h2;have hml:=BX (old:=old) hN;have hnI:decide (¬In at' miss lead)=false:=decide_eq_false fun h=>h hI;by_cases hz:cm t old now=[]
 .refine ⟨tH,7,?_,fun _=>⟨rfl,rfl⟩,fun h=>absurd hz h⟩;have hl:((s.l.length:Int)==0)=true:=by rw[h2,hz];rfl
  unfold kE;rw[F4,hnI];simp only[af,cond_false,h1,bne_self_eq_false,hl,cond_true];rfl
 .have hl:((s.l.length:Int)==0)=false:=by have:0<(cm t old now).length:=List.length_pos_iff.2 hz;rw[h2,beq_eq_false_iff_ne];omega
  obtain⟨L,h3,h4,h5⟩:=K1 (l:=s) (by rw[h2];omega);have hL3:L.l.length<=8:=Cp h4 fun x hx=>by obtain⟨m,hm,rfl⟩:=(h5 x).1 hx;have:=DD hN (h2▸hm);omega
  have hLpos:0<L.l.length:=by
   have hm:(cm t old now).head hz∈s.l:=by rw[h2];exact List.head_mem hz
   exact List.length_pos_iff.2 (List.ne_nil_of_mem ((h5 _).2 ⟨_,hm,rfl⟩))
  obtain⟨g1,g2⟩:=Gb hV hI;obtain⟨R,h6,h7,h8⟩:=I4 hN hI h2 h4 h5 hL3
  have ht:py (L.l.length:Int) (ma t miss)=some (.mk (mr L.l.length (ma t miss))):=by
   obtain⟨n,hn⟩:∃n,L.l.length=n+1:=⟨L.l.length-1,by omega⟩
   rw[hn];exact Mr (by omega) g1 g2
  have hI2:=hI;unfold In at hI2;have hgap:=Hy hV hI2.2.1.1 hI2.2.1.2;have hw1:wr .i64 ((R.l.length:Int)-1)=((R.l.length-1:Nat):Int):=by rw[ig (by omega) (by omega)];omega
  have hlast:=h7.PV (R.l.length-1) (by omega);have htl:=xD hV hI (show R.l.length-1<=8 by omega);have hlf:=tK hV;have hw2:wr .i64 ((gt R.l (R.l.length-1)).2.1+miss)=w9 t at' miss lead R.l.length:=by rw[hlast,ig (by omega) (by omega)];rfl
  have w1:wr .i64 (wr .i64 (wr .i64 (wr .i64 (at'+lead)+miss)+iw t)+1)=iY t at' miss lead:=by unfold iY;rw[ig (n:=at'+lead) (by omega) (by omega),ig (n:=at'+lead+miss) (by omega) (by omega),ig (n:=at'+lead+miss+iw t) (by omega) (by omega),ig (by omega) (by omega)]
  have w2:wr .i64 (wr .i64 (iY t at' miss lead-miss)-iw t)=at'+lead+1:=by have hf:iY t at' miss lead=at'+lead+miss+iw t+1:=rfl;rw[ig (n:=iY t at' miss lead-miss) (by omega) (by omega),ig (by omega) (by omega)];omega
  have hrun:kE t old now at' miss lead=some (bif decide (w9 t at' miss lead R.l.length>1099511627776)then(tH,11)else((s,R,miss,iw t,at'+lead+1,w9 t at' miss lead R.l.length),0)):=by unfold kE;rw[F4,hnI];simp only[af,cond_false,h1,bne_self_eq_false,hl,DO hV,h3,hgap];rw[show 2*miss+iw t+1=ma t miss from rfl,ht];simp only[af,h6,hw1,bq (show R.l.length-1<R.l.length by omega),hw2,w1,w2];cases decide (w9 t at' miss lead R.l.length>1099511627776)<;>rfl
  by_cases ho:w9 t at' miss lead R.l.length>1099511627776
  .rw [decide_eq_true ho]at hrun;exact⟨_,_,hrun,fun h=>absurd h hz,fun _=>⟨s,R,h2,h7,by omega,.inl ⟨ho,rfl,rfl⟩⟩⟩
  .rw [decide_eq_false ho]at hrun;exact⟨_,_,hrun,fun h=>absurd h hz,fun _=>⟨s,R,h2,h7,by omega,.inr ⟨by omega,rfl,rfl⟩⟩⟩
theorem Lj(hS1:mg t old)(hS2:mg t now){at' miss lead:Int}(h:¬(In at' miss lead/\gx t old/\gx t now)):kE t old now at' miss lead=some (tH,2):=by
 unfold kE;rw[F4];by_cases hI:In at' miss lead
 .rw [decide_eq_false (fun h=>h hI)];have hm:=IW hS1 hS2 fun hG=>h ⟨hI,hG⟩;simp only[af,cond_false,hm];rfl
 .rw [decide_eq_true hI];rfl
end
end Go.Proofs.YthcplpfiidlinaaDoor.J
