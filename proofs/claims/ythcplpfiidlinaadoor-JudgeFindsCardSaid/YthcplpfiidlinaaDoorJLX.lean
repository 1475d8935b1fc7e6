/- Plans: what the program's Make answers. Conditions: as stated. -/
import Derived.Test.YthcplpfiidlinaaDoorJLK
import Derived.Test.YthcplpfiidlinaaDoorJLQ
open List renaming getElem_append_left->mn
open Option renaming bind_some->af
open Go.Ev Go
namespace Go.Proofs.YthcplpfiidlinaaDoor.J
section
variable{t:ah}{old now:Sl (Sl Int)}
theorem I3:CJ (cm t old now):=B6
structure Ns(ms:List ae)(first gap:Int)(R:List aj):Prop where
 Nq:(R.map fun x=>x.1).Pairwise (·<·)
 A6:∀x,x∈(R.map fun x=>x.1)<->∃m∈ms,m.2.2.2=x
 P7:∀i,i<R.length->(gt R i).2.1=first+(i:Int)*gap
 RL:∀i,i<R.length->BE ms (gt R i).1 (gt R i).2.2.l
theorem CA{l:List Int}(h:l.Pairwise (·<·))(hb:∀x∈l,0<=x/\x<8):l.length<=8:=by
 have hnd:l.Nodup:=h.imp fun h e=>by omega
 have hsub:l⊆(List.range 8).map fun(i:Nat)=>(i:Int):=fun x hx=>by have:=hb x hx;exact List.mem_map.2 ⟨x.toNat,List.mem_range.2 (by omega),by omega⟩
 simpa using hnd.length_le_of_subset hsub
theorem Ns.len{first gap:Int}{R:List aj}(hN:gy t now)(h:Ns (cm t old now) first gap R):R.length<=8:=by
 have:=CA h.Nq fun x hx=>by obtain⟨m,hm,rfl⟩:=(h.A6 x).1 hx;have:=DR hN hm;omega
 simpa using this
def iY(t:ah)(at' miss lead:Int):Int:=at'+lead+miss+iA t+1
def mg(t:ah)(miss:Int):Int:=2*miss+iA t+1
def In(at' miss lead:Int):Prop:=(0<=at'/\at'<=1099511627776)/\(0<=miss/\miss<=1048576)/\(0<=lead/\lead<=1048576)
instance{a b c:Int}:Decidable (In a b c):=by unfold In;infer_instance
def tR:aK:=⟨Sl.nil,Sl.nil,0,0,0,0⟩
def xj(t:ah)(at' miss lead:Int)(n:Nat):Int:=iY t at' miss lead+((n-1:Nat):Int)*mg t miss+miss
theorem Gp(hV:lw t){at' miss lead:Int}(hI:In at' miss lead):0<mg t miss/\mg t miss<=1073741824:=by have:=tU hV;unfold mg;unfold In at hI;omega
theorem Mo(hV:lw t){at' miss lead:Int}(hI:In at' miss lead):0<=iY t at' miss lead/\iY t at' miss lead<=1100000000000:=by have:=tU hV;unfold iY;unfold In at hI;omega
theorem xM(hV:lw t){at' miss lead:Int}(hI:In at' miss lead){i:Nat}(hi:i<=8):0<=iY t at' miss lead+(i:Int)*mg t miss/\iY t at' miss lead+(i:Int)*mg t miss<=1200000000000:=by obtain⟨h1,h2⟩:=Gp hV hI;have h3:=Mo hV hI;have h4:=F0 h1 h2 hi (show 8<=64 by omega);omega
structure U7(t:ah)(old now:Sl (Sl Int))(at' miss lead:Int)(p:aK)(e:Int):Prop where
 none:cm t old now=[]->p=tR/\e=7
 Qj:cm t old now≠[]->∃(s:Sl ae)(R:Sl aj),s.l=cm t old now/\Ns (cm t old now) (iY t at' miss lead) (mg t miss) R.l/\0<R.l.length/\
  ((xj t at' miss lead R.l.length>1099511627776/\p=tR/\e=11)\/
   (xj t at' miss lead R.l.length<=1099511627776/\p=(s,R,miss,iA t,at'+lead+1,xj t at' miss lead R.l.length)/\e=0))
theorem Jd(hN:gy t now){at' miss lead:Int}(hI:In at' miss lead){s:Sl ae}(hs:s.l=cm t old now){L:Sl Int}(hL1:L.l.Pairwise (·<·))(hL2:∀x,x∈L.l<->∃m∈s.l,m.2.2.2=x)(hL3:L.l.length<=8):
  ∃R,bE (m7 at' miss lead s (iA t) L (.mk (mz L.l.length (mg t miss)))) (0,s,miss,iA t,0,0,Sl.nil)=some (s,miss,iA t,0,0,R)/\Ns (cm t old now) (iY t at' miss lead) (mg t miss) R.l/\R.l.length=L.l.length:=by
 have hV:=hN.1.sJ;have hlf:=tU hV;have hI2:=hI;unfold In at hI2;have hms:s.l.length<=1000:=by rw[hs];have:=B5 (old:=old) hN;omega
 have hsort:CJ s.l:=hs▸I3;have htl:(Sl.mk (mz L.l.length (mg t miss))).l.length=L.l.length:=by simp[mz]
 have w1:wr .i64 (wr .i64 (wr .i64 (wr .i64 (at'+lead)+miss)+iA t)+1)=iY t at' miss lead:=by unfold iY;rw[ii (n:=at'+lead) (by omega) (by omega),ii (n:=at'+lead+miss) (by omega) (by omega),ii (n:=at'+lead+miss+iA t) (by omega) (by omega),ii (by omega) (by omega)]
 have h:=Gt (f:=m7 at' miss lead s (iA t) L (.mk (mz L.l.length (mg t miss)))) (fun i(R:Sl aj)=>((i:Int),s,miss,iA t,(0:Int),(0:Int),R)) L.l.length
  (fun i R=>R.l.length=i/\(R.l.map fun x=>x.1)=L.l.take i/\(∀j,j<i->(gt R.l j).2.1=iY t at' miss lead+(j:Int)*mg t miss)/\∀j,j<i->BE s.l (gt R.l j).1 (gt R.l j).2.2.l)
  (fun b=>∃R,b=(s,miss,iA t,(0:Int),(0:Int),R)/\Ns (cm t old now) (iY t at' miss lead) (mg t miss) R.l/\R.l.length=L.l.length) (fun i R hi⟨i1,i2,i3,i4⟩=>by
   left;obtain⟨S,q1,q2⟩:=NJ hsort hms (gt L.l i);have l1:i<(Sl.mk (mz L.l.length (mg t miss))).l.length:=by rw[htl];exact hi
   have g1:gt (Sl.mk (mz L.l.length (mg t miss))).l i=(i:Int)*mg t miss:=by rw[Sl.iP,Kp hi]
   have ht:=xM hV hI (show i<=8 by omega);have w2:wr .i64 (iY t at' miss lead+(i:Int)*mg t miss)=iY t at' miss lead+(i:Int)*mg t miss:=ii (by omega) (by omega);refine⟨.mk (R.l++[(gt L.l i,iY t at' miss lead+(i:Int)*mg t miss,S)]),?_,by simp[i1],?_,fun j hj=>?_,fun j hj=>?_⟩
   .have hiL:=hi;rw[<-htl]at hi;simp only[m7,jw hi,cond_true,bq l1,bq hiL,af,q1,w1,g1,w2,k_ (show i<9223372036854775807 by omega)];rw[il (by rw[List.length_append,List.length_singleton];omega)];rfl
   .rw [Sl.iP,List.map_append,i2,cR hi];simp
   .rw [Sl.iP];by_cases he:j=i
    .subst he;rw[cR (by simp[i1]),List.getElem_append_right (by omega)];simp[i1]
    .rw [cR (by simp;omega),mn (by omega),<-cR (by omega)];exact i3 j (by omega)
   .rw [Sl.iP];by_cases he:j=i
    .subst he;rw[cR (by simp[i1]),List.getElem_append_right (by omega)];simpa[i1]using q2
    .rw [cR (by simp;omega),mn (by omega),<-cR (by omega)];exact i4 j (by omega))
  (fun R⟨i1,i2,i3,i4⟩=>by rw[List.take_length]at i2;refine⟨_,by simp only[m7,htl,kO,cond_false],R,rfl,⟨by rw[i2];exact hL1,fun x=>by rw[i2,hL2,hs],fun j hj=>i3 j (by omega),fun j hj=>hs▸i4 j (by omega)⟩,i1⟩) 0 .nil (Nat.zero_le _) ⟨rfl,by simp,fun j hj=>by omega,fun j hj=>by omega⟩
 obtain⟨b,h1,R,rfl,h2,h3⟩:=h;exact⟨R,h1,h2,h3⟩
theorem Gg{at' miss lead:Int}:((qe at' 1099511627776).bind fun r1=>bif !r1 then some true else((qe miss 1048576).bind fun r2=>bif !r2 then some true else((qe lead 1048576).bind fun r3=>some (!r3))):Option Bool)=some (decide (¬In at' miss lead)):=by
 have e:decide (¬In at' miss lead)=!((decide (at'>=0)&&decide (at'<=1099511627776))&&((decide (miss>=0)&&decide (miss<=1048576))&&(decide (lead>=0)&&decide (lead<=1048576)))):=by rw[Bool.eq_iff_iff,decide_eq_true_eq (p:=¬In at' miss lead)];simp only[Bool.not_eq_true',Bool.and_eq_false_iff,decide_eq_false_iff_not];unfold In;omega
 rw[e];simp only[qe,af];cases(decide (at'>=0)&&decide (at'<=1099511627776))<;>cases(decide (miss>=0)&&decide (miss<=1048576))<;>cases(decide (lead>=0)&&decide (lead<=1048576))<;>rfl
theorem Jc(hO:gy t old)(hN:gy t now){at' miss lead:Int}(hI:In at' miss lead):∃p e,kH t old now at' miss lead=some (p,e)/\U7 t old now at' miss lead p e:=by
 have hV:=hN.1.sJ;obtain⟨s,h1,h2⟩:=I5 hO hN;have h2:s.l=cm t old now:=h2;have hml:=B5 (old:=old) hN;have hnI:decide (¬In at' miss lead)=false:=decide_eq_false fun h=>h hI;by_cases hz:cm t old now=[]
 .refine ⟨tR,7,?_,fun _=>⟨rfl,rfl⟩,fun h=>absurd hz h⟩;have hl:((s.l.length:Int)==0)=true:=by rw[h2,hz];rfl
  unfold kH;rw[Gg,hnI];simp only[af,cond_false,h1,bne_self_eq_false,hl,cond_true];rfl
 .have hl:((s.l.length:Int)==0)=false:=by have:0<(cm t old now).length:=List.length_pos_iff.2 hz;rw[h2,beq_eq_false_iff_ne];omega
  obtain⟨L,h3,h4,h5⟩:=La (l:=s) (by rw[h2];omega);have hL3:L.l.length<=8:=CA h4 fun x hx=>by obtain⟨m,hm,rfl⟩:=(h5 x).1 hx;have:=DR hN (h2▸hm);omega
  have hLpos:0<L.l.length:=by
   have hm:(cm t old now).head hz∈s.l:=by rw[h2];exact List.head_mem hz
   exact List.length_pos_iff.2 (List.ne_nil_of_mem ((h5 _).2 ⟨_,hm,rfl⟩))
  obtain⟨g1,g2⟩:=Gp hV hI;obtain⟨R,h6,h7,h8⟩:=Jd hN hI h2 h4 h5 hL3
  have ht:pC (L.l.length:Int) (mg t miss)=some (.mk (mz L.l.length (mg t miss))):=by
   obtain⟨n,hn⟩:∃n,L.l.length=n+1:=⟨L.l.length-1,by omega⟩
   rw[hn];exact MA (by omega) g1 g2
  have hI2:=hI;unfold In at hI2;have hgap:=HJ hV hI2.2.1.1 hI2.2.1.2;have hw1:wr .i64 ((R.l.length:Int)-1)=((R.l.length-1:Nat):Int):=by rw[ii (by omega) (by omega)];omega
  have hlast:=h7.P7 (R.l.length-1) (by omega);have htl:=xM hV hI (show R.l.length-1<=8 by omega);have hlf:=tU hV;have hw2:wr .i64 ((gt R.l (R.l.length-1)).2.1+miss)=xj t at' miss lead R.l.length:=by rw[hlast,ii (by omega) (by omega)];rfl
  have w1:wr .i64 (wr .i64 (wr .i64 (wr .i64 (at'+lead)+miss)+iA t)+1)=iY t at' miss lead:=by unfold iY;rw[ii (n:=at'+lead) (by omega) (by omega),ii (n:=at'+lead+miss) (by omega) (by omega),ii (n:=at'+lead+miss+iA t) (by omega) (by omega),ii (by omega) (by omega)]
  have w2:wr .i64 (wr .i64 (iY t at' miss lead-miss)-iA t)=at'+lead+1:=by have hf:iY t at' miss lead=at'+lead+miss+iA t+1:=rfl;rw[ii (n:=iY t at' miss lead-miss) (by omega) (by omega),ii (by omega) (by omega)];omega
  have hrun:kH t old now at' miss lead=some (bif decide (xj t at' miss lead R.l.length>1099511627776)then(tR,11)else((s,R,miss,iA t,at'+lead+1,xj t at' miss lead R.l.length),0)):=by unfold kH;rw[Gg,hnI];simp only[af,cond_false,h1,bne_self_eq_false,hl,D2 hV,h3,hgap];rw[show 2*miss+iA t+1=mg t miss from rfl,ht];simp only[af,h6,hw1,bq (show R.l.length-1<R.l.length by omega),hw2,w1,w2];cases decide (xj t at' miss lead R.l.length>1099511627776)<;>rfl
  by_cases ho:xj t at' miss lead R.l.length>1099511627776
  .rw [decide_eq_true ho]at hrun;exact⟨_,_,hrun,fun h=>absurd h hz,fun _=>⟨s,R,h2,h7,by omega,.inl ⟨ho,rfl,rfl⟩⟩⟩
  .rw [decide_eq_false ho]at hrun;exact⟨_,_,hrun,fun h=>absurd h hz,fun _=>⟨s,R,h2,h7,by omega,.inr ⟨by omega,rfl,rfl⟩⟩⟩
theorem Lt(hS1:ml t old)(hS2:ml t now){at' miss lead:Int}(h:¬(In at' miss lead/\gy t old/\gy t now)):kH t old now at' miss lead=some (tR,2):=by
 unfold kH;rw[Gg];by_cases hI:In at' miss lead
 .rw [decide_eq_false (fun h=>h hI)];have hm:=I6 hS1 hS2 fun hG=>h ⟨hI,hG⟩;simp only[af,cond_false,hm];rfl
 .rw [decide_eq_true hI];rfl
end
end Go.Proofs.YthcplpfiidlinaaDoor.J
