/- Plans: what the program's Make answers. Conditions: as stated. -/
import Derived.Test.YthcplpfiidlinaaDoorJLK
import Derived.Test.YthcplpfiidlinaaDoorJLQ
open Go.Ev Go
open List renaming getElem_append_left->md
open Option renaming bind_some->af
namespace Go.Proofs.YthcplpfiidlinaaDoor.J
section
variable{t:ah}{old now:Sl (Sl Int)}
theorem IM:Cm (ck t old now):=BN
structure Nf(ms:List ae)(first gap:Int)(R:List aj):Prop where
 Nd:(R.map fun x=>x.1).Pairwise (·<·)
 AM:∀x,x∈(R.map fun x=>x.1)<->∃m∈ms,m.2.2.2=x
 PT:∀i,i<R.length->(gt R i).2.1=first+(i:Int)*gap
 Rr:∀i,i<R.length->Bl ms (gt R i).1 (gt R i).2.2.l
theorem Cf{l:List Int}(h:l.Pairwise (·<·))(hb:∀x∈l,0<=x/\x<8):l.length<=8:=by
 have hnd:l.Nodup:=h.imp fun h e=>by omega
 have hsub:l⊆(List.range 8).map fun(i:Nat)=>(i:Int):=fun x hx=>by have:=hb x hx;exact List.mem_map.2 ⟨x.toNat,List.mem_range.2 (by omega),by omega⟩
 simpa using hnd.length_le_of_subset hsub
theorem Nf.len{first gap:Int}{R:List aj}(hN:gx t now)(h:Nf (ck t old now) first gap R):R.length<=8:=by
 have:=Cf h.Nd fun x hx=>by obtain⟨m,hm,rfl⟩:=(h.AM x).1 hx;have:=Dx hN hm;omega
 simpa using this
def iX(t:ah)(at' miss lead:Int):Int:=at'+lead+miss+iU t+1
def lZ(t:ah)(miss:Int):Int:=2*miss+iU t+1
def In(at' miss lead:Int):Prop:=(0<=at'/\at'<=1099511627776)/\(0<=miss/\miss<=1048576)/\(0<=lead/\lead<=1048576)
instance{a b c:Int}:Decidable (In a b c):=by unfold In;infer_instance
def tC:aJ:=⟨Sl.nil,Sl.nil,0,0,0,0⟩
def wW(t:ah)(at' miss lead:Int)(n:Nat):Int:=iX t at' miss lead+((n-1:Nat):Int)*lZ t miss+miss
theorem F8(hV:lk t){at' miss lead:Int}(hI:In at' miss lead):0<lZ t miss/\lZ t miss<=1073741824:=by have:=tE hV;unfold lZ;unfold In at hI;omega
theorem Mb(hV:lk t){at' miss lead:Int}(hI:In at' miss lead):0<=iX t at' miss lead/\iX t at' miss lead<=1100000000000:=by have:=tE hV;unfold iX;unfold In at hI;omega
theorem xw(hV:lk t){at' miss lead:Int}(hI:In at' miss lead){i:Nat}(hi:i<=8):0<=iX t at' miss lead+(i:Int)*lZ t miss/\iX t at' miss lead+(i:Int)*lZ t miss<=1200000000000:=by obtain⟨h1,h2⟩:=F8 hV hI;have h3:=Mb hV hI;have h4:=FI h1 h2 hi (show 8<=64 by omega);omega
structure US(t:ah)(old now:Sl (Sl Int))(at' miss lead:Int)(p:aJ)(e:Int):Prop where
 none:ck t old now=[]->p=tC/\e=7
 P6:ck t old now≠[]->∃(s:Sl ae)(R:Sl aj),s.l=ck t old now/\Nf (ck t old now) (iX t at' miss lead) (lZ t miss) R.l/\0<R.l.length/\
  ((wW t at' miss lead R.l.length>1099511627776/\p=tC/\e=11)\/
   (wW t at' miss lead R.l.length<=1099511627776/\p=(s,R,miss,iU t,at'+lead+1,wW t at' miss lead R.l.length)/\e=0))
theorem IZ(hN:gx t now){at' miss lead:Int}(hI:In at' miss lead){s:Sl ae}(hs:s.l=ck t old now){L:Sl Int}(hL1:L.l.Pairwise (·<·))(hL2:∀x,x∈L.l<->∃m∈s.l,m.2.2.2=x)(hL3:L.l.length<=8):
  ∃R,bD (mS at' miss lead s (iU t) L (.mk (mm L.l.length (lZ t miss)))) (0,s,miss,iU t,0,0,Sl.nil)=some (s,miss,iU t,0,0,R)/\Nf (ck t old now) (iX t at' miss lead) (lZ t miss) R.l/\R.l.length=L.l.length:=by
 have hV:=hN.1.tR;have hlf:=tE hV;have hI2:=hI;unfold In at hI2;have hms:s.l.length<=1000:=by rw[hs];have:=FJ (old:=old) hN;omega
 have hsort:Cm s.l:=hs▸IM;have htl:(Sl.mk (mm L.l.length (lZ t miss))).l.length=L.l.length:=by simp[mm]
 have w1:wr .i64 (wr .i64 (wr .i64 (wr .i64 (at'+lead)+miss)+iU t)+1)=iX t at' miss lead:=by unfold iX;rw[ie (n:=at'+lead) (by omega) (by omega),ie (n:=at'+lead+miss) (by omega) (by omega),ie (n:=at'+lead+miss+iU t) (by omega) (by omega),ie (by omega) (by omega)]
 have h:=F_ (f:=mS at' miss lead s (iU t) L (.mk (mm L.l.length (lZ t miss)))) (fun i(R:Sl aj)=>((i:Int),s,miss,iU t,(0:Int),(0:Int),R)) L.l.length
  (fun i R=>R.l.length=i/\(R.l.map fun x=>x.1)=L.l.take i/\(∀j,j<i->(gt R.l j).2.1=iX t at' miss lead+(j:Int)*lZ t miss)/\∀j,j<i->Bl s.l (gt R.l j).1 (gt R.l j).2.2.l)
  (fun b=>∃R,b=(s,miss,iU t,(0:Int),(0:Int),R)/\Nf (ck t old now) (iX t at' miss lead) (lZ t miss) R.l/\R.l.length=L.l.length) (fun i R hi⟨i1,i2,i3,i4⟩=>by
   left;obtain⟨S,q1,q2⟩:=Nt hsort hms (gt L.l i);have l1:i<(Sl.mk (mm L.l.length (lZ t miss))).l.length:=by rw[htl];exact hi
   have g1:gt (Sl.mk (mm L.l.length (lZ t miss))).l i=(i:Int)*lZ t miss:=by rw[Sl.iM,J_ hi]
   have ht:=xw hV hI (show i<=8 by omega);have w2:wr .i64 (iX t at' miss lead+(i:Int)*lZ t miss)=iX t at' miss lead+(i:Int)*lZ t miss:=ie (by omega) (by omega);refine⟨.mk (R.l++[(gt L.l i,iX t at' miss lead+(i:Int)*lZ t miss,S)]),?_,by simp[i1],?_,fun j hj=>?_,fun j hj=>?_⟩
   .have hiL:=hi;rw[<-htl]at hi;simp only[mS,js hi,cond_true,bp l1,bp hiL,af,q1,w1,g1,w2,kY (show i<9223372036854775807 by omega)];rw[ij (by rw[List.length_append,List.length_singleton];omega)];rfl
   .rw [Sl.iM,List.map_append,i2,cP hi];simp
   .rw [Sl.iM];by_cases he:j=i
    .subst he;rw[cP (by simp[i1]),List.getElem_append_right (by omega)];simp[i1]
    .rw [cP (by simp;omega),md (by omega),<-cP (by omega)];exact i3 j (by omega)
   .rw [Sl.iM];by_cases he:j=i
    .subst he;rw[cP (by simp[i1]),List.getElem_append_right (by omega)];simpa[i1]using q2
    .rw [cP (by simp;omega),md (by omega),<-cP (by omega)];exact i4 j (by omega))
  (fun R⟨i1,i2,i3,i4⟩=>by rw[List.take_length]at i2;refine⟨_,by simp only[mS,htl,kH,cond_false],R,rfl,⟨by rw[i2];exact hL1,fun x=>by rw[i2,hL2,hs],fun j hj=>i3 j (by omega),fun j hj=>hs▸i4 j (by omega)⟩,i1⟩) 0 .nil (Nat.zero_le _) ⟨rfl,by simp,fun j hj=>by omega,fun j hj=>by omega⟩
 obtain⟨b,h1,R,rfl,h2,h3⟩:=h;exact⟨R,h1,h2,h3⟩
theorem FZ{at' miss lead:Int}:((pY at' 1099511627776).bind fun r1=>bif !r1 then some true else((pY miss 1048576).bind fun r2=>bif !r2 then some true else((pY lead 1048576).bind fun r3=>some (!r3))):Option Bool)=some (decide (¬In at' miss lead)):=by
 have e:decide (¬In at' miss lead)=!((decide (at'>=0)&&decide (at'<=1099511627776))&&((decide (miss>=0)&&decide (miss<=1048576))&&(decide (lead>=0)&&decide (lead<=1048576)))):=by rw[Bool.eq_iff_iff,decide_eq_true_eq (p:=¬In at' miss lead)];simp only[Bool.not_eq_true',Bool.and_eq_false_iff,decide_eq_false_iff_not];unfold In;omega
 rw[e];simp only[pY,af];cases(decide (at'>=0)&&decide (at'<=1099511627776))<;>cases(decide (miss>=0)&&decide (miss<=1048576))<;>cases(decide (lead>=0)&&decide (lead<=1048576))<;>rfl
theorem IY(hO:gx t old)(hN:gx t now){at' miss lead:Int}(hI:In at' miss lead):∃p e,lx t old now at' miss lead=some (p,e)/\US t old now at' miss lead p e:=by
 have hV:=hN.1.tR;obtain⟨s,h1,h2⟩:=IP hO hN;have h2:s.l=ck t old now:=h2;have hml:=FJ (old:=old) hN;have hnI:decide (¬In at' miss lead)=false:=decide_eq_false fun h=>h hI;by_cases hz:ck t old now=[]
 .refine ⟨tC,7,?_,fun _=>⟨rfl,rfl⟩,fun h=>absurd hz h⟩;have hl:((s.l.length:Int)==0)=true:=by rw[h2,hz];rfl
  unfold lx;rw[FZ,hnI];simp only[af,cond_false,h1,bne_self_eq_false,hl,cond_true];rfl
 .have hl:((s.l.length:Int)==0)=false:=by have:0<(ck t old now).length:=List.length_pos_iff.2 hz;rw[h2,beq_eq_false_iff_ne];omega
  obtain⟨L,h3,h4,h5⟩:=KX (l:=s) (by rw[h2];omega);have hL3:L.l.length<=8:=Cf h4 fun x hx=>by obtain⟨m,hm,rfl⟩:=(h5 x).1 hx;have:=Dx hN (h2▸hm);omega
  have hLpos:0<L.l.length:=by
   have hm:(ck t old now).head hz∈s.l:=by rw[h2];exact List.head_mem hz
   exact List.length_pos_iff.2 (List.ne_nil_of_mem ((h5 _).2 ⟨_,hm,rfl⟩))
  obtain⟨g1,g2⟩:=F8 hV hI;obtain⟨R,h6,h7,h8⟩:=IZ hN hI h2 h4 h5 hL3
  have ht:pu (L.l.length:Int) (lZ t miss)=some (.mk (mm L.l.length (lZ t miss))):=by
   obtain⟨n,hn⟩:∃n,L.l.length=n+1:=⟨L.l.length-1,by omega⟩
   rw[hn];exact Mn (by omega) g1 g2
  have hI2:=hI;unfold In at hI2;have hgap:=Hs hV hI2.2.1.1 hI2.2.1.2;have hw1:wr .i64 ((R.l.length:Int)-1)=((R.l.length-1:Nat):Int):=by rw[ie (by omega) (by omega)];omega
  have hlast:=h7.PT (R.l.length-1) (by omega);have htl:=xw hV hI (show R.l.length-1<=8 by omega);have hlf:=tE hV;have hw2:wr .i64 ((gt R.l (R.l.length-1)).2.1+miss)=wW t at' miss lead R.l.length:=by rw[hlast,ie (by omega) (by omega)];rfl
  have w1:wr .i64 (wr .i64 (wr .i64 (wr .i64 (at'+lead)+miss)+iU t)+1)=iX t at' miss lead:=by unfold iX;rw[ie (n:=at'+lead) (by omega) (by omega),ie (n:=at'+lead+miss) (by omega) (by omega),ie (n:=at'+lead+miss+iU t) (by omega) (by omega),ie (by omega) (by omega)]
  have w2:wr .i64 (wr .i64 (iX t at' miss lead-miss)-iU t)=at'+lead+1:=by have hf:iX t at' miss lead=at'+lead+miss+iU t+1:=rfl;rw[ie (n:=iX t at' miss lead-miss) (by omega) (by omega),ie (by omega) (by omega)];omega
  have hrun:lx t old now at' miss lead=some (bif decide (wW t at' miss lead R.l.length>1099511627776)then(tC,11)else((s,R,miss,iU t,at'+lead+1,wW t at' miss lead R.l.length),0)):=by unfold lx;rw[FZ,hnI];simp only[af,cond_false,h1,bne_self_eq_false,hl,DI hV,h3,hgap];rw[show 2*miss+iU t+1=lZ t miss from rfl,ht];simp only[af,h6,hw1,bp (show R.l.length-1<R.l.length by omega),hw2,w1,w2];cases decide (wW t at' miss lead R.l.length>1099511627776)<;>rfl
  by_cases ho:wW t at' miss lead R.l.length>1099511627776
  .rw [decide_eq_true ho]at hrun;exact⟨_,_,hrun,fun h=>absurd h hz,fun _=>⟨s,R,h2,h7,by omega,.inl ⟨ho,rfl,rfl⟩⟩⟩
  .rw [decide_eq_false ho]at hrun;exact⟨_,_,hrun,fun h=>absurd h hz,fun _=>⟨s,R,h2,h7,by omega,.inr ⟨by omega,rfl,rfl⟩⟩⟩
theorem Lg(hS1:ng t old)(hS2:ng t now){at' miss lead:Int}(h:¬(In at' miss lead/\gx t old/\gx t now)):lx t old now at' miss lead=some (tC,2):=by
 unfold lx;rw[FZ];by_cases hI:In at' miss lead
 .rw [decide_eq_false (fun h=>h hI)];have hm:=IQ hS1 hS2 fun hG=>h ⟨hI,hG⟩;simp only[af,cond_false,hm];rfl
 .rw [decide_eq_true hI];rfl
end
end Go.Proofs.YthcplpfiidlinaaDoor.J
