/- Plans: what the program's Make answers. Conditions: as stated. -/
import Derived.Test.YthcplpfiidlinaaDoorJLK
import Derived.Test.YthcplpfiidlinaaDoorJLQ
open Go.Ev Go
open List renaming getElem_append_left->l8
open Option renaming bind_some->af
namespace Go.Proofs.YthcplpfiidlinaaDoor.J
section
variable{t:ah}{old now:Sl (Sl Int)}
theorem IA:Cl (g_ t old now):=BK
structure OW(ms:List ae)(first gap:Int)(R:List aj):Prop where
 OK:(R.map fun x=>x.1).Pairwise (·<·)
 BL:∀x,x∈(R.map fun x=>x.1)<->∃m∈ms,m.2.2.2=x
 PN:∀i,i<R.length->(gt R i).2.1=first+(i:Int)*gap
 SA:∀i,i<R.length->Bi ms (gt R i).1 (gt R i).2.2.l
theorem Cd{l:List Int}(h:l.Pairwise (·<·))(hb:∀x∈l,0<=x/\x<8):l.length<=8:=by
 have hnd:l.Nodup:=h.imp fun h e=>by omega
 have hsub:l⊆(List.range 8).map fun(i:Nat)=>(i:Int):=fun x hx=>by have:=hb x hx;exact List.mem_map.2 ⟨x.toNat,List.mem_range.2 (by omega),by omega⟩
 simpa using hnd.length_le_of_subset hsub
theorem OW.len{first gap:Int}{R:List aj}(hN:gk t now)(h:OW (g_ t old now) first gap R):R.length<=8:=by
 have:=Cd h.OK fun x hx=>by obtain⟨m,hm,rfl⟩:=(h.BL x).1 hx;have:=Dx hN hm;omega
 simpa using this
def jf(t:ah)(at' miss lead:Int):Int:=at'+lead+miss+iF t+1
def nf(t:ah)(miss:Int):Int:=2*miss+iF t+1
def In(at' miss lead:Int):Prop:=(0<=at'/\at'<=1099511627776)/\(0<=miss/\miss<=1048576)/\(0<=lead/\lead<=1048576)
instance{a b c:Int}:Decidable (In a b c):=by unfold In;infer_instance
def tC:bh:=⟨Sl.nil,Sl.nil,0,0,0,0⟩
def wV(t:ah)(at' miss lead:Int)(n:Nat):Int:=jf t at' miss lead+((n-1:Nat):Int)*nf t miss+miss
theorem LI(hV:lh t){at' miss lead:Int}(hI:In at' miss lead):0<nf t miss/\nf t miss<=1073741824:=by have:=tE hV;unfold nf;unfold In at hI;omega
theorem LZ(hV:lh t){at' miss lead:Int}(hI:In at' miss lead):0<=jf t at' miss lead/\jf t at' miss lead<=1100000000000:=by have:=tE hV;unfold jf;unfold In at hI;omega
theorem xx(hV:lh t){at' miss lead:Int}(hI:In at' miss lead){i:Nat}(hi:i<=8):0<=jf t at' miss lead+(i:Int)*nf t miss/\jf t at' miss lead+(i:Int)*nf t miss<=1200000000000:=by obtain⟨h1,h2⟩:=LI hV hI;have h3:=LZ hV hI;have h4:=FD h1 h2 hi (show 8<=64 by omega);omega
structure UL(t:ah)(old now:Sl (Sl Int))(at' miss lead:Int)(p:bh)(e:Int):Prop where
 none:g_ t old now=[]->p=tC/\e=7
 P1:g_ t old now≠[]->∃(s:Sl ae)(R:Sl aj),s.l=g_ t old now/\OW (g_ t old now) (jf t at' miss lead) (nf t miss) R.l/\0<R.l.length/\
  ((wV t at' miss lead R.l.length>1099511627776/\p=tC/\e=11)\/
   (wV t at' miss lead R.l.length<=1099511627776/\p=(s,R,miss,iF t,at'+lead+1,wV t at' miss lead R.l.length)/\e=0))
theorem IM(hN:gk t now){at' miss lead:Int}(hI:In at' miss lead){s:Sl ae}(hs:s.l=g_ t old now){L:Sl Int}(hL1:L.l.Pairwise (·<·))(hL2:∀x,x∈L.l<->∃m∈s.l,m.2.2.2=x)(hL3:L.l.length<=8):
  ∃R,bE (mM at' miss lead s (iF t) L (.mk (mh L.l.length (nf t miss)))) (0,s,miss,iF t,0,0,Sl.nil)=some (s,miss,iF t,0,0,R)/\OW (g_ t old now) (jf t at' miss lead) (nf t miss) R.l/\R.l.length=L.l.length:=by
 have hV:=hN.1.tR;have hlf:=tE hV;have hI2:=hI;unfold In at hI2;have hms:s.l.length<=1000:=by rw[hs];have:=FE (old:=old) hN;omega
 have hsort:Cl s.l:=hs▸IA;have htl:(Sl.mk (mh L.l.length (nf t miss))).l.length=L.l.length:=by simp[mh]
 have w1:wr .i64 (wr .i64 (wr .i64 (wr .i64 (at'+lead)+miss)+iF t)+1)=jf t at' miss lead:=by unfold jf;rw[ir (n:=at'+lead) (by omega) (by omega),ir (n:=at'+lead+miss) (by omega) (by omega),ir (n:=at'+lead+miss+iF t) (by omega) (by omega),ir (by omega) (by omega)]
 have h:=F4 (f:=mM at' miss lead s (iF t) L (.mk (mh L.l.length (nf t miss)))) (fun i(R:Sl aj)=>((i:Int),s,miss,iF t,(0:Int),(0:Int),R)) L.l.length
  (fun i R=>R.l.length=i/\(R.l.map fun x=>x.1)=L.l.take i/\(∀j,j<i->(gt R.l j).2.1=jf t at' miss lead+(j:Int)*nf t miss)/\∀j,j<i->Bi s.l (gt R.l j).1 (gt R.l j).2.2.l)
  (fun b=>∃R,b=(s,miss,iF t,(0:Int),(0:Int),R)/\OW (g_ t old now) (jf t at' miss lead) (nf t miss) R.l/\R.l.length=L.l.length) (fun i R hi⟨i1,i2,i3,i4⟩=>by
   left;obtain⟨S,q1,q2⟩:=Ni hsort hms (gt L.l i);have l1:i<(Sl.mk (mh L.l.length (nf t miss))).l.length:=by rw[htl];exact hi
   have g1:gt (Sl.mk (mh L.l.length (nf t miss))).l i=(i:Int)*nf t miss:=by rw[Sl.iZ,JX hi]
   have ht:=xx hV hI (show i<=8 by omega);have w2:wr .i64 (jf t at' miss lead+(i:Int)*nf t miss)=jf t at' miss lead+(i:Int)*nf t miss:=ir (by omega) (by omega);refine⟨.mk (R.l++[(gt L.l i,jf t at' miss lead+(i:Int)*nf t miss,S)]),?_,by simp[i1],?_,fun j hj=>?_,fun j hj=>?_⟩
   .have hiL:=hi;rw[<-htl]at hi;simp only[mM,jo hi,cond_true,bA l1,bA hiL,af,q1,w1,g1,w2,lp (show i<9223372036854775807 by omega)];rw[jq (by rw[List.length_append,List.length_singleton];omega)];rfl
   .rw [Sl.iZ,List.map_append,i2,cY hi];simp
   .rw [Sl.iZ];by_cases he:j=i
    .subst he;rw[cY (by simp[i1]),List.getElem_append_right (by omega)];simp[i1]
    .rw [cY (by simp;omega),l8 (by omega),<-cY (by omega)];exact i3 j (by omega)
   .rw [Sl.iZ];by_cases he:j=i
    .subst he;rw[cY (by simp[i1]),List.getElem_append_right (by omega)];simpa[i1]using q2
    .rw [cY (by simp;omega),l8 (by omega),<-cY (by omega)];exact i4 j (by omega))
  (fun R⟨i1,i2,i3,i4⟩=>by rw[List.take_length]at i2;refine⟨_,by simp only[mM,htl,kG,cond_false],R,rfl,⟨by rw[i2];exact hL1,fun x=>by rw[i2,hL2,hs],fun j hj=>i3 j (by omega),fun j hj=>hs▸i4 j (by omega)⟩,i1⟩) 0 .nil (Nat.zero_le _) ⟨rfl,by simp,fun j hj=>by omega,fun j hj=>by omega⟩
 obtain⟨b,h1,R,rfl,h2,h3⟩:=h;exact⟨R,h1,h2,h3⟩
theorem FT{at' miss lead:Int}:((pV at' 1099511627776).bind fun r1=>bif !r1 then some true else((pV miss 1048576).bind fun r2=>bif !r2 then some true else((pV lead 1048576).bind fun r3=>some (!r3))):Option Bool)=some (decide (¬In at' miss lead)):=by
 have e:decide (¬In at' miss lead)=!((decide (at'>=0)&&decide (at'<=1099511627776))&&((decide (miss>=0)&&decide (miss<=1048576))&&(decide (lead>=0)&&decide (lead<=1048576)))):=by rw[Bool.eq_iff_iff,decide_eq_true_eq (p:=¬In at' miss lead)];simp only[Bool.not_eq_true',Bool.and_eq_false_iff,decide_eq_false_iff_not];unfold In;omega
 rw[e];simp only[pV,af];cases(decide (at'>=0)&&decide (at'<=1099511627776))<;>cases(decide (miss>=0)&&decide (miss<=1048576))<;>cases(decide (lead>=0)&&decide (lead<=1048576))<;>rfl
theorem IL(hO:gk t old)(hN:gk t now){at' miss lead:Int}(hI:In at' miss lead):∃p e,lu t old now at' miss lead=some (p,e)/\UL t old now at' miss lead p e:=by
 have hV:=hN.1.tR;obtain⟨s,h1,h2⟩:=IC hO hN;have h2:s.l=g_ t old now:=h2;have hml:=FE (old:=old) hN;have hnI:decide (¬In at' miss lead)=false:=decide_eq_false fun h=>h hI;by_cases hz:g_ t old now=[]
 .refine ⟨tC,7,?_,fun _=>⟨rfl,rfl⟩,fun h=>absurd hz h⟩;have hl:((s.l.length:Int)==0)=true:=by rw[h2,hz];rfl
  unfold lu;rw[FT,hnI];simp only[af,cond_false,h1,bne_self_eq_false,hl,cond_true];rfl
 .have hl:((s.l.length:Int)==0)=false:=by have:0<(g_ t old now).length:=List.length_pos_iff.2 hz;rw[h2,beq_eq_false_iff_ne];omega
  obtain⟨L,h3,h4,h5⟩:=KJ (l:=s) (by rw[h2];omega);have hL3:L.l.length<=8:=Cd h4 fun x hx=>by obtain⟨m,hm,rfl⟩:=(h5 x).1 hx;have:=Dx hN (h2▸hm);omega
  have hLpos:0<L.l.length:=by
   have hm:(g_ t old now).head hz∈s.l:=by rw[h2];exact List.head_mem hz
   exact List.length_pos_iff.2 (List.ne_nil_of_mem ((h5 _).2 ⟨_,hm,rfl⟩))
  obtain⟨g1,g2⟩:=LI hV hI;obtain⟨R,h6,h7,h8⟩:=IM hN hI h2 h4 h5 hL3
  have ht:pn (L.l.length:Int) (nf t miss)=some (.mk (mh L.l.length (nf t miss))):=by
   obtain⟨n,hn⟩:∃n,L.l.length=n+1:=⟨L.l.length-1,by omega⟩
   rw[hn];exact L_ (by omega) g1 g2
  have hI2:=hI;unfold In at hI2;have hgap:=Hi hV hI2.2.1.1 hI2.2.1.2;have hw1:wr .i64 ((R.l.length:Int)-1)=((R.l.length-1:Nat):Int):=by rw[ir (by omega) (by omega)];omega
  have hlast:=h7.PN (R.l.length-1) (by omega);have htl:=xx hV hI (show R.l.length-1<=8 by omega);have hlf:=tE hV;have hw2:wr .i64 ((gt R.l (R.l.length-1)).2.1+miss)=wV t at' miss lead R.l.length:=by rw[hlast,ir (by omega) (by omega)];rfl
  have w1:wr .i64 (wr .i64 (wr .i64 (wr .i64 (at'+lead)+miss)+iF t)+1)=jf t at' miss lead:=by unfold jf;rw[ir (n:=at'+lead) (by omega) (by omega),ir (n:=at'+lead+miss) (by omega) (by omega),ir (n:=at'+lead+miss+iF t) (by omega) (by omega),ir (by omega) (by omega)]
  have w2:wr .i64 (wr .i64 (jf t at' miss lead-miss)-iF t)=at'+lead+1:=by have hf:jf t at' miss lead=at'+lead+miss+iF t+1:=rfl;rw[ir (n:=jf t at' miss lead-miss) (by omega) (by omega),ir (by omega) (by omega)];omega
  have hrun:lu t old now at' miss lead=some (bif decide (wV t at' miss lead R.l.length>1099511627776)then(tC,11)else((s,R,miss,iF t,at'+lead+1,wV t at' miss lead R.l.length),0)):=by unfold lu;rw[FT,hnI];simp only[af,cond_false,h1,bne_self_eq_false,hl,DH hV,h3,hgap];rw[show 2*miss+iF t+1=nf t miss from rfl,ht];simp only[af,h6,hw1,bA (show R.l.length-1<R.l.length by omega),hw2,w1,w2];cases decide (wV t at' miss lead R.l.length>1099511627776)<;>rfl
  by_cases ho:wV t at' miss lead R.l.length>1099511627776
  .rw [decide_eq_true ho]at hrun;exact⟨_,_,hrun,fun h=>absurd h hz,fun _=>⟨s,R,h2,h7,by omega,.inl ⟨ho,rfl,rfl⟩⟩⟩
  .rw [decide_eq_false ho]at hrun;exact⟨_,_,hrun,fun h=>absurd h hz,fun _=>⟨s,R,h2,h7,by omega,.inr ⟨by omega,rfl,rfl⟩⟩⟩
theorem K6(hS1:m7 t old)(hS2:m7 t now){at' miss lead:Int}(h:¬(In at' miss lead/\gk t old/\gk t now)):lu t old now at' miss lead=some (tC,2):=by
 unfold lu;rw[FT];by_cases hI:In at' miss lead
 .rw [decide_eq_false (fun h=>h hI)];have hm:=ID hS1 hS2 fun hG=>h ⟨hI,hG⟩;simp only[af,cond_false,hm];rfl
 .rw [decide_eq_true hI];rfl
end
end Go.Proofs.YthcplpfiidlinaaDoor.J
