/- Sorting rows, equals in their order, by the library's own text (slices.SortStableFunc), for any way to compare. Conditions: as stated. -/
import Derived.Test.YtoekkpmeeclpeaaGreatSt
import Derived.Test.YtoekkpmeeclpeaaGreatFh
open Bool renaming and_eq_false_iff->ja,and_self->kN,not_false->jY
open List renaming append_assoc->aM,append_nil->aV,length_append->ap,length_cons->bN,length_drop->cE,length_eq_one_iff->eg,length_eq_zero_iff->aO,length_nil->mQ,length_pos_iff->gD,length_reverse->jL,length_set->bF,length_take->cD,mem_append->aC,mem_append_left->aU,mem_append_right->aX,mem_cons->aW,mem_cons_of_mem->aI,mem_cons_self->bC,mem_singleton->aq,nil_append->cz,pairwise_cons->fW,take_append_drop->cg
open Nat renaming le_refl->am,sub_self->lZ
open Option renaming bind_some->ae
open Go.Ev Go
noncomputable section
namespace Go.Ev
section
variable{α:Type}[Inhabited α](C:α->α->Option Int)
def wY(a_1:Int):(Int×Sl α)->Option ((Int×Sl α)⊕(Sl α)):=fun(i9,s10)=>
 (bif decide (i9>a_1)then((cC i9 s10.l.length).bind fun n11=>
 (cC (wr .i64 (i9-1)) s10.l.length).bind fun n12=>
 (C (gt s10.l n11) (gt s10.l n12)).bind fun r13=>
 some (decide (r13<0)))else
 (some false):Option Bool).bind fun b14=>
 bif b14 then((cC (wr .i64 (i9-1)) s10.l.length).bind fun n15=>
 (cC i9 s10.l.length).bind fun n16=>
 (cC i9 s10.l.length).bind fun n17=>
 (cC (wr .i64 (i9-1)) (s10.l.set n17 (gt s10.l n15)).length).bind fun n18=>
 some (.inl (wr .i64 (i9-1),(Sl.mk ((s10.l.set n17 (gt s10.l n15)).set n18 (gt s10.l n16))))))else
 (some (.inr s10))
def wX(a_1:Int)(b_2:Int):(Int×Sl α)->Option ((Int×Sl α)⊕(Sl α)):=fun(i4,s5)=>
 bif decide (i4<b_2)then((aP (wY C a_1) (i4,s5)).bind fun s19=>
 some (.inl (wr .i64 (i4+1),s19)))else
 (some (.inr s5))
def Qf(data_0:Sl α)(a_1:Int)(b_2:Int):Option (Sl α):=
 (aP (wX C a_1 b_2) (wr .i64 (a_1+1),data_0)).bind fun s20=>
 some s20
def zk(a_1:Int)(b_2:Int)(n_3:Int):(Int×Sl α)->Option ((Int×Sl α)⊕(Sl α)):=fun(i4,s5)=>
 bif decide (i4<n_3)then((cC (wr .i64 (b_2+i4)) s5.l.length).bind fun n6=>
 (cC (wr .i64 (a_1+i4)) s5.l.length).bind fun n7=>
 (cC (wr .i64 (a_1+i4)) s5.l.length).bind fun n8=>
 (cC (wr .i64 (b_2+i4)) (s5.l.set n8 (gt s5.l n6)).length).bind fun n9=>
 some (.inl (wr .i64 (i4+1),(Sl.mk ((s5.l.set n8 (gt s5.l n6)).set n9 (gt s5.l n7))))))else
 (some (.inr s5))
def L_(data_0:Sl α)(a_1:Int)(b_2:Int)(n_3:Int):Option (Sl α):=
 (aP (zk a_1 b_2 n_3) (0,data_0)).bind fun s10=>
 some s10
def wy(m_2:Int):(Int×Int×Sl α)->Option ((Int×Int×Sl α)⊕(Int×Sl α)):=fun(i6,i7,s8)=>
 bif(i6 !=i7)then(bif decide (i6>i7)then((L_ s8 (wr .i64 (m_2-i6)) m_2 i7).bind fun s9=>
 (kE s9 s8).bind fun _=>
 some (.inl (wr .i64 (i6-i7),i7,s9)))else
 ((L_ s8 (wr .i64 (m_2-i6)) (wr .i64 ((wr .i64 (m_2+i7))-i6)) i6).bind fun s10=>
 (kE s10 s8).bind fun _=>
 some (.inl (i6,wr .i64 (i7-i6),s10))))else
 (some (.inr (i6,s8)))
def PF(data_0:Sl α)(a_1:Int)(m_2:Int)(b_3:Int):Option (Sl α):=
 (aP (wy m_2) (wr .i64 (m_2-a_1),wr .i64 (b_3-m_2),data_0)).bind fun(i11,s12)=>
 (L_ s12 (wr .i64 (m_2-i11)) m_2 i11).bind fun s13=>
 (kE s13 s12).bind fun _=>
 some s13
def zj(data_0:Sl α)(a_1:Int):(Int×Int)->Option ((Int×Int)⊕Int):=fun(i3,i4)=>
 bif decide (i3<i4)then((cC (wr .i64 (fV .u64 (wr .u64 (wr .i64 (i3+i4))) 1)) data_0.l.length).bind fun n5=>
 (cC a_1 data_0.l.length).bind fun n6=>
 (C (gt data_0.l n5) (gt data_0.l n6)).bind fun r7=>
 bif decide (r7<0)then(some (.inl (wr .i64 ((wr .i64 (fV .u64 (wr .u64 (wr .i64 (i3+i4))) 1))+1),i4)))else
 (some (.inl (i3,wr .i64 (fV .u64 (wr .u64 (wr .i64 (i3+i4))) 1)))))else
 (some (.inr i3))
def zi(i8:Int):(Int×Sl α)->Option ((Int×Sl α)⊕(Sl α)):=fun(i12,s13)=>
 bif decide (i12<(wr .i64 (i8-1)))then((cC (wr .i64 (i12+1)) s13.l.length).bind fun n14=>
 (cC i12 s13.l.length).bind fun n15=>
 (cC i12 s13.l.length).bind fun n16=>
 (cC (wr .i64 (i12+1)) (s13.l.set n16 (gt s13.l n14)).length).bind fun n17=>
 some (.inl (wr .i64 (i12+1),(Sl.mk ((s13.l.set n16 (gt s13.l n14)).set n17 (gt s13.l n15))))))else
 (some (.inr s13))
def zh(data_0:Sl α)(m_2:Int):(Int×Int)->Option ((Int×Int)⊕Int):=fun(i21,i22)=>
 bif decide (i21<i22)then((cC m_2 data_0.l.length).bind fun n23=>
 (cC (wr .i64 (fV .u64 (wr .u64 (wr .i64 (i21+i22))) 1)) data_0.l.length).bind fun n24=>
 (C (gt data_0.l n23) (gt data_0.l n24)).bind fun r25=>
 bif(!(decide (r25<0)))then(some (.inl (wr .i64 ((wr .i64 (fV .u64 (wr .u64 (wr .i64 (i21+i22))) 1))+1),i22)))else
 (some (.inl (i21,wr .i64 (fV .u64 (wr .u64 (wr .i64 (i21+i22))) 1)))))else
 (some (.inr i21))
def zg(i26:Int):(Int×Sl α)->Option ((Int×Sl α)⊕(Sl α)):=fun(i30,s31)=>
 bif decide (i30>i26)then((cC (wr .i64 (i30-1)) s31.l.length).bind fun n32=>
 (cC i30 s31.l.length).bind fun n33=>
 (cC i30 s31.l.length).bind fun n34=>
 (cC (wr .i64 (i30-1)) (s31.l.set n34 (gt s31.l n32)).length).bind fun n35=>
 some (.inl (wr .i64 (i30-1),(Sl.mk ((s31.l.set n34 (gt s31.l n32)).set n35 (gt s31.l n33))))))else
 (some (.inr s31))
def zf(data_0:Sl α)(a_1:Int)(m_2:Int)(b_3:Int):(Int×Int)->Option ((Int×Int)⊕Int):=fun(i41,i42)=>
 bif decide (i41<i42)then((cC (wr .i64 ((wr .i64 ((wr .i64 ((wr .i64 (fV .u64 (wr .u64 (wr .i64 (a_1+b_3))) 1))+m_2))-1))-(wr .i64 (fV .u64 (wr .u64 (wr .i64 (i41+i42))) 1)))) data_0.l.length).bind fun n43=>
 (cC (wr .i64 (fV .u64 (wr .u64 (wr .i64 (i41+i42))) 1)) data_0.l.length).bind fun n44=>
 (C (gt data_0.l n43) (gt data_0.l n44)).bind fun r45=>
 bif(!(decide (r45<0)))then(some (.inl (wr .i64 ((wr .i64 (fV .u64 (wr .u64 (wr .i64 (i41+i42))) 1))+1),i42)))else
 (some (.inl (i41,wr .i64 (fV .u64 (wr .u64 (wr .i64 (i41+i42))) 1)))))else
 (some (.inr i41))
def CT(rc:Sl α->Int->Int->Int->Option (Sl α))(data_0:Sl α)(a_1:Int)(m_2:Int)(b_3:Int):Option (Sl α):=
 bif((wr .i64 (m_2-a_1))==1)then((aP (zj C data_0 a_1) (m_2,b_3)).bind fun i8=>
 (aP (zi i8) (a_1,data_0)).bind fun s18=>
 some s18)else
 (bif((wr .i64 (b_3-m_2))==1)then((aP (zh C data_0 m_2) (a_1,m_2)).bind fun i26=>
 (aP (zg i26) (m_2,data_0)).bind fun s36=>
 some s36)else
 ((bif decide (m_2>(wr .i64 (fV .u64 (wr .u64 (wr .i64 (a_1+b_3))) 1)))then(some (wr .i64 ((wr .i64 ((wr .i64 (fV .u64 (wr .u64 (wr .i64 (a_1+b_3))) 1))+m_2))-b_3),wr .i64 (fV .u64 (wr .u64 (wr .i64 (a_1+b_3))) 1)))else
 (some (a_1,m_2)):Option (Int×Int)).bind fun(i37,i38)=>
 (aP (zf C data_0 a_1 m_2 b_3) (i37,i38)).bind fun i46=>
 (bif((decide (i46<m_2))&&(decide (m_2<(wr .i64 ((wr .i64 ((wr .i64 (fV .u64 (wr .u64 (wr .i64 (a_1+b_3))) 1))+m_2))-i46)))))then((PF data_0 i46 m_2 (wr .i64 ((wr .i64 ((wr .i64 (fV .u64 (wr .u64 (wr .i64 (a_1+b_3))) 1))+m_2))-i46))).bind fun s47=>
 (kE s47 data_0).bind fun _=>
 some s47)else
 (some data_0):Option (Sl α)).bind fun s48=>
 (bif((decide (a_1<i46))&&(decide (i46<(wr .i64 (fV .u64 (wr .u64 (wr .i64 (a_1+b_3))) 1)))))then((rc s48 a_1 i46 (wr .i64 (fV .u64 (wr .u64 (wr .i64 (a_1+b_3))) 1))).bind fun s49=>
 (kE s49 s48).bind fun _=>
 some s49)else
 (some s48):Option (Sl α)).bind fun s50=>
 bif((decide ((wr .i64 (fV .u64 (wr .u64 (wr .i64 (a_1+b_3))) 1))<(wr .i64 ((wr .i64 ((wr .i64 (fV .u64 (wr .u64 (wr .i64 (a_1+b_3))) 1))+m_2))-i46))))&&(decide ((wr .i64 ((wr .i64 ((wr .i64 (fV .u64 (wr .u64 (wr .i64 (a_1+b_3))) 1))+m_2))-i46))<b_3)))then((rc s50 (wr .i64 (fV .u64 (wr .u64 (wr .i64 (a_1+b_3))) 1)) (wr .i64 ((wr .i64 ((wr .i64 (fV .u64 (wr .u64 (wr .i64 (a_1+b_3))) 1))+m_2))-i46)) b_3).bind fun s51=>
 (kE s51 s50).bind fun _=>
 some s51)else
 (some s50)))
def p8:Nat->Sl α->Int->Int->Int->Option (Sl α)
 |0=>fun _ _ _ _=>none
 |n+1=>CT C (p8 n)
def zm(n_1:Int):(Int×Int×Sl α)->Option ((Int×Int×Sl α)⊕(Int×Sl α)):=fun(i6,i7,s8)=>
 bif decide (i7<=n_1)then((Qf C s8 i6 i7).bind fun s9=>
 (kE s9 s8).bind fun _=>
 some (.inl (i7,wr .i64 (i7+20),s9)))else
 (some (.inr (i6,s8)))
def uE(f:Nat)(n_1:Int)(i16:Int):(Int×Int×Sl α)->Option ((Int×Int×Sl α)⊕(Int×Sl α)):=fun(i23,i24,s25)=>
 bif decide (i24<=n_1)then((p8 C f s25 i23 (wr .i64 (i23+i16)) i24).bind fun s26=>
 (kE s26 s25).bind fun _=>
 some (.inl (i24,wr .i64 (i24+(wr .i64 (2*i16))),s26)))else
 (some (.inr (i23,s25)))
def uD(f:Nat)(n_1:Int):(Int×Sl α)->Option ((Int×Sl α)⊕(Sl α)):=fun(i16,s17)=>
 bif decide (i16<n_1)then((aP (uE C f n_1 i16) (0,wr .i64 (2*i16),s17)).bind fun(i27,s28)=>
 (bif decide ((wr .i64 (i27+i16))<n_1)then((p8 C f s28 i27 (wr .i64 (i27+i16)) n_1).bind fun s29=>
 (kE s29 s28).bind fun _=>
 some s29)else
 (some s28):Option (Sl α)).bind fun s30=>
 some (.inl (wr .i64 (i16*2),s30)))else
 (some (.inr s17))
def Uj(f:Nat)(data_0:Sl α)(n_1:Int):Option (Sl α):=
 (aP (zm C n_1) (0,20,data_0)).bind fun(i10,s11)=>
 (Qf C s11 i10 n_1).bind fun s12=>
 (kE s12 s11).bind fun _=>
 (aP (uD C f n_1) (20,s12)).bind fun s31=>
 some s31
def R8(f:Nat)(x_0:Sl α):Option (Sl α):=
 (Uj C f x_0 (x_0.l.length:Int)).bind fun s1=>
 (kE s1 x_0).bind fun _=>
 some s1
end
section
variable{α:Type}[Inhabited α]
theorem wq{n:Int}(h0:-9223372036854775808<=n)(h1:n<9223372036854775808):wr .i64 n=n:=by simp[wr,IntKind.wrap,IntKind.bits,IntKind.signed];omega
theorem uh{i j:Nat}(h:i+j<9223372036854775808):wr .i64 (fV .u64 (wr .u64 (wr .i64 ((i:Int)+(j:Int)))) 1)=(((i+j)/2:Nat):Int):=by
 rw[wq (n:=(i:Int)+(j:Int)) (by omega) (by omega)];have e:wr .u64 ((i:Int)+(j:Int))=(i:Int)+(j:Int):=by simp[wr,IntKind.wrap,IntKind.bits,IntKind.signed];omega
 rw[e];have e2:fV .u64 ((i:Int)+(j:Int)) 1=(((i+j)/2:Nat):Int):=by show((i:Int)+(j:Int)).fdiv (2^1)=_;rw[Int.fdiv_eq_ediv_of_nonneg _ (by decide)];omega
 rw[e2,wq (by omega) (by omega)]
theorem og{n m:Nat}(h:n<m):cC (n:Int) m=some n:=dO.2 ⟨rfl,h⟩
theorem UV{A B:List α}{i:Nat}(h:i<A.length):gt (A++B) i=gt A i:=by simp[gt,List.getD,List.getElem?_append_left h]
theorem UU{A B:List α}{i:Nat}:gt (A++B) (A.length+i)=gt B i:=by simp[gt,List.getD,List.getElem?_append_right]
theorem tt{A B:List α}{x:α}:gt (A++x::B) A.length=x:=by simp[gt]
theorem Px{A B D:List α}{x y:α}{j:Nat}(hj:j=A.length+1+B.length):gt (A++x::(B++y::D)) j=y/\((A++x::(B++y::D)).set A.length y).set j x=A++y::(B++x::D):=by
 subst hj;constructor
 .have e:A++x::(B++y::D)=(A++x::B)++y::D:=by simp
  have l:A.length+1+B.length=(A++x::B).length:=by simp;omega
  rw[e,l];exact tt
 .have e:(A++x::(B++y::D)).set A.length y=(A++y::B)++y::D:=by rw[List.set_append_right _ _ (am _),lZ];simp
  have l:A.length+1+B.length=(A++y::B).length:=by simp;omega
  rw[e,l,List.set_append_right _ _ (am _),lZ];simp
theorem YL{f:Int×Int->Option ((Int×Int)⊕Int)}(q:Nat->Bool)(lo hi:Nat)(hl:lo<=hi)
  (hs:∀i j:Nat,lo<=i->i<j->j<=hi->f ((i:Int),(j:Int))=some (.inl (bif q ((i+j)/2)then((((i+j)/2+1:Nat):Int),(j:Int))else((i:Int),(((i+j)/2:Nat):Int)))))
  (he:∀i:Nat,f ((i:Int),(i:Int))=some (.inr (i:Int))):
  ∃s:Nat,lo<=s/\s<=hi/\aP f ((lo:Int),(hi:Int))=some (s:Int)/\(s=lo\/(lo<s/\q (s-1)=true))/\(s=hi\/(s<hi/\q s=false)):=by
 have key:∀(k i j:Nat),j-i<=k->lo<=i->i<=j->j<=hi->(i=lo\/(lo<i/\q (i-1)=true))->(j=hi\/(j<hi/\q j=false))->
   ∃s:Nat,lo<=s/\s<=hi/\aP f ((i:Int),(j:Int))=some (s:Int)/\(s=lo\/(lo<s/\q (s-1)=true))/\(s=hi\/(s<hi/\q s=false)):=by
  intro k;induction k with
  |zero=>
   intro i j hk h1 h2 h3 h4 h5;obtain rfl:i=j:=by omega
   exact⟨i,h1,h3,bt (he i),h4,h5⟩
  |succ k ih=>
   intro i j hk h1 h2 h3 h4 h5;by_cases e:i=j
   .subst e;exact⟨i,h1,h3,bt (he i),h4,h5⟩
   .have hlt:i<j:=by omega
    have dR:=hs i j h1 hlt h3;cases hq:q ((i+j)/2)with|true=>rw[hq,cond_true]at dR;obtain⟨s,a,b,c,d⟩:=ih ((i+j)/2+1) j (by omega) (by omega) (by omega) h3 (.inr ⟨by omega,by rw[Nat.add_sub_cancel];exact hq⟩) h5;exact⟨s,a,b,(bX dR).trans c,d⟩|false=>rw[hq,cond_false]at dR;obtain⟨s,a,b,c,d⟩:=ih i ((i+j)/2) (by omega) h1 (by omega) (by omega) h4 (.inr ⟨by omega,hq⟩);exact⟨s,a,b,(bX dR).trans c,d⟩
 exact key (hi-lo) lo hi (am _) (am _) hl (am _) (.inl rfl) (.inl rfl)
theorem x6{β:Type}{a b:List β}(h:a.length=b.length):kE (Sl.mk a) (Sl.mk b)=some ():=by show P_ a b=some ();exact Ch.2 h
theorem L9{a b n:Nat}(hn:a+n<4611686018427387904)(hb:b+n<4611686018427387904):∀(U V X W Y:List α)(i:Nat),U.length=V.length->a+i=X.length->b+i=X.length+U.length+W.length->n=i+U.length->
  aP (zk (a:Int) (b:Int) (n:Int)) ((i:Int),Sl.mk (X++U++W++V++Y))=some (Sl.mk (X++V++W++U++Y))
 |[],V,X,W,Y,i,h1,h2,h3,h4=>by
  obtain rfl:V=[]:=aO.1 h1.symm;refine bt ?_;have:n=i:=by simpa using h4
  subst this;simp only[zk];rw[decide_eq_false (by omega)];rfl
 |u::U,[],X,W,Y,i,h1,h2,h3,h4=>by cases h1
 |u::U,v::V,X,W,Y,i,h1,h2,h3,h4=>by
  have ih:=L9 hn hb U V (X++[v]) (W++[u]) Y (i+1) (by simpa using h1) (by simp;omega) (by simp at h3|-;omega) (by simp at h4;omega);simp only[bN]at h3 h4;have w1:wr .i64 ((b:Int)+(i:Int))=((b+i:Nat):Int):=by rw[wq (by omega) (by omega)];omega
  have w2:wr .i64 ((a:Int)+(i:Int))=((a+i:Nat):Int):=by rw[wq (by omega) (by omega)];omega
  have w3:wr .i64 ((i:Int)+1)=((i+1:Nat):Int):=by rw[wq (by omega) (by omega)];omega
  have e0:X++(u::U)++W++(v::V)++Y=X++u::((U++W)++v::(V++Y)):=by simp
  have hl:(X++u::((U++W)++v::(V++Y))).length=X.length+1+(U.length+W.length)+1+(V.length+Y.length):=by simp;omega
  obtain⟨g1,g2⟩:=Px (A:=X) (B:=U++W) (D:=V++Y) (x:=u) (y:=v) (j:=b+i) (by simp;omega);refine(bX (a':=(((i+1:Nat):Int),Sl.mk (X++v::((U++W)++u::(V++Y))))) ?_).trans ?_
  .simp only[zk];rw[decide_eq_true (by omega),cond_true,w1,w2,e0];simp only[Sl.l];rw[og (show b+i<(X++u::((U++W)++v::(V++Y))).length by omega),ae,og (show a+i<(X++u::((U++W)++v::(V++Y))).length by omega),ae,ae,bF,og (show b+i<(X++u::((U++W)++v::(V++Y))).length by omega),ae,w3,g1];rw[h2,tt,g2]
  .have e1:X++[v]++U++(W++[u])++V++Y=X++v::((U++W)++u::(V++Y)):=by simp
   have e2:X++[v]++V++(W++[u])++U++Y=X++v::V++W++u::U++Y:=by simp
   rw[e1,e2]at ih;exact ih
theorem zM{a b n:Nat}{U V X W Y:List α}(hb:b+n<4611686018427387904)(h1:U.length=n)(h1':V.length=n)(h2:a=X.length)(h3:b=X.length+U.length+W.length):
  L_ (Sl.mk (X++U++W++V++Y)) (a:Int) (b:Int) (n:Int)=some (Sl.mk (X++V++W++U++Y)):=by
 unfold L_;have:=L9 (a:=a) (b:=b) (n:=n) (by omega) hb U V X W Y 0 (by omega) (by omega) (by omega) (by omega);rw[show((0:Nat):Int)=0 from rfl]at this;rw[this];rfl
theorem G8{m:Nat}:∀(k:Nat)(U V X Y:List α),U.length+V.length<=k->U≠[]->V≠[]->m=X.length+U.length->m+V.length<2305843009213693952->
  ∃(U' V' X' Y':List α),aP (wy (m:Int)) ((U.length:Int),(V.length:Int),Sl.mk (X++U++V++Y))=some ((U'.length:Int),Sl.mk (X'++U'++V'++Y'))/\U'.length=V'.length/\m=X'.length+U'.length/\X'++V'++U'++Y'=X++V++U++Y/\m+V'.length<2305843009213693952
 |0,U,V,X,Y,hk,hu,hv,_,_=>by cases U<;>simp at hk hu
 |k+1,U,V,X,Y,hk,hu,hv,hm,hb=>by
  have lu:0<U.length:=gD.2 hu;have lv:0<V.length:=gD.2 hv;by_cases e:U.length=V.length
  .refine ⟨U,V,X,Y,bt ?_,e,hm,rfl,hb⟩;simp only[wy];have:(((U.length:Int)) !=(V.length:Int))=false:=by rw[bne_eq_false_iff_eq];omega
   rw[this];rfl
  have hne:(((U.length:Int)) !=(V.length:Int))=true:=by rw[bne_iff_ne];omega
  by_cases hgt:V.length<U.length
  .have hs1:(U.take V.length).length=V.length:=by rw[cD];omega
   have hs2:(U.drop V.length).length=U.length-V.length:=cE;generalize hU1:U.take V.length=U1 at hs1;generalize hU2:U.drop V.length=U2 at hs2;have hU:U=U1++U2:=by rw[<-hU1,<-hU2,cg]
   obtain⟨U',V',X',Y',i1,i2,i3,i4,i5⟩:=G8 (m:=m) k U2 U1 (X++V) Y (by omega) (by intro h;rw[h]at hs2;simp at hs2;omega) (by intro h;rw[h]at hs1;simp at hs1;omega) (by simp;omega) (by omega);refine⟨U',V',X',Y',(bX (a':=((U2.length:Int),(U1.length:Int),Sl.mk (X++V++U2++U1++Y))) ?_).trans i1,i2,i3,?_,i5⟩
   .simp only[wy];have w1:wr .i64 ((m:Int)-(U.length:Int))=((X.length:Nat):Int):=by rw[wq (by omega) (by omega)];omega
    have w2:wr .i64 ((U.length:Int)-(V.length:Int))=((U2.length:Nat):Int):=by rw[wq (by omega) (by omega)];omega
    have hsw:=zM (a:=X.length) (b:=m) (n:=V.length) (U:=U1) (V:=V) (X:=X) (W:=U2) (Y:=Y) (by omega) (by omega) rfl rfl (by omega);have e1:X++U++V++Y=X++U1++U2++V++Y:=by rw[hU];simp
    rw[hne,cond_true,decide_eq_true (by omega),cond_true,w1,w2,e1,hsw,ae,x6 (by simp;omega),ae,hs1]
   .rw [i4,hU];simp
  .have hs1:(V.take (V.length-U.length)).length=V.length-U.length:=by rw[cD];omega
   have hs2:(V.drop (V.length-U.length)).length=U.length:=by rw[cE];omega
   generalize hV1:V.take (V.length-U.length)=V1 at hs1;generalize hV2:V.drop (V.length-U.length)=V2 at hs2;have hV:V=V1++V2:=by rw[<-hV1,<-hV2,cg]
   obtain⟨U',V',X',Y',i1,i2,i3,i4,i5⟩:=G8 (m:=m) k V2 V1 X (U++Y) (by omega) (by intro h;rw[h]at hs2;simp at hs2;omega) (by intro h;rw[h]at hs1;simp at hs1;omega) (by omega) (by omega);refine⟨U',V',X',Y',(bX (a':=((V2.length:Int),(V1.length:Int),Sl.mk (X++V2++V1++(U++Y)))) ?_).trans i1,i2,i3,?_,i5⟩
   .simp only[wy];have w1:wr .i64 ((m:Int)-(U.length:Int))=((X.length:Nat):Int):=by rw[wq (by omega) (by omega)];omega
    have w2:wr .i64 (wr .i64 ((m:Int)+(V.length:Int))-(U.length:Int))=((m+V1.length:Nat):Int):=by rw[wq (n:=(m:Int)+(V.length:Int)) (by omega) (by omega),wq (by omega) (by omega)];omega
    have w3:wr .i64 ((V.length:Int)-(U.length:Int))=((V1.length:Nat):Int):=by rw[wq (by omega) (by omega)];omega
    have hsw:=zM (a:=X.length) (b:=m+V1.length) (n:=U.length) (U:=U) (V:=V2) (X:=X) (W:=V1) (Y:=Y) (by omega) rfl (by omega) rfl (by omega);have e1:X++U++V++Y=X++U++V1++V2++Y:=by rw[hV];simp
    have e2:X++V2++V1++(U++Y)=X++V2++V1++U++Y:=by simp
    rw[hne,cond_true,decide_eq_false (by omega),cond_false,w1,w2,w3,e1,hsw,ae,x6 (by simp;omega),ae,hs2,e2]
   .rw [i4,hV];simp
theorem Mx{a m b:Nat}{U V X Y:List α}(hu:U≠[])(hv:V≠[])(ha:a=X.length)(hm:m=X.length+U.length)(hb:b=m+V.length)(hB:b<2305843009213693952):
  PF (Sl.mk (X++U++V++Y)) (a:Int) (m:Int) (b:Int)=some (Sl.mk (X++V++U++Y)):=by
 unfold PF;have w1:wr .i64 ((m:Int)-(a:Int))=((U.length:Nat):Int):=by rw[wq (by omega) (by omega)];omega
 have w2:wr .i64 ((b:Int)-(m:Int))=((V.length:Nat):Int):=by rw[wq (by omega) (by omega)];omega
 obtain⟨U',V',X',Y',i1,i2,i3,i4,i5⟩:=G8 (m:=m) _ U V X Y (am _) hu hv hm (by omega);rw[w1,w2,i1];simp only[ae];have w3:wr .i64 ((m:Int)-(U'.length:Int))=((X'.length:Nat):Int):=by rw[wq (by omega) (by omega)];omega
 have hsw:=zM (a:=X'.length) (b:=m) (n:=U'.length) (U:=U') (V:=V') (X:=X') (W:=[]) (Y:=Y') (by omega) rfl (by omega) rfl (by simp;omega);simp only[aV]at hsw;rw[w3,hsw,ae,x6 (by simp;omega),ae,i4]
end
def O8{α:Type}(C:α->α->Option Int)(lt:α->α->Bool)(P:α->Prop):Prop:=∀x y,P x->P y->∃r,C x y=some r/\decide (r<0)=lt x y
section
variable{α:Type}[Inhabited α]{C:α->α->Option Int}{lt:α->α->Bool}{P:α->Prop}
theorem NK(hC:O8 C lt P){a:Nat}(pre:List α)(x:α)(ha:a=pre.length)(hx:P x):∀(p s:List α),(∀y∈p,P y)->a+p.length<4611686018427387904->
  ∃u v,p.reverse=u++v/\(∀y∈v,lt x y=true)/\(u=[]\/∃u' y,u=u'++[y]/\lt x y=false)/\
   aP (wY C (a:Int)) (((a+p.length:Nat):Int),Sl.mk (pre++p.reverse++x::s))=some (Sl.mk (pre++u++x::(v++s)))
 |[],s,_,hb=>by refine⟨[],[],rfl,by simp,.inl rfl,bt ?_⟩;simp only[wY];rw[decide_eq_false (by simp),cond_false,ae,cond_false];simp
 |y::r,s,hp,hb=>by
  obtain⟨q,hq,hq2⟩:=hC x y hx (hp y bC);have e0:pre++(y::r).reverse++x::s=(pre++r.reverse)++y::([]++x::s):=by simp
  have hl:((pre++r.reverse)++y::([]++x::s)).length=a+r.length+2+s.length:=by simp;omega
  have hA:(pre++r.reverse).length=a+r.length:=by simp;omega
  obtain⟨g1,g2⟩:=Px (A:=pre++r.reverse) (B:=[]) (D:=s) (x:=y) (y:=x) (j:=a+r.length+1) (by simp;omega);have g3:gt ((pre++r.reverse)++y::([]++x::s)) (a+r.length)=y:=by rw[<-hA];exact tt
  have w0:(((a+(y::r).length:Nat)):Int)=((a+r.length+1:Nat):Int):=by simp;omega
  have w1:wr .i64 (((a+r.length+1:Nat):Int)-1)=((a+r.length:Nat):Int):=by rw[wq (by omega) (by simp at hb;omega)];omega
  have hb':bif decide (((a+r.length+1:Nat):Int)>(a:Int))then True else False:=by rw[decide_eq_true (by omega)];trivial
  have i1:cC ((a+r.length+1:Nat):Int) ((pre++r.reverse)++y::([]++x::s)).length=some (a+r.length+1):=og (by omega);have i2:cC ((a+r.length:Nat):Int) ((pre++r.reverse)++y::([]++x::s)).length=some (a+r.length):=og (by omega);rw[w0,e0];cases hc:lt x y with
  |false=>refine⟨(y::r).reverse,[],by simp,by simp,.inr ⟨r.reverse,y,by simp,hc⟩,(bt (b:=Sl.mk ((pre++r.reverse)++y::([]++x::s))) ?_).trans (by simp)⟩;simp only[wY,w1,Sl.l];rw[decide_eq_true (by omega),cond_true,i1,ae,i2,ae,g1,g3,hq,ae,ae,hq2,hc,cond_false]
  |true=>
   obtain⟨u,v,h1,h2,h3,h4⟩:=NK hC pre x ha hx r (y::s) (fun z hz=>hp z (aI _ hz)) (by simp at hb;omega);refine⟨u,v++[y],by rw[List.reverse_cons,h1];simp,fun z hz=>?_,h3,(bX (a':=(((a+r.length:Nat):Int),Sl.mk ((pre++r.reverse)++x::([]++y::s)))) ?_).trans ?_⟩
   .rcases aC.1 hz with hz|hz
    .exact h2 z hz
    .rw [aq.1 hz];exact hc
   .simp only[wY,w1,Sl.l];rw[decide_eq_true (by omega),cond_true,i1,ae,i2,ae,g1,g3,hq,ae,ae,hq2,hc,cond_true,ae,ae,ae,bF,i2,ae];have g4:=g2;rw[hA]at g4;have g5:(((pre++r.reverse)++y::([]++x::s)).set (a+r.length+1) y).set (a+r.length) x=(pre++r.reverse)++x::([]++y::s):=by rw[List.set_comm _ _ (by omega)];exact g4
    rw[g3,g1,g5]
   .have e1:(pre++r.reverse)++x::([]++y::s)=pre++r.reverse++x::(y::s):=by simp
    rw[e1,h4];simp
theorem Jl(hs:za lt)(hC:O8 C lt P){a b:Nat}(pre post:List α)(ha:a=pre.length)(hb:b<4611686018427387904):∀(s acc:List α),(∀y∈acc,P y)->(∀y∈s,P y)->re lt acc->b=a+acc.length+s.length->
  ∃M,aP (wX C (a:Int) (b:Int)) (((a+acc.length:Nat):Int),Sl.mk (pre++acc++s++post))=some (Sl.mk (pre++M++post))/\M.length=acc.length+s.length/\re lt M/\hN lt M (acc++s)
 |[],acc,h1,h2,h3,h4=>by refine⟨acc,bt ?_,rfl,h3,by simp[hN]⟩;simp only[wX];rw[decide_eq_false (by simp at h4;omega)];simp
 |x::s,acc,h1,h2,h3,h4=>by
  simp only[bN]at h4;obtain⟨u,v,e1,e2,e3,e4⟩:=NK hC pre x ha (h2 x bC) acc.reverse (s++post) (fun y hy=>h1 y (List.mem_reverse.1 hy)) (by simp;omega);rw[List.reverse_reverse]at e1 e4;rw[jL]at e4;have hsr:=re.xS (e1▸h3)
  have hux:∀z∈u,lt x z=false:=by
   intro z hz;rcases e3 with e3|⟨u',y,e3,e5⟩
   .rw [e3]at hz;cases hz
   .rw [e3]at hz;rcases aC.1 hz with hz|hz
    .exact hs.SK _ _ _ e5 ((re.xS (e3▸hsr.1)).2.2 z hz y (by simp))
    .rw [aq.1 hz];exact e5
  have hS:re lt (u++x::v):=by
   refine re.yZ hsr.1 (fW.2 ⟨fun y hy=>hs.QT (e2 y hy),hsr.2.1⟩) fun z hz y hy=>?_;rcases aW.1 hy with hy|hy
   .rw [hy];exact hux z hz
   .exact hsr.2.2 z hz y hy
  have hsame:hN lt (u++x::v) (acc++[x]):=by rw[e1,aM];refine hN.yZ (.refl _) (hN.Pq hs (u:=[x]) (v:=v) fun z hz y hy=>?_);rw[aq.1 hz];have:=e2 y hy;unfold yW;rw[this];rfl
  have hlen:(u++x::v).length=acc.length+1:=by rw[e1];simp;omega
  obtain⟨M,m1,m2,m3,m4⟩:=Jl hs hC pre post ha hb s (u++x::v) (fun y hy=>by
   rcases aC.1 ((hsame.xW hs).1 hy)with hy|hy
   .exact h1 y hy
   .rw [aq.1 hy];exact h2 x bC) (fun y hy=>h2 y (aI _ hy)) hS (by omega)
  refine⟨M,(bX (a':=(((a+(u++x::v).length:Nat):Int),Sl.mk (pre++(u++x::v)++s++post))) ?_).trans m1,by simp;omega,m3,?_⟩
  .simp only[wX];rw[decide_eq_true (by omega),cond_true];have e5:pre++acc++(x::s)++post=pre++acc++x::(s++post):=by simp
   have w1:wr .i64 (((a+acc.length:Nat):Int)+1)=((a+(u++x::v).length:Nat):Int):=by rw[wq (by omega) (by omega),hlen];omega
   rw[e5,e4,ae,w1];simp
  .refine m4.trans ?_;have:=hsame.yZ (hN.refl (lt:=lt) s);simpa using this
theorem x_(hs:za lt)(hC:O8 C lt P){a b:Nat}{X L Y:List α}(ha:a=X.length)(hb:b=a+L.length)(hB:b<4611686018427387904)(hP:∀y∈L,P y):
  ∃M,Qf C (Sl.mk (X++L++Y)) (a:Int) (b:Int)=some (Sl.mk (X++M++Y))/\M.length=L.length/\re lt M/\hN lt M L:=by
 unfold Qf;have w1:wr .i64 ((a:Int)+1)=((a+1:Nat):Int):=by rw[wq (by omega) (by omega)];omega
 rw[w1];cases L with
 |nil=>
  refine⟨[],?_,rfl,.nil,.refl _⟩;simp only[mQ]at hb;rw[bt (b:=Sl.mk (X++[]++Y))]
  .rfl
  .simp only[wX];rw[decide_eq_false (by omega)];rfl
 |cons x s=>
  simp only[bN]at hb;obtain⟨M,m1,m2,m3,m4⟩:=Jl hs hC X Y ha hB s [x] (fun y hy=>hP y (by rw[aq.1 hy];exact bC)) (fun y hy=>hP y (aI _ hy)) (List.pairwise_singleton _ _) (by simp;omega);refine⟨M,?_,by simp[m2];omega,m3,m4⟩;have e:X++[x]++s++Y=X++(x::s)++Y:=by simp
  rw[e]at m1;have e2:a+[x].length=a+1:=rfl;rw[e2]at m1;rw[m1];rfl
end
section
variable{α:Type}[Inhabited α]{C:α->α->Option Int}{lt:α->α->Bool}{P:α->Prop}
theorem Fq{l:List α}{k:Nat}{x:α}(h:x∈l.take k):∃i,i<k/\i<l.length/\x=gt l i:=by obtain⟨i,hi,e⟩:=List.mem_iff_getElem.1 h;rw[cD]at hi;refine⟨i,by omega,by omega,?_⟩;rw[<-e,List.getElem_take,ju]
theorem Fs{l:List α}{k:Nat}{x:α}(h:x∈l.drop k):∃i,k<=i/\i<l.length/\x=gt l i:=by obtain⟨i,hi,e⟩:=List.mem_iff_getElem.1 h;rw[cE]at hi;refine⟨k+i,by omega,by omega,?_⟩;rw[<-e,List.getElem_drop,ju]
theorem kQ{l:List α}{i:Nat}(h:i<l.length):gt l i∈l:=by rw[ju h];exact List.getElem_mem h
theorem CV(hs:za lt){l:List α}(h:re lt l){i j:Nat}(hij:i<=j)(hj:j<l.length):lt (gt l j) (gt l i)=false:=by
 rcases Nat.eq_or_lt_of_le hij with e|e
 .rw [e];exact hs.T_ _
 .rw [ju hj,ju (by omega)];exact List.pairwise_iff_getElem.1 h i j (by omega) hj e
theorem Oo(hs:za lt){A B:List α}(hA:re lt A)(hB:re lt B){k j:Nat}(h:k=0\/j=B.length\/lt (gt B j) (gt A (k-1))=false)(hk:k<=A.length):∀x∈A.take k,∀y∈B.drop j,lt y x=false:=by
 intro x hx y hy;obtain⟨i,h1,h2,rfl⟩:=Fq hx;obtain⟨i',h3,h4,rfl⟩:=Fs hy;rcases h with h|h|h
 .omega
 .omega
 .exact hs.SK _ _ _ (hs.SK _ _ _ (CV hs hB h3 h4) h) (CV hs hA (by omega) (by omega))
theorem On(hs:za lt){A B:List α}(hA:re lt A)(hB:re lt B){k j:Nat}(h:k=A.length\/j=0\/lt (gt B (j-1)) (gt A k)=true)(hj:j<=B.length):∀x∈A.drop k,∀y∈B.take j,lt y x=true:=by
 intro x hx y hy;obtain⟨i,h1,h2,rfl⟩:=Fs hx;obtain⟨i',h3,h4,rfl⟩:=Fq hy;rcases h with h|h|h
 .omega
 .omega
 .exact hs.UO (hs.UQ (CV hs hB (by omega) (by omega)) h) (CV hs hA h1 h2)
theorem UM{s:Nat}(x:α)(Z:List α)(hb:s<4611686018427387904):∀(B X:List α),s=X.length+1+B.length->aP (zi (s:Int)) ((X.length:Int),Sl.mk (X++x::(B++Z)))=some (Sl.mk (X++(B++x::Z)))
 |[],X,h=>by refine bt ?_;simp only[zi];simp only[mQ]at h;rw[wq (by omega) (by omega),decide_eq_false (by omega)];rfl
 |y::B,X,h=>by
  simp only[bN]at h;have ih:=UM x Z hb B (X++[y]) (by simp;omega);obtain⟨g1,g2⟩:=Px (A:=X) (B:=[]) (D:=B++Z) (x:=x) (y:=y) (j:=X.length+1) (by simp);have hl:(X++x::([]++y::(B++Z))).length=X.length+2+(B.length+Z.length):=by simp;omega
  have e0:X++x::(y::B++Z)=X++x::([]++y::(B++Z)):=by simp
  have w1:wr .i64 ((s:Int)-1)=((s-1:Nat):Int):=by rw[wq (by omega) (by omega)];omega
  have w2:wr .i64 ((X.length:Int)+1)=((X.length+1:Nat):Int):=by rw[wq (by omega) (by omega)];omega
  refine(bX (a':=(((X++[y]).length:Int),Sl.mk ((X++[y])++x::(B++Z)))) ?_).trans (ih.trans (by simp));simp only[zi,Sl.l];rw[w1,decide_eq_true (by omega),cond_true,w2,e0,og (show X.length+1<_ by omega),ae,og (show X.length<_ by omega),ae,ae,bF,og (show X.length+1<_ by omega),ae,g1,tt,g2];simp
theorem UN{s:Nat}(x:α)(X:List α)(hs:s=X.length):∀(A Z:List α),s+A.length<4611686018427387904->aP (zg (s:Int)) (((s+A.length:Nat):Int),Sl.mk (X++A.reverse++x::Z))=some (Sl.mk (X++x::(A.reverse++Z)))
 |[],Z,hb=>by refine(bt (b:=Sl.mk (X++[].reverse++x::Z)) ?_).trans (by simp);simp only[zg];rw[decide_eq_false (by simp)];rfl
 |y::A,Z,hb=>by
  simp only[bN]at hb;have ih:=UN x X hs A (y::Z) (by omega);have hA:(X++A.reverse).length=s+A.length:=by simp;omega
  obtain⟨g1,g2⟩:=Px (A:=X++A.reverse) (B:=[]) (D:=Z) (x:=y) (y:=x) (j:=s+A.length+1) (by simp;omega);rw[hA]at g2;have hl:((X++A.reverse)++y::([]++x::Z)).length=s+A.length+2+Z.length:=by simp;omega
  have e0:X++(y::A).reverse++x::Z=(X++A.reverse)++y::([]++x::Z):=by simp
  have e1:((s+(y::A).length:Nat):Int)=((s+A.length+1:Nat):Int):=by simp;omega
  have g3:gt ((X++A.reverse)++y::([]++x::Z)) (s+A.length)=y:=by rw[<-hA];exact tt
  have w1:wr .i64 (((s+A.length+1:Nat):Int)-1)=((s+A.length:Nat):Int):=by rw[wq (by omega) (by omega)];omega
  have g5:(((X++A.reverse)++y::([]++x::Z)).set (s+A.length+1) y).set (s+A.length) x=(X++A.reverse)++x::([]++y::Z):=by rw[List.set_comm _ _ (by omega)];exact g2
  refine(bX (a':=(((s+A.length:Nat):Int),Sl.mk (X++A.reverse++x::(y::Z)))) ?_).trans (ih.trans (by simp));simp only[zg,Sl.l];rw[e1,e0,decide_eq_true (by omega),cond_true,w1,og (show s+A.length<_ by omega),ae,og (show s+A.length+1<_ by omega),ae,ae,bF,og (show s+A.length<_ by omega),ae,g3,g1,g5];simp
theorem Py{β:Type}{lt:β->β->Bool}(hs:za lt){x:β}{B:List β}(h:∀y∈B,lt y x=true):hN lt (B++[x]) (x::B):=by refine hN.symm (hN.Pq hs (u:=[x]) (v:=B) fun z hz y hy=>?_);rw[aq.1 hz];unfold yW;rw[h y hy];simp
set_option maxHeartbeats 2000000 in
theorem wn(hs:za lt)(hC:O8 C lt P):∀(f:Nat)(A B X Y:List α),A≠[]->B≠[]->A.length+B.length<=2^f->re lt A->re lt B->(∀x∈A,P x)->(∀x∈B,P x)->X.length+A.length+B.length<1152921504606846976->
  ∃M,p8 C f (Sl.mk (X++A++B++Y)) ((X.length:Nat):Int) ((X.length+A.length:Nat):Int) ((X.length+A.length+B.length:Nat):Int)=some (Sl.mk (X++M++Y))/\M.length=A.length+B.length/\re lt M/\hN lt M (A++B)
 |0,A,B,X,Y,hA,hB,hf,_,_,_,_,_=>by have:=gD.2 hA;have:=gD.2 hB;simp at hf;omega
 |f+1,A,B,X,Y,hA,hB,hf,sA,sB,pA,pB,hb=>by
  have lA:=gD.2 hA;have lB:=gD.2 hB;generalize ha:X.length=a at hb|-;generalize hm:a+A.length=m at hb|-;generalize hbb:m+B.length=b at hb|-;generalize hD:X++A++B++Y=D;have lD:D.length=b+Y.length:=by rw[<-hD];simp;omega
  have gA:∀i,i<A.length->gt D (a+i)=gt A i:=by intro i hi;rw[<-hD,aM,aM,<-ha,UU,UV hi]
  have gB:∀i,i<B.length->gt D (m+i)=gt B i:=by
   intro i hi;have e:m+i=(X++A).length+i:=by simp;omega
   rw[<-hD,aM (X++A),e,UU,UV hi]
  have w1:wr .i64 ((m:Int)-(a:Int))=((A.length:Nat):Int):=by rw[wq (by omega) (by omega)];omega
  have w2:wr .i64 ((b:Int)-(m:Int))=((B.length:Nat):Int):=by rw[wq (by omega) (by omega)];omega
  show∃M,CT C (p8 C f) (Sl.mk D) (a:Int) (m:Int) (b:Int)=_/\_;unfold CT;rw[w1,w2];by_cases h1:A.length=1
  .--one ahead
   obtain⟨x,rfl⟩:∃x,A=[x]:=eg.1 h1;have hx:P x:=pA x (by simp);have gx:gt D a=x:=gA 0 (by simp)
   obtain⟨s,b1,b2,b3,b4,b5⟩:=YL (f:=zj C (Sl.mk D) (a:Int)) (fun h=>lt (gt D h) x) m b (by omega) (fun i j hi hij hj=>by
    obtain⟨r,hr,hr2⟩:=hC (gt D ((i+j)/2)) x (by have:=gB ((i+j)/2-m) (by omega);rw[show m+((i+j)/2-m)=(i+j)/2 by omega]at this;rw[this];exact pB _ (kQ (by omega))) hx;simp only[zj,Sl.l];rw[decide_eq_true (by omega),cond_true,uh (by omega),og (show(i+j)/2<D.length by omega),ae,og (show a<D.length by omega),ae,gx,hr,ae,hr2];cases hlt:lt (gt D ((i+j)/2)) x with
    |true=>
     have w:wr .i64 ((((i+j)/2:Nat):Int)+1)=(((i+j)/2+1:Nat):Int):=by rw[wq (by omega) (by omega)];omega
     rw[cond_true,w];rfl
    |false=>rfl) (fun i=>by simp only[zj];rw[decide_eq_false (by omega)];rfl)
   generalize hj:s-m=j;have hj2:j<=B.length:=by omega
   have q1:∀y∈B.take j,lt y x=true:=by
    intro y hy;refine On hs sA sB (k:=0) (j:=j) ?_ hj2 x (by simp) y hy;rcases b4 with b4|⟨b4,b6⟩
    .exact .inr (.inl (by omega))
    .refine .inr (.inr ?_);have:=gB (j-1) (by omega);rw[show m+(j-1)=s-1 by omega]at this;rw[<-this];simpa[gt]using b6
   have q2:∀y∈B.drop j,lt y x=false:=by
    intro y hy;refine Oo hs sA sB (k:=1) (j:=j) ?_ (by simp) x (by simp) y hy;rcases b5 with b5|⟨b5,b6⟩
    .exact .inr (.inl (by omega))
    .refine .inr (.inr ?_);have:=gB j (by omega);rw[show m+j=s by omega]at this;rw[<-this];simpa[gt]using b6
   have hBB:B=B.take j++B.drop j:=(cg j B).symm;have hsB:=re.xS (hBB▸sB);have lt1:(B.take j).length=j:=by rw[cD];omega
   refine⟨B.take j++x::B.drop j,?_,by simp;omega,?_,?_⟩
   .have e1:((([x].length:Nat):Int)==1)=true:=rfl;rw[e1,cond_true,b3,ae];have mv:=UM (s:=s) x (B.drop j++Y) (by omega) (B.take j) X (by rw[lt1];simp at hm;omega);have e2:D=X++x::(B.take j++(B.drop j++Y)):=by rw[<-hD,<-aM (B.take j),cg];simp
    rw[e2,<-ha,mv,ae];simp
   .refine re.yZ hsB.1 (fW.2 ⟨q2,hsB.2.1⟩) fun z hz y hy=>?_;rcases aW.1 hy with hy|hy
    .rw [hy];exact hs.QT (q1 z hz)
    .exact hsB.2.2 z hz y hy
   .have h2:=(Py hs q1).yZ (hN.refl (lt:=lt) (B.drop j));have e3:B.take j++[x]++B.drop j=B.take j++x::B.drop j:=by simp
    have e4:x::B.take j++B.drop j=[x]++B:=by simp
    rw[e3,e4]at h2;exact h2
  have e1:(((A.length:Nat):Int)==1)=false:=by rw[beq_eq_false_iff_ne];omega
  rw[e1,cond_false];by_cases h2:B.length=1
  .--one behind
   obtain⟨x,rfl⟩:∃x,B=[x]:=eg.1 h2;have hx:P x:=pB x (by simp);have gx:gt D m=x:=gB 0 (by simp)
   obtain⟨s,b1,b2,b3,b4,b5⟩:=YL (f:=zh C (Sl.mk D) (m:Int)) (fun h=>!(lt x (gt D h))) a m (by omega) (fun i j hi hij hj=>by
    obtain⟨r,hr,hr2⟩:=hC x (gt D ((i+j)/2)) hx (by have:=gA ((i+j)/2-a) (by omega);rw[show a+((i+j)/2-a)=(i+j)/2 by omega]at this;rw[this];exact pA _ (kQ (by omega)));simp only[zh,Sl.l];rw[decide_eq_true (by omega),cond_true,og (show m<D.length by simp at hbb;omega),ae,uh (by omega),og (show(i+j)/2<D.length by omega),ae,gx,hr,ae,hr2];cases hlt:lt x (gt D ((i+j)/2))with
    |false=>
     have w:wr .i64 ((((i+j)/2:Nat):Int)+1)=(((i+j)/2+1:Nat):Int):=by rw[wq (by omega) (by omega)];omega
     rw[jY,cond_true,w];rfl
    |true=>rfl) (fun i=>by simp only[zh];rw[decide_eq_false (by omega)];rfl)
   generalize hk:s-a=k;have hk2:k<=A.length:=by omega
   have q1:∀z∈A.take k,lt x z=false:=by
    intro z hz;refine Oo hs sA sB (k:=k) (j:=0) ?_ hk2 z hz x (by simp);rcases b4 with b4|⟨b4,b6⟩
    .exact .inl (by omega)
    .refine .inr (.inr ?_);have:=gA (k-1) (by omega);rw[show a+(k-1)=s-1 by omega]at this;rw[<-this];simpa[gt]using b6
   have q2:∀z∈A.drop k,lt x z=true:=by
    intro z hz;refine On hs sA sB (k:=k) (j:=1) ?_ (by simp) z hz x (by simp);rcases b5 with b5|⟨b5,b6⟩
    .exact .inl (by omega)
    .refine .inr (.inr ?_);have:=gA k (by omega);rw[show a+k=s by omega]at this;rw[<-this];simpa[gt]using b6
   have hAA:A=A.take k++A.drop k:=(cg k A).symm;have hsA:=re.xS (hAA▸sA);have lt1:(A.take k).length=k:=by rw[cD];omega
   refine⟨A.take k++x::A.drop k,?_,by simp;omega,?_,?_⟩
   .have e2:((([x].length:Nat):Int)==1)=true:=rfl;rw[e2,cond_true,b3,ae];have mv:=UN (s:=s) x (X++A.take k) (by rw[ap,lt1];omega) (A.drop k).reverse Y (by rw[jL,cE];omega)
    have e3:D=X++A.take k++(A.drop k).reverse.reverse++x::Y:=by
     have e5:X++A.take k++A.drop k=X++A:=by rw[aM,cg]
     rw[<-hD,List.reverse_reverse,e5];simp
    have e4:(m:Int)=((s+(A.drop k).reverse.length:Nat):Int):=by rw[jL,cE];omega
    rw[e3,e4,mv,ae];simp
   .refine re.yZ hsA.1 (fW.2 ⟨fun y hy=>hs.QT (q2 y hy),hsA.2.1⟩) fun z hz y hy=>?_;rcases aW.1 hy with hy|hy
    .rw [hy];exact q1 z hz
    .exact hsA.2.2 z hz y hy
   .have h3:=(hN.refl (lt:=lt) (A.take k)).yZ (hN.Pq hs (u:=[x]) (v:=A.drop k) fun z hz y hy=>by rw[aq.1 hz];unfold yW;rw[q2 y hy];rfl);have e3:A.take k++([x]++A.drop k)=A.take k++x::A.drop k:=by simp
    have e4:A.take k++(A.drop k++[x])=A++[x]:=by rw[<-aM,cg]
    rw[e3,e4]at h3;exact h3
  have e2:(((B.length:Nat):Int)==1)=false:=by rw[beq_eq_false_iff_ne];omega
  rw[e2,cond_false,uh (by omega)];generalize hmid:(a+b)/2=mid;have hmid1:2*mid<=a+b:=by omega
  have hmid2:a+b<=2*mid+1:=by omega
  have w3:wr .i64 ((mid:Int)+(m:Int))=((mid+m:Nat):Int):=by rw[wq (by omega) (by omega)];omega
  have w4:wr .i64 (((mid+m:Nat):Int)-1)=((mid+m-1:Nat):Int):=by rw[wq (by omega) (by omega)];omega
  have w5:wr .i64 (((mid+m:Nat):Int)-(b:Int))=((mid+m:Nat):Int)-(b:Int):=wq (by omega) (by omega);rw[w3,w5]
  obtain⟨lo,hi,hlh,hlo,hhi,dR⟩:∃lo hi:Nat,lo<=hi/\(lo=a/\m<=mid\/lo+b=mid+m/\mid<m)/\(hi=m/\m<=mid\/hi=mid/\mid<m)/\(bif decide ((m:Int)>(mid:Int))then some (((mid+m:Nat):Int)-(b:Int),(mid:Int))else some ((a:Int),(m:Int)):Option (Int×Int))=some ((lo:Int),(hi:Int)):=by
   by_cases hc:mid<m
   .refine ⟨mid+m-b,mid,by omega,.inr ⟨by omega,hc⟩,.inr ⟨rfl,hc⟩,?_⟩;rw[decide_eq_true (by omega),cond_true];congr 2;omega
   .refine ⟨a,m,by omega,.inl ⟨rfl,by omega⟩,.inl ⟨rfl,by omega⟩,?_⟩;rw[decide_eq_false (by omega),cond_false]
  rw[dR];simp only[ae]
  obtain⟨s,b1,b2,b3,b4,b5⟩:=YL (f:=zf C (Sl.mk D) (a:Int) (m:Int) (b:Int)) (fun c=>!(lt (gt D (mid+m-1-c)) (gt D c))) lo hi hlh (fun i j hi1 hij hj=>by
   generalize hc:(i+j)/2=c;have hc1:lo<=c:=by omega
   have hc2:c<hi:=by omega
   have r1:a<=c/\c<m/\m<=mid+m-1-c/\mid+m-1-c<b:=by omega
   obtain⟨r,hr,hr2⟩:=hC (gt D (mid+m-1-c)) (gt D c) (by
    have:=gB (mid+m-1-c-m) (by omega);rw[show m+(mid+m-1-c-m)=mid+m-1-c by omega]at this;rw[this];exact pB _ (kQ (by omega))) (by
    have:=gA (c-a) (by omega);rw[show a+(c-a)=c by omega]at this;rw[this];exact pA _ (kQ (by omega)))
   simp only[zf,Sl.l];have w6:wr .i64 (((mid+m-1:Nat):Int)-(c:Int))=((mid+m-1-c:Nat):Int):=by rw[wq (by omega) (by omega)];omega
   rw[decide_eq_true (by omega),cond_true,uh (i:=a) (j:=b) (by omega),hmid,w3,w4,uh (i:=i) (j:=j) (by omega),hc,w6,og (show mid+m-1-c<D.length by omega),ae,og (show c<D.length by omega),ae,hr,ae,hr2];cases hlt:lt (gt D (mid+m-1-c)) (gt D c)with
   |false=>
    have w:wr .i64 ((c:Int)+1)=((c+1:Nat):Int):=by rw[wq (by omega) (by omega)];omega
    rw[jY,cond_true,w];rfl
   |true=>rfl) (fun i=>by simp only[zf];rw[decide_eq_false (by omega)];rfl)
  rw[b3,ae];have w7:wr .i64 (((mid+m:Nat):Int)-(s:Int))=((mid+m-s:Nat):Int):=by rw[wq (by omega) (by omega)];omega
  rw[w7];generalize he:mid+m-s=e;have rs:a<=s/\s<=m/\m<=e/\e<=b:=by omega
  generalize hk:s-a=k;generalize hj:e-m=j;have hk2:k<=A.length:=by omega
  have hj2:j<=B.length:=by omega
  have H1:k=0\/j=B.length\/lt (gt B j) (gt A (k-1))=false:=by
   rcases b4 with b4|⟨b4,b6⟩
   .rcases hlo with hlo|hlo
    .exact .inl (by omega)
    .exact .inr (.inl (by omega))
   .by_cases hjb:j=B.length
    .exact .inr (.inl hjb)
    .refine .inr (.inr ?_);have t1:=gB j (by omega);have t2:=gA (k-1) (by omega);rw[show m+j=mid+m-1-(s-1)by omega]at t1;rw[show a+(k-1)=s-1 by omega]at t2;rw[<-t1,<-t2];simpa using b6
  have H2:k=A.length\/j=0\/lt (gt B (j-1)) (gt A k)=true:=by
   rcases b5 with b5|⟨b5,b6⟩
   .rcases hhi with hhi|hhi
    .exact .inl (by omega)
    .exact .inr (.inl (by omega))
   .refine .inr (.inr ?_);have t1:=gB (j-1) (by omega);have t2:=gA k (by omega);rw[show m+(j-1)=mid+m-1-s by omega]at t1;rw[show a+k=s by omega]at t2;rw[<-t1,<-t2];simpa using b6
  have C1:=Oo hs sA sB H1 hk2;have C2:=On hs sA sB H2 hj2;generalize hA1:A.take k=A1 at C1;generalize hA2:A.drop k=A2 at C2;generalize hB1:B.take j=B1 at C2;generalize hB2:B.drop j=B2 at C1;have eA:A=A1++A2:=by rw[<-hA1,<-hA2,cg]
  have eB:B=B1++B2:=by rw[<-hB1,<-hB2,cg]
  have lA1:A1.length=k:=by rw[<-hA1,cD];omega
  have lA2:A2.length=A.length-k:=by rw[<-hA2,cE]
  have lB1:B1.length=j:=by rw[<-hB1,cD];omega
  have lB2:B2.length=B.length-j:=by rw[<-hB2,cE]
  have sA':=re.xS (eA▸sA);have sB':=re.xS (eB▸sB)
  -- the blocks change places
  have hrot:(bif(decide ((s:Int)<(m:Int))&&decide ((m:Int)<((e:Nat):Int)))then(PF (Sl.mk D) (s:Int) (m:Int) (e:Int)).bind (fun s47=>(kE s47 (Sl.mk D)).bind fun _=>some s47)else some (Sl.mk D))=some (Sl.mk (X++A1++B1++A2++B2++Y)):=by
   have eD:D=X++A1++A2++B1++(B2++Y):=by rw[<-hD,eA,eB];simp
   by_cases hc:s<m/\m<e
   .rw [decide_eq_true (by omega),decide_eq_true (by omega),kN,cond_true,eD];have hr:=Mx (a:=s) (m:=m) (b:=e) (U:=A2) (V:=B1) (X:=X++A1) (Y:=B2++Y) (by intro h;rw[h]at lA2;simp at lA2;omega) (by intro h;rw[h]at lB1;simp at lB1;omega) (by simp;omega) (by simp;omega) (by omega) (by omega);rw[hr,ae,x6 (by simp;omega),ae];simp
   .have hcf:(decide ((s:Int)<(m:Int))&&decide ((m:Int)<((e:Nat):Int)))=false:=by
     rw[ja];by_cases h3:s<m
     .right;exact decide_eq_false (by omega)
     .left;exact decide_eq_false (by omega)
    rw[hcf,cond_false,eD];by_cases h3:s<m
    .have:B1=[]:=aO.1 (by omega);rw[this];simp
    .have:A2=[]:=aO.1 (by omega);rw[this];simp
  rw[hrot,ae];have pow:2^(f+1)=2*2^f:=by rw[Nat.pow_succ,Nat.mul_comm]
  -- one uh
  obtain⟨M1,m1,m2,m3,m4⟩:∃M1,(bif(decide ((a:Int)<(s:Int))&&decide ((s:Int)<(mid:Int)))then(p8 C f (Sl.mk (X++A1++B1++A2++B2++Y)) (a:Int) (s:Int) (mid:Int)).bind (fun s49=>(kE s49 (Sl.mk (X++A1++B1++A2++B2++Y))).bind fun _=>some s49)else some (Sl.mk (X++A1++B1++A2++B2++Y)))=some (Sl.mk (X++M1++A2++B2++Y))/\M1.length=A1.length+B1.length/\re lt M1/\hN lt M1 (A1++B1):=by
   by_cases hc:a<s/\s<mid
   .rw [decide_eq_true (by omega),decide_eq_true (by omega),kN,cond_true];obtain⟨M,m1,m2,m3,m4⟩:=wn hs hC f A1 B1 X (A2++B2++Y) (by intro h;rw[h]at lA1;simp at lA1;omega) (by intro h;rw[h]at lB1;simp at lB1;omega) (by omega) sA'.1 sB'.1 (fun x hx=>pA x (by rw[eA];exact aU _ hx)) (fun x hx=>pB x (by rw[eB];exact aU _ hx)) (by omega);have q1:X.length+A1.length=s:=by omega
    have q2:s+B1.length=mid:=by omega
    rw[q1,q2,ha]at m1;have q3:X++A1++B1++A2++B2++Y=X++A1++B1++(A2++B2++Y):=by simp
    refine⟨M,?_,m2,m3,m4⟩;rw[q3,m1,ae,x6 (by simp;omega),ae];simp
   .have hcf:(decide ((a:Int)<(s:Int))&&decide ((s:Int)<(mid:Int)))=false:=by
     rw[ja];by_cases h3:a<s
     .right;exact decide_eq_false (by omega)
     .left;exact decide_eq_false (by omega)
    rw[hcf,cond_false];by_cases h3:a<s
    .have h4:B1=[]:=aO.1 (by omega);rw[h4];exact⟨A1,by simp,by simp,sA'.1,by rw[aV];exact .refl _⟩
    .have h4:A1=[]:=aO.1 (by omega);rw[h4];exact⟨B1,by simp,by simp,sB'.1,.refl _⟩
  rw[m1,ae];have hM1l:M1.length=mid-a:=by omega
  -- the EZ uh
  obtain⟨M2,n1,n2,n3,n4⟩:∃M2,(bif(decide ((mid:Int)<((e:Nat):Int))&&decide (((e:Nat):Int)<(b:Int)))then(p8 C f (Sl.mk (X++M1++A2++B2++Y)) (mid:Int) (e:Int) (b:Int)).bind (fun s51=>(kE s51 (Sl.mk (X++M1++A2++B2++Y))).bind fun _=>some s51)else some (Sl.mk (X++M1++A2++B2++Y)))=some (Sl.mk (X++M1++M2++Y))/\M2.length=A2.length+B2.length/\re lt M2/\hN lt M2 (A2++B2):=by
   by_cases hc:mid<e/\e<b
   .rw [decide_eq_true (by omega),decide_eq_true (by omega),kN,cond_true];obtain⟨M,m1,m2,m3,m4⟩:=wn hs hC f A2 B2 (X++M1) Y (by intro h;rw[h]at lA2;simp at lA2;omega) (by intro h;rw[h]at lB2;simp at lB2;omega) (by omega) sA'.2.1 sB'.2.1 (fun x hx=>pA x (by rw[eA];exact aX _ hx)) (fun x hx=>pB x (by rw[eB];exact aX _ hx)) (by rw[ap];omega);have q0:(X++M1).length=mid:=by rw[ap];omega
    have q1:mid+A2.length=e:=by omega
    have q2:e+B2.length=b:=by omega
    rw[q0,q1,q2]at m1;refine⟨M,?_,m2,m3,m4⟩;rw[m1,ae,x6 (by simp;omega),ae]
   .have hcf:(decide ((mid:Int)<((e:Nat):Int))&&decide (((e:Nat):Int)<(b:Int)))=false:=by
     rw[ja];by_cases h3:mid<e
     .right;exact decide_eq_false (by omega)
     .left;exact decide_eq_false (by omega)
    rw[hcf,cond_false];by_cases h3:mid<e
    .have h4:B2=[]:=aO.1 (by omega);rw[h4];exact⟨A2,by simp,by simp,sA'.2.1,by rw[aV];exact .refl _⟩
    .have h4:A2=[]:=aO.1 (by omega);rw[h4];exact⟨B2,by simp,by simp,sB'.2.1,.refl _⟩
  refine⟨M1++M2,?_,by rw[ap];omega,?_,?_⟩
  .rw [show X++(M1++M2)++Y=X++M1++M2++Y by simp];exact n1
  .refine re.yZ m3 n3 fun x hx y hy=>?_;have hx:=(m4.xW hs).1 hx;have hy:=(n4.xW hs).1 hy;rcases aC.1 hx with hx|hx<;>rcases aC.1 hy with hy|hy
   .exact sA'.2.2 x hx y hy
   .exact C1 x hx y hy
   .exact hs.QT (C2 y hy x hx)
   .exact sB'.2.2 x hx y hy
  .refine (m4.yZ n4).trans ?_;rw[eA,eB];have h5:=((hN.refl (lt:=lt) A1).yZ ((hN.Pq hs (u:=B1) (v:=A2) fun x hx y hy=>by unfold yW;rw[C2 y hy x hx];rfl).yZ (hN.refl (lt:=lt) B2)))
   have q1:A1++(B1++A2++B2)=A1++B1++(A2++B2):=by simp
   have q2:A1++(A2++B1++B2)=A1++A2++(B1++B2):=by simp
   rw[q1,q2]at h5;exact h5
end
section
variable{α:Type}[Inhabited α]{C:α->α->Option Int}{lt:α->α->Bool}{P:α->Prop}
inductive Bf(lt:α->α->Bool)(bs:Nat):List α->Prop
 |Dq {x:List α}:x.length<=bs->re lt x->Bf lt bs x
 |HD {x r:List α}:x.length=bs->re lt x->Bf lt bs r->Bf lt bs (x++r)
theorem wa{β:Type}{lt:β->β->Bool}{bs:Nat}{l:List β}(h:Bf lt bs l)(hl:l.length<=bs):re lt l:=by cases h with|Dq _ h=>exact h|@HD x r h1 h2 h3=>have:r=[]:=aO.1 (by rw[ap]at hl;omega);rw[this,aV];exact h2
def T5(lt:α->α->Bool)(bs:Nat)(D:List α):Prop:=∀T,Bf lt bs T->Bf lt bs (D++T)
theorem T5.add{β:Type}{lt:β->β->Bool}{bs:Nat}{D M:List β}(h:T5 lt bs D)(hl:M.length=bs)(hs:re lt M):T5 lt bs (D++M):=fun T hT=>by rw[aM];exact h _ (.HD hl hs hT)
theorem YY(hs:za lt)(hC:O8 C lt P){n:Nat}(hn:n<1152921504606846976):∀(k:Nat)(R D:List α),R.length<=k->D.length+R.length=n->(∀x∈R,P x)->T5 lt 20 D->
  ∃D' R',aP (zm C (n:Int)) (((D.length:Nat):Int),((D.length+20:Nat):Int),Sl.mk (D++R))=some (((D'.length:Nat):Int),Sl.mk (D'++R'))/\R'.length<20/\T5 lt 20 D'/\D'.length+R'.length=n/\hN lt (D'++R') (D++R)/\(∀x∈R',P x)
 |k,R,D,hk,hl,hP,hD=>by
  by_cases hc:20<=R.length
  .obtain ⟨M,m1,m2,m3,m4⟩:=x_ hs hC (a:=D.length) (b:=D.length+20) (X:=D) (L:=R.take 20) (Y:=R.drop 20) rfl (by rw[cD];omega) (by omega) (fun y hy=>hP y (List.mem_of_mem_take hy));have m2':M.length=20:=by rw[m2,cD];omega
   have e1:D++R.take 20++R.drop 20=D++R:=by rw[aM,cg]
   rw[e1]at m1
   match k,hk with
   |0,hk=>omega
   |k+1,hk=>
    obtain⟨D',R',i1,i2,i3,i4,i5,i6⟩:=YY hs hC hn k (R.drop 20) (D++M) (by rw[cE];omega) (by rw[ap,cE];omega) (fun y hy=>hP y (List.mem_of_mem_drop hy)) (hD.add m2' m3);refine⟨D',R',(bX (a':=((((D++M).length:Nat):Int),(((D++M).length+20:Nat):Int),Sl.mk (D++M++R.drop 20))) ?_).trans i1,i2,i3,i4,i5.trans ?_,i6⟩
    .simp only[zm];have w1:wr .i64 (((D.length+20:Nat):Int)+20)=(((D++M).length+20:Nat):Int):=by rw[wq (by omega) (by omega),ap];omega
     have w2:((D.length+20:Nat):Int)=(((D++M).length:Nat):Int):=by rw[ap];omega
     rw[decide_eq_true (by omega),cond_true,m1,ae,x6 (by simp;omega),ae,w1,w2]
    .have:=((hN.refl (lt:=lt) D).yZ m4).yZ (hN.refl (lt:=lt) (R.drop 20));rw[e1]at this;exact this
  .refine ⟨D,R,bt ?_,by omega,hD,hl,.refl _,hP⟩;simp only[zm];rw[decide_eq_false (by omega),cond_false]
theorem YX(hs:za lt)(hC:O8 C lt P){f n bs:Nat}(hn:n<288230376151711744)(hf:n<=2^f)(h1:1<=bs)(hbs:bs<n):∀(k:Nat)(R D:List α),R.length<=k->D.length+R.length=n->(∀x∈R,P x)->T5 lt (2*bs) D->Bf lt bs R->
  ∃D' R',aP (uE C f (n:Int) (bs:Int)) (((D.length:Nat):Int),((D.length+2*bs:Nat):Int),Sl.mk (D++R))=some (((D'.length:Nat):Int),Sl.mk (D'++R'))/\R'.length<2*bs/\T5 lt (2*bs) D'/\D'.length+R'.length=n/\hN lt (D'++R') (D++R)/\(∀x∈R',P x)/\Bf lt bs R'
 |k,R,D,hk,hl,hP,hD,hR=>by
  by_cases hc:2*bs<=R.length
  .obtain ⟨A,B,Y,eR,lA,lB,sA,sB,hY⟩:∃A B Y,R=A++B++Y/\A.length=bs/\B.length=bs/\re lt A/\re lt B/\Bf lt bs Y:=by
    cases hR with
    |Dq h=>omega
    |@HD x r h2 h3 h4=>rw[ap]at hc;cases h4 with|Dq h5 h6=>exact⟨x,r,[],by simp,h2,by omega,h3,h6,.Dq (by simp) .nil⟩|@HD y r' h5 h6 h7=>exact⟨x,y,r',by simp,h2,h5,h3,h6,h7⟩
   subst eR;simp only[ap]at hk hl hc;obtain⟨M,m1,m2,m3,m4⟩:=wn hs hC f A B D Y (by intro h;rw[h]at lA;simp at lA;omega) (by intro h;rw[h]at lB;simp at lB;omega) (by omega) sA sB (fun x hx=>hP x (by simp[hx])) (fun x hx=>hP x (by simp[hx])) (by omega);have m2':M.length=2*bs:=by omega
   match k,hk with
   |0,hk=>omega
   |k+1,hk=>
    obtain⟨D',R',i1,i2,i3,i4,i5,i6,i7⟩:=YX hs hC hn hf h1 hbs k Y (D++M) (by omega) (by rw[ap];omega) (fun x hx=>hP x (by simp[hx])) (hD.add m2' m3) hY;refine⟨D',R',(bX (a':=((((D++M).length:Nat):Int),(((D++M).length+2*bs:Nat):Int),Sl.mk (D++M++Y))) ?_).trans i1,i2,i3,i4,i5.trans ?_,i6,i7⟩
    .simp only[uE];have w0:wr .i64 (2*(bs:Int))=((2*bs:Nat):Int):=by rw[wq (by omega) (by omega)];omega
     have w1:wr .i64 (((D.length+2*bs:Nat):Int)+((2*bs:Nat):Int))=(((D++M).length+2*bs:Nat):Int):=by rw[wq (by omega) (by omega),ap];omega
     have w2:wr .i64 (((D.length:Nat):Int)+(bs:Int))=((D.length+A.length:Nat):Int):=by rw[wq (by omega) (by omega)];omega
     have w3:((D.length+2*bs:Nat):Int)=((D.length+A.length+B.length:Nat):Int):=by omega
     have e1:D++(A++B++Y)=D++A++B++Y:=by simp
     rw[decide_eq_true (by omega),cond_true,w0,w1,w2,w3,e1,m1,ae,x6 (by simp;omega),ae];have w4:((D.length+A.length+B.length:Nat):Int)=(((D++M).length:Nat):Int):=by rw[ap];omega
     rw[w4]
    .have:=((hN.refl (lt:=lt) D).yZ m4).yZ (hN.refl (lt:=lt) Y);have e1:D++(A++B)++Y=D++(A++B++Y):=by simp
     rw[e1]at this;exact this
  .refine ⟨D,R,bt ?_,by omega,hD,hl,.refl _,hP,hR⟩;simp only[uE];rw[decide_eq_false (by omega),cond_false]
theorem YW(hs:za lt)(hC:O8 C lt P){f n:Nat}(hn:n<288230376151711744)(hf:n<=2^f):∀(k bs:Nat)(D:List α),n-bs<=k->1<=bs->bs<=576460752303423488->D.length=n->(∀x∈D,P x)->Bf lt bs D->
  ∃M,aP (uD C f (n:Int)) ((bs:Int),Sl.mk D)=some (Sl.mk M)/\M.length=n/\re lt M/\hN lt M D
 |k,bs,D,hk,h1,hb,hl,hP,hD=>by
  by_cases hc:bs<n
  .obtain ⟨D',R',i1,i2,i3,i4,i5,i6,i7⟩:=YX hs hC hn hf h1 hc _ D [] (am _) (by simpa using hl) hP (fun T hT=>hT) hD;have e0:((([]:List α).length:Nat):Int)=0:=rfl;have e1:((([]:List α).length+2*bs:Nat):Int)=wr .i64 (2*(bs:Int)):=by rw[wq (by omega) (by omega)];simp
   rw[e0,e1,cz]at i1;rw[cz]at i5
   obtain⟨E,j1,j2,j3,j4⟩:∃E,(bif decide (wr .i64 (((D'.length:Nat):Int)+(bs:Int))<(n:Int))then(p8 C f (Sl.mk (D'++R')) ((D'.length:Nat):Int) (wr .i64 (((D'.length:Nat):Int)+(bs:Int))) (n:Int)).bind (fun s29=>(kE s29 (Sl.mk (D'++R'))).bind fun _=>some s29)else some (Sl.mk (D'++R')))=some (Sl.mk E)/\E.length=n/\Bf lt (2*bs) E/\hN lt E (D'++R'):=by
    have w1:wr .i64 (((D'.length:Nat):Int)+(bs:Int))=((D'.length+bs:Nat):Int):=by rw[wq (by omega) (by omega)];omega
    rw[w1];by_cases hd:D'.length+bs<n
    .obtain ⟨A,B,eR,lA,lB,sA,sB⟩:∃A B,R'=A++B/\A.length=bs/\0<B.length/\re lt A/\re lt B:=by cases i7 with|Dq h=>omega|@HD x r h2 h3 h4=>rw[ap]at i2 i4;exact⟨x,r,rfl,h2,by omega,h3,wa h4 (by omega)⟩
     subst eR;rw[ap]at i2 i4;obtain⟨M,m1,m2,m3,m4⟩:=wn hs hC f A B D' [] (by intro h;rw[h]at lA;simp at lA;omega) (by intro h;rw[h]at lB;simp at lB) (by omega) sA sB (fun x hx=>i6 x (by simp[hx])) (fun x hx=>i6 x (by simp[hx])) (by omega);simp only[aV]at m1;have w2:((D'.length+bs:Nat):Int)=((D'.length+A.length:Nat):Int):=by omega
     have w3:(n:Int)=((D'.length+A.length+B.length:Nat):Int):=by omega
     have e2:D'++(A++B)=D'++A++B:=by simp
     refine⟨D'++M,?_,by rw[ap];omega,i3 _ (.Dq (by omega) m3),(hN.refl (lt:=lt) D').yZ m4⟩;rw[decide_eq_true (by omega),cond_true,w2,w3,e2,m1,ae,x6 (by simp;omega),ae]
    .refine ⟨D'++R',?_,by rw[ap];omega,i3 _ (.Dq (by omega) (wa i7 (by omega))),.refl _⟩;rw[decide_eq_false (by omega),cond_false]
   have hE:hN lt E D:=j4.trans i5
   match k,hk with
   |0,hk=>omega
   |k+1,hk=>
    obtain⟨M,m1,m2,m3,m4⟩:=YW hs hC hn hf k (2*bs) E (by omega) (by omega) (by omega) j2 (fun x hx=>hP x ((hE.xW hs).1 hx)) j3;refine⟨M,(bX (a':=(((2*bs:Nat):Int),Sl.mk E)) ?_).trans m1,m2,m3,m4.trans hE⟩;simp only[uD];have w4:wr .i64 ((bs:Int)*2)=((2*bs:Nat):Int):=by rw[wq (by omega) (by omega)];omega
    rw[decide_eq_true (by omega),cond_true,i1,ae];simp only[];rw[j1,ae,w4]
  .refine ⟨D,bt ?_,hl,wa hD (by omega),.refl _⟩;simp only[uD];rw[decide_eq_false (by omega),cond_false]
theorem Mc(hs:za lt)(hC:O8 C lt P){f:Nat}{l:List α}(hn:l.length<288230376151711744)(hf:l.length<=2^f)(hP:∀x∈l,P x):
  ∃M,R8 C f (Sl.mk l)=some (Sl.mk M)/\M.length=l.length/\re lt M/\hN lt M l:=by
 unfold R8 Uj;obtain⟨D,R,i1,i2,i3,i4,i5,i6⟩:=YY hs hC (n:=l.length) (by omega) _ l [] (am _) (by simp) hP (fun T hT=>hT);obtain⟨M,m1,m2,m3,m4⟩:=x_ hs hC (a:=D.length) (b:=l.length) (X:=D) (L:=R) (Y:=[]) rfl (by omega) (by omega) i6;simp only[aV]at m1;have hS:hN lt (D++M) l:=by have:=(hN.refl (lt:=lt) D).yZ m4;rw[cz]at i5;exact this.trans i5
 obtain⟨E,e1,e2,e3,e4⟩:=YW hs hC (f:=f) (n:=l.length) hn hf _ 20 (D++M) (am _) (by omega) (by omega) (by rw[ap];omega) (fun x hx=>hP x ((hS.xW hs).1 hx)) (i3 _ (.Dq (by omega) m3));refine⟨E,?_,e2,e3,e4.trans hS⟩;have q0:((([]:List α).length:Nat):Int)=0:=rfl;have q1:((([]:List α).length+20:Nat):Int)=20:=rfl;have q2:((20:Nat):Int)=20:=rfl;rw[q0,q1,cz]at i1;rw[q2]at e1;simp only[Sl.l];rw[i1,ae];simp only[];rw[m1,ae,x6 (by simp;omega),ae,e1,ae,ae,x6 e2,ae]
end
end Go.Ev
