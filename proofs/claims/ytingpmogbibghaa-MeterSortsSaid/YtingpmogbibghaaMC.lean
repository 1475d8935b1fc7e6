/- MeterSorts: what is sorted is the same numbers, in one row; the middle, the spread. Conditions: words of 64 bits; at most 40 of them. -/
import Derived.Test.YtingpmogbibghaaMB
import Derived.Test.YtingpmogbibghaaSm
open Bool renaming not_false->LO,not_true->Mj
open List renaming append_nil->be,length_append->bh,length_map->aH,map_congr_left->g_,mem_cons->aE,mem_map->c8,mem_singleton->ao,pairwise_cons->LL
open Option renaming bind_some->aR
open Go.Ev Go Go.Fl
namespace Go.Proofs.Ytingpmogbibghaa.M
theorem NY:∀n,er n=MP LD n
 |0=>rfl
 |n+1=>by show LG (er n)=NZ LD (MP LD n);rw[NY n];rfl
theorem O3(n i:Int):LC n i=M0 LD 8 n i:=by unfold LC;rw[NY];rfl
theorem O2(n:Int):LH n=MZ LD 8 n:=by unfold LH;rw[NY];have:LC n=M0 LD 8 n:=funext fun i=>O3 n i;rw[this];rfl
theorem Ph(s:Sl Nat):Lz s=Ow LD 8 s:=by unfold Lz LI;rw[O2];rfl
def Od(a b:Nat):Bool:=decide (fK a<fK b)
theorem M5:NP Od:=⟨fun x=>decide_eq_false (by omega),fun x y z h1 h2=>by
 have h1:=of_decide_eq_true h1;have h2:=of_decide_eq_true h2;exact decide_eq_true (by omega),fun x y z h1 h2=>by
 have h1:=of_decide_eq_false h1;have h2:=of_decide_eq_false h2;exact decide_eq_false (by omega)⟩
theorem Pq:Pc LD Od (fun n=>oz n):=fun x y hx hy=>by
 refine⟨_,Ov hx hy,?_⟩;unfold Od;rcases Nat.lt_trichotomy (fK x) (fK y)with h|h|h
 .rw [MR (by omega),decide_eq_true h];rfl
 .rw [NC (by omega),decide_eq_false (show¬fK x<fK y by omega)];rfl
 .rw [M3 (by omega),decide_eq_false (show¬fK x<fK y by omega)];rfl
def Mt{α:Type}:List α->Sl α
 |[]=>.nil
 |x::l=>.mk (x::l)
theorem Po{α:Type}(l:List α):(Sl.mk l).l=l:=rfl
theorem Md{α:Type}(l:List α):(Mt l).l=l:=by cases l<;>rfl
theorem NB{α:Type}{l:List α}(h:l≠[]):Mt l=.mk l:=by cases l with|nil=>exact absurd rfl h|cons=>rfl
theorem OE{n:Nat}(h:n<9223372036854775807):wr .i64 ((n:Int)+1)=((n+1:Nat):Int):=by rw[wq (by omega) (by omega)];omega
theorem ER{α β:Type}[Inhabited α]{f:Int×Sl β->Option ((Int×Sl β)⊕Sl β)}(l:List α)(g:α->β)
  (h1:∀(i:Nat)(s:Sl β),i<l.length->s.l.length=i->f ((i:Int),s)=some (.inl (((i+1:Nat):Int),Sl.mk (s.l++[g (gt l i)]))))
  (h2:∀s:Sl β,f ((l.length:Int),s)=some (.inr s)):zu f (0,Sl.nil)=some (Mt (l.map g)):=by
 have key:∀(R O:List α)(s:Sl β),l=O++R->s=Mt (O.map g)->zu f ((O.length:Int),s)=some (Mt (l.map g)):=by
  intro R;induction R with
  |nil=>
   intro O s e hs;have e:l=O:=by rw[e,be]
   subst e;rw[hs];exact LJ (h2 _)
  |cons x R ih=>
   intro O s e hs;have hx:gt l O.length=x:=by rw[e];exact Nk
   have h:=h1 O.length s (by rw[e];simp) (by rw[hs,Md,aH]);rw[hx]at h;refine(LK h).trans ?_;have:=ih (O++[x]) (Sl.mk (s.l++[g x])) (by rw[e];simp) (by rw[hs,Md,List.map_append,NB (by simp)];rfl);rw[bh]at this;exact this
 exact key l [] Sl.nil rfl rfl
theorem Pu{S β:Type}{f:S->Option (S⊕β)}(st:Nat->S)(k:Nat){b:β}(h1:∀i,i<k->f (st i)=some (.inl (st (i+1))))(h2:f (st k)=some (.inr b)):zu f (st 0)=some b:=by
 have:∀(d i:Nat),i+d=k->zu f (st i)=some b:=by
  intro d;induction d with
  |zero=>intro i hi;obtain rfl:i=k:=by omega
         exact LJ h2
  |succ d ih=>intro i hi;exact(LK (h1 i (by omega))).trans (ih (i+1) (by omega))
 exact this k 0 (by omega)
abbrev o4(l:List Nat):List Int:=l.map (fun n:Nat=>(n:Int))
theorem Mu{l:List Nat}{i:Nat}(h:i<l.length):gt (o4 l) i=((gt l i:Nat):Int):=by rw[NO (by rw[aH];exact h),NO h,List.getElem_map]
theorem OW{l:List Nat}(hl:∀x∈l,oz x){i:Nat}(h:i<l.length):oz (gt l i):=hl _ (Np h)
section
variable{l:Sl Int}{L:List Nat}(hl:l.l=o4 L)(hn:L.length<=40)
include hl hn
theorem OU:My l=some (Mt L):=by
 unfold My;have hlen:l.l.length=L.length:=by rw[hl,aH]
 have:=ER (f:=MD l) L id (fun i s hi hs=>by
  simp only[MD];rw[decide_eq_true (by omega),cond_true,M7 (by omega),aR,hl,Mu hi,Eu,aR,QZ.2 ⟨rfl,by simp;omega⟩,aR,OE (by omega)];rfl) (fun s=>by
  simp only[MD];rw[decide_eq_false (by omega),cond_false])
 rw[this,List.map_id];rfl
end
def Nq(L M:List Nat):Prop:=MK Od M/\LP Od M (L.map fM)
theorem Oh{L M:List Nat}(h:Nq L M):∀x,x∈M<->x∈L.map fM:=fun x=>h.2.Oz M5
theorem OL{L:List Nat}(hw:∀x∈L,oz x)(hn:L.length<=40):∃M,Mn (Mt L)=some (Mt M)/\M.length=L.length/\Nq L M:=by
 unfold Mn;have hlen:(Mt L).l.length=L.length:=by rw[Md]
 have:=ER (f:=MC (Mt L)) L fM (fun i s hi hs=>by
  simp only[MC];rw[decide_eq_true (by omega),cond_true,M7 (by omega),aR,Md,pg (OW hw hi),aR,QZ.2 ⟨rfl,by simp;omega⟩,aR,OE (by omega)]) (fun s=>by
  simp only[MC];rw[decide_eq_false (by omega),cond_false])
 rw[this,aR,Ph];by_cases h0:L=[]
 .subst h0;refine⟨[],?_,rfl,.nil,.refl _⟩;rw[List.map_nil];show(Ow LD 8 Sl.nil).bind _=_;rw[O4];rfl
 .have h0':L.map fM≠[]:=fun h=>h0 (List.map_eq_nil_iff.1 h);obtain⟨M,m1,m2,m3,m4⟩:=OJ M5 Pq (f:=8) (l:=L.map fM) (by rw[aH];omega) (by rw[aH];omega) (fun x hx=>by obtain⟨y,hy,rfl⟩:=c8.1 hx;exact p_ (hw y hy));rw[aH]at m2;have hM:M≠[]:=by intro h;rw[h]at m2;exact h0 (List.length_eq_zero_iff.1 m2.symm)
  refine⟨M,?_,m2,m3,m4⟩;rw[NB h0',m1,aR,Nu (by rw[m2,aH]),aR,NB hM]
def MN(n:Nat):List Nat->List Nat
 |[]=>[n]
 |y::r=>bif decide (fK n<fK y)then n::y::r else y::MN n r
theorem O_(n:Nat)(l:List Nat):MN n l≠[]:=by cases l with|nil=>simp[MN]|cons y r=>simp only[MN];cases decide (fK n<fK y)<;>simp
theorem NN(n:Nat):∀l:List Nat,(MN n l).length=l.length+1
 |[]=>rfl
 |y::r=>by
  simp only[MN];cases decide (fK n<fK y)
  .simp [NN n r]
  .simp
theorem NM{n x:Nat}:∀{l:List Nat},x∈MN n l->x=n\/x∈l
 |[],h=>.inl (ao.1 h)
 |y::r,h=>by
  simp only[MN]at h;cases hd:decide (fK n<fK y)
  .rw [hd,cond_false]at h;rcases aE.1 h with h|h
   .exact .inr (by rw[h];exact List.mem_cons_self)
   .rcases NM h with h|h
    .exact .inl h
    .exact .inr (List.mem_cons_of_mem _ h)
  .rw [hd,cond_true]at h;exact(aE.1 h).imp id id
theorem N8{n:Nat}:∀{l:List Nat},MK Od l->MK Od (MN n l)/\LP Od (MN n l) (l++[n])
 |[],_=>⟨List.pairwise_singleton _ _,.refl _⟩
 |y::r,h=>by
  obtain⟨h1,h2⟩:=LL.1 h;simp only[MN];by_cases hd:fK n<fK y
  .rw [decide_eq_true hd,cond_true]
   have hlt:∀z∈y::r,Od n z=true:=by
    intro z hz;rcases aE.1 hz with hz|hz
    .rw [hz];exact decide_eq_true hd
    .have:=of_decide_eq_false (h1 z hz);exact decide_eq_true (by omega)
   refine⟨LL.2 ⟨fun z hz=>M5.O1 (hlt z hz),h⟩,?_⟩;have:=LP.OH M5 (u:=[n]) (v:=y::r) fun x hx z hz=>by rw[ao.1 hx];unfold NU;rw[hlt z hz];rfl
   exact this
  .rw [decide_eq_false hd,cond_false];obtain⟨i1,i2⟩:=N8 (n:=n) h2;refine⟨LL.2 ⟨fun z hz=>?_,i1⟩,?_⟩
   .rcases NM hz with hz|hz
    .rw [hz];exact decide_eq_false hd
    .exact h1 z hz
   .have:=(LP.refl (lt:=Od) [y]).H6 i2;exact this
theorem O8{s:Sl Int}{O:List Nat}{n:Nat}(hs:s.l=o4 O)(hO:∀x∈O,oz x)(hn:oz n)(hb:O.length<=40):M4 s (n:Int)=some (Sl.mk (o4 (MN n O))):=by
 unfold M4;have hlen:s.l.length=O.length:=by rw[hs,aH]
 -- behind it
 have k1:∀(R A:List Nat)(T:Sl Int)(B:List Int),O=A++R->T=Sl.mk B->B.length=A.length+1->zu (LW s (n:Int)) (true,(A.length:Int),T)=some (true,Sl.mk (B++o4 R)):=by
  intro R;induction R with
  |nil=>intro A T B e hT hB;refine(LJ (b:=(true,T)) ?_).trans (by rw[hT];simp);simp only[LW];rw[decide_eq_false (by rw[hlen,e];simp),cond_false]
  |cons x R ih=>
   intro A T B e hT hB;have hi:A.length<O.length:=by rw[e];simp
   have hx:gt O A.length=x:=by rw[e];exact Nk
   refine(LK (a':=(true,(((A++[x]).length:Nat):Int),Sl.mk (B++[(x:Int)]))) ?_).trans ?_
   .simp only[LW,hT,Po,Mj,cond_false,aR];rw[decide_eq_true (by omega),cond_true,M7 (by omega),aR,hs,Mu hi,hx,QZ.2 ⟨rfl,by simp;omega⟩,aR,OE (by omega),bh];rfl
   .rw [ih (A++[x]) _ (B++[(x:Int)]) (by rw[e];simp) rfl (by simp;omega)];simp
 have k0:∀(R A:List Nat)(T:Sl Int),O=A++R->T.l=o4 A->∃d T',zu (LW s (n:Int)) (false,(A.length:Int),T)=some (d,T')/\(bif !d then T'.l++[(n:Int)]else T'.l)=o4 (A++MN n R)/\(d=true->T'=Sl.mk T'.l)/\(d=false->T'.l=o4 O):=by
  intro R;induction R with
  |nil=>
   intro A T e hT;refine⟨false,T,LJ ?_,?_,(fun h=>nomatch h),(fun _=>by rw[hT,e,be])⟩
   .simp only[LW];rw[decide_eq_false (by rw[hlen,e];simp),cond_false]
   .rw [LO,cond_true,hT];simp[MN]
  |cons x R ih=>
   intro A T e hT;have hi:A.length<O.length:=by rw[e];simp
   have hx:gt O A.length=x:=by rw[e];exact Nk
   have hwx:oz x:=hO x (by rw[e];simp);have hTl:T.l.length=A.length:=by rw[hT,aH]
   have hAl:A.length+1+R.length=O.length:=by rw[e];simp;omega
   have hdd:decide (((fK n:Nat):Int)<((fK x:Nat):Int))=decide (fK n<fK x):=decide_eq_decide.2 (by omega);by_cases hd:fK n<fK x
   .refine ⟨true,Sl.mk ((T.l++[(n:Int)]++[(x:Int)])++o4 R),(LK (a':=(true,(((A++[x]).length:Nat):Int),Sl.mk (T.l++[(n:Int)]++[(x:Int)]))) ?_).trans (k1 R (A++[x]) _ _ (by rw[e];simp) rfl (by simp;omega)),?_,(fun _=>rfl),(fun h=>nomatch h)⟩
    .simp only[LW,LO,cond_true];rw[decide_eq_true (by omega),cond_true,qB hn,aR,M7 (by omega),aR,hs,Mu hi,hx,qB hwx,aR,aR,hdd,decide_eq_true hd,cond_true,QZ.2 ⟨rfl,by simp;omega⟩,aR,aR];simp only[aR,Po];rw[Mu hi,hx,QZ.2 ⟨rfl,by simp;omega⟩,aR,OE (by omega),bh];rfl
    .simp only[Mj,cond_false,Po];rw[hT];simp[MN,hd]
   .obtain ⟨d,T',i1,i2,i3,i4⟩:=ih (A++[x]) (Sl.mk (T.l++[(x:Int)])) (by rw[e];simp) (by rw[hT];simp);refine⟨d,T',(LK (a':=(false,(((A++[x]).length:Nat):Int),Sl.mk (T.l++[(x:Int)]))) ?_).trans i1,?_,i3,i4⟩
    .simp only[LW,LO,cond_true];rw[decide_eq_true (by omega),cond_true,qB hn,aR,M7 (by omega),aR,hs,Mu hi,hx,qB hwx,aR,aR,hdd,decide_eq_false hd,cond_false];simp only[aR];rw[Mu hi,hx,QZ.2 ⟨rfl,by simp;omega⟩,aR,OE (by omega),bh];rfl
    .rw [i2];simp[MN,hd]
 obtain⟨d,T',i1,i2,i3,i4⟩:=k0 O [] Sl.nil rfl rfl;have i1':zu (LW s (n:Int)) (false,0,Sl.nil)=some (d,T'):=i1;rw[i1',aR];cases d with|false=>simp only[LO,cond_true];rw[LO,cond_true]at i2;rw[QZ.2 ⟨rfl,by rw[i2];simp[NN];omega⟩,aR,i2];rfl|true=>simp only[Mj,cond_false,aR];rw[Mj,cond_false]at i2;rw[i3 rfl,i2];rfl
def OM(L:List Nat):List Nat:=L.foldl (fun acc x=>MN (fM x) acc) []
theorem M8:∀(L A:List Nat),MK Od A->MK Od (L.foldl (fun acc x=>MN (fM x) acc) A)/\LP Od (L.foldl (fun acc x=>MN (fM x) acc) A) (A++L.map fM)
 |[],A,h=>⟨h,by simp[LP]⟩
 |x::L,A,h=>by obtain⟨i1,i2⟩:=N8 (n:=fM x) h;obtain⟨j1,j2⟩:=M8 L _ i1;refine⟨j1,j2.trans ?_⟩;have:=i2.H6 (LP.refl (lt:=Od) (L.map fM));simpa using this
theorem NJ{L M:List Nat}(h:Nq L M):M=OM L:=OI M5 h.1 (M8 L [] .nil).1 (h.2.trans (by have:=(M8 L [] .nil).2.symm;rw[List.nil_append]at this;exact this))
theorem Nm{l:Sl Int}{L:List Nat}(hl:l.l=o4 L)(hw:∀x∈L,oz x)(hn:L.length<=40):Mw l=some (Mt (o4 (OM L))):=by
 unfold Mw;have hlen:l.l.length=L.length:=by rw[hl,aH]
 have key:∀(R A acc:List Nat),L=A++R->acc.length=A.length->(∀x∈acc,oz x)->zu (Me l) (Mt (o4 acc),(A.length:Int))=some (Mt (o4 (R.foldl (fun acc x=>MN (fM x) acc) acc))):=by
  intro R;induction R with
  |nil=>intro A acc e ha hac;refine LJ ?_;simp only[Me];rw[decide_eq_false (by rw[hlen,e];simp),cond_false];rfl
  |cons x R ih=>
   intro A acc e ha hac;have hi:A.length<L.length:=by rw[e];simp
   have hx:gt L A.length=x:=by rw[e];exact Nk
   have hwx:oz x:=hw x (by rw[e];simp);refine(LK (a':=(Mt (o4 (MN (fM x) acc)),(((A++[x]).length:Nat):Int))) ?_).trans ?_
   .simp only[Me];rw[decide_eq_true (by omega),cond_true,M7 (by omega),aR,hl,Mu hi,hx,j8,aR,O8 (Md _) hac (p_ hwx) (by omega),aR,OE (by omega),bh,NB (fun h=>O_ _ _ (List.map_eq_nil_iff.1 h))];rfl
   .exact ih (A++[x]) (MN (fM x) acc) (by rw[e];simp) (by rw[NN,ha,bh];rfl) (fun z hz=>by
     rcases NM hz with hz|hz
     .rw [hz];exact p_ hwx
     .exact hac z hz)
 have:=key L [] [] rfl rfl (by simp);have e0:zu (Me l) (Sl.nil,0)=some (Mt (o4 (OM L))):=this;rw[e0];rfl
theorem Om{M:List Nat}(hw:∀x∈M,oz x)(hn:M.length<=40):MJ (Mt M)=some (Mt (M.map fun n=>((fM n:Nat):Int))):=by
 unfold MJ;have hlen:(Mt M).l.length=M.length:=by rw[Md]
 have:=ER (f:=Ml (Mt M)) M (fun n=>((fM n:Nat):Int)) (fun i s hi hs=>by
  simp only[Ml];rw[decide_eq_true (by omega),cond_true,M7 (by omega),aR,Md,wC (OW hw hi),aR,QZ.2 ⟨rfl,by simp;omega⟩,aR,OE (by omega)]) (fun s=>by
  simp only[Ml];rw[decide_eq_false (by omega),cond_false])
 rw[this];rfl
theorem ON(s:Sl Int)(h:s.l.length<9223372036854775807):MS s s=some true:=by
 unfold MS M9;rw[bne_self_eq_false,cond_false]
 have:=Pu (f:=Mf s s) (fun i:Nat=>(i:Int)) s.l.length (b:=.inr ()) (fun i hi=>by
  simp only[Mf];rw[decide_eq_true (by omega),cond_true,M7 hi,aR,aR,bne_self_eq_false,cond_false,OE (by omega)]) (by
  simp only[Mf];rw[decide_eq_false (by omega),cond_false])
 have e:zu (Mf s s) 0=some (.inr ()):=this;rw[e];rfl
theorem NI{L M:List Nat}(hw:∀x∈L,oz x)(h:Nq L M):∀x∈M,oz x/\fM x=x:=fun x hx=>by obtain⟨y,hy,rfl⟩:=c8.1 ((Oh h x).1 hx);exact⟨p_ (hw y hy),ww y⟩
theorem N2{L M:List Nat}(hw:∀x∈L,oz x)(h:Nq L M):(M.map fun n=>((fM n:Nat):Int))=o4 M:=g_ fun x hx=>by rw[(NI hw h x hx).2]
section
variable{l:Sl Int}{L M:List Nat}(hl:l.l=o4 L)(hw:∀x∈L,oz x)(hn:L.length<=40)
 (hM:Mn (Mt L)=some (Mt M)) (hlen:M.length=L.length) (hS:Nq L M)
include hl hw hn hM hlen hS
theorem Oj:∃m,MI (Mt L)=some m/\oz m/\MG l=some ((fM m:Nat):Int):=by
 unfold MI MG;rw[Nm hl hw hn,<-NJ hS,hM];have e0:l.l.length=L.length:=by rw[hl,aH]
 rw[Md,e0];by_cases h0:L.length=0
 .rw [h0];exact⟨9221120237041090561,rfl,by decide,rfl⟩
 .have eb:((L.length:Int)==0)=false:=by rw[beq_eq_false_iff_ne];omega
  have wi:wr .i64 ((wr .i64 ((L.length:Int)-1)).tdiv 2)=(((L.length-1)/2:Nat):Int):=by
   rw[wq (n:=(L.length:Int)-1) (by omega) (by omega)];have:((L.length:Int)-1)=((L.length-1:Nat):Int):=by omega
   rw[this];have e:(((L.length-1:Nat):Int)).tdiv 2=(((L.length-1)/2:Nat):Int):=rfl;rw[e,wq (by omega) (by omega)]
  rw[eb,cond_false,cond_false,aR,aR,wi,Md,Md,M7 (by omega),aR,aH,M7 (by omega),aR,Mu (by omega)];have hm:=NI hw hS _ (Np (l:=M) (i:=(L.length-1)/2) (by omega));exact⟨_,rfl,hm.1,by rw[hm.2]⟩
theorem Og:∃m,MH (Mt L)=some m/\oz m/\MF l=some ((fM m:Nat):Int):=by
 unfold MH MF;rw[Nm hl hw hn,<-NJ hS,hM];have e0:l.l.length=L.length:=by rw[hl,aH]
 rw[Md,e0];by_cases h0:L.length=0
 .rw [h0];exact⟨0,rfl,by decide,rfl⟩
 .have eb:((L.length:Int)==0)=false:=by rw[beq_eq_false_iff_ne];omega
  have wi:wr .i64 ((M.length:Int)-1)=((M.length-1:Nat):Int):=by rw[wq (by omega) (by omega)];omega
  have z:rM 0 M.length=some 0:=M7 (n:=0) (by omega);rw[eb,cond_false,cond_false,aR,aR,Md,Md,aH,wi,M7 (by omega),aR,aR,z,aR,Mu (by omega),C5,aR,aR,Mu (by omega),C5,aR,tf,pg (Pd _ _)];refine⟨_,rfl,p_ (Pd _ _),?_⟩;rw[ww];rfl
theorem OK{n:Nat}(ha:mg=some true):L7 l (n:Int)=some true:=by
 unfold L7;have e0:l.l.length=L.length:=by rw[hl,aH]
 have hMw:=fun x hx=>(NI hw hS x hx).1;obtain⟨m,m1,m2,m3⟩:=Oj hl hw hn hM hlen hS;obtain⟨p,p1,p2,p3⟩:=Og hl hw hn hM hlen hS
 rw[decide_eq_false (show¬(l.l.length:Int)>40 by omega),cond_false,OU hl hn,aR,hM,aR,Om hMw (by omega),N2 hw hS,aR,Nm hl hw hn,<-NJ hS,aR,
  ON _ (by rw[Md,aH];omega),aR,Mj,cond_false,aR,m1,aR,wC m2,aR,m3,aR,bne_self_eq_false,cond_false,aR,p1,aR,wC p2,aR,p3,aR,bne_self_eq_false,aR,cond_false]
 have hq:∀{k:Nat}{X:List Nat},k<X.length->((X.take (k+1)).filter (fun x=>fM x==fM n)).length=((X.take k).filter (fun x=>fM x==fM n)).length+(bif fM (gt X k)==fM n then 1 else 0):=by intro k X hk;rw[List.take_add_one,List.filter_append,bh,G1 hk];congr 1;simp only[Option.toList_some,List.filter_cons,List.filter_nil];cases fM (gt X k)==fM n<;>rfl
 have hbd:∀{k:Nat}{X:List Nat},X.length<=40->((X.take k).filter (fun x=>fM x==fM n)).length<=40:=by
  intro k X hX;have h1:=List.length_filter_le (fun x=>fM x==fM n) (X.take k);have h2:(X.take k).length<=X.length:=by rw[List.length_take];omega
  omega
 have hloop:=Pu (f:=LQ l (n:Int) (Mt M)) (fun i:Nat=>((((L.take i).filter (fun x=>fM x==fM n)).length:Int),(((M.take i).filter (fun x=>fM x==fM n)).length:Int),(i:Int))) L.length
  (b:=.inr ((((L.take L.length).filter (fun x=>fM x==fM n)).length:Int),(((M.take L.length).filter (fun x=>fM x==fM n)).length:Int))) (fun i hi=>by
  simp only[LQ]
  have g1:(bif decide ((i:Int)>0)then((rM (wr .i64 ((i:Int)-1)) (Mt M).l.length).bind fun n22=>(rM (i:Int) (Mt M).l.length).bind fun n23=>(LD (gt (Mt M).l n22) (gt (Mt M).l n23)).bind fun r24=>some (decide (r24>0)))else(some false):Option Bool)=some false:=by
   by_cases h0:i=0
   .subst h0;rfl
   .have w1:wr .i64 ((i:Int)-1)=((i-1:Nat):Int):=by rw[wq (by omega) (by omega)];omega
    rw[decide_eq_true (by omega),cond_true,w1,Md,M7 (by omega),aR,M7 (by omega),aR,Ov (OW hMw (by omega)) (OW hMw (by omega)),aR];have:=of_decide_eq_false (NH M5 hS.1 (show i-1<=i by omega) (show i<M.length by omega));congr 1;rcases Nat.lt_or_ge (fK (gt M (i-1))) (fK (gt M i))with h|h
    .rw [MR (by omega)];rfl
    .rw [NC (by omega)];rfl
  rw[g1,aR,cond_false,decide_eq_true (by omega),cond_true,e0,M7 hi,aR,hl,Mu hi,j8,aR,j8,aR,Md,M7 (show i<M.length by omega),HC]
  have c1:(bif fM (gt L i)==fM n then some (wr .i64 ((((L.take i).filter (fun x=>fM x==fM n)).length:Int)+1))else some (((L.take i).filter (fun x=>fM x==fM n)).length:Int):Option Int)=some (((L.take (i+1)).filter (fun x=>fM x==fM n)).length:Int):=by
   have hb2:=hbd (k:=i) hn;rw[hq hi];cases fM (gt L i)==fM n
   .rfl
   .rw [cond_true,cond_true,OE (by omega)]
  rw[c1,aR,aR,wC (OW hMw (by omega)),aR,aR,HC];have hb2:=hbd (k:=i) (show M.length<=40 by omega);have c2:=hq (k:=i) (X:=M) (by omega);rw[c2];cases fM (gt M i)==fM n
  .rw [cond_false,cond_false,aR];simp only[];rw[OE (by omega)];rfl
  .rw [cond_true,cond_true,aR];simp only[];rw[OE (by omega),OE (by omega)]) (by
  simp only[LQ];rw[decide_eq_false (by omega),cond_false])
 have e1:zu (LQ l (n:Int) (Mt M)) (0,0,0)=some (.inr ((((L.take L.length).filter (fun x=>fM x==fM n)).length:Int),(((M.take L.length).filter (fun x=>fM x==fM n)).length:Int))):=hloop;rw[e1,aR];simp only[]
 have e2:((L.take L.length).filter (fun x=>fM x==fM n)).length=((M.take L.length).filter (fun x=>fM x==fM n)).length:=by
  rw[List.take_length,<-hlen,List.take_length]
  have h1:∀X:List Nat,X.filter (fun x=>fM x==fM n)=(X.filter (NU Od (fM n))).filter (fun x=>fM x==fM n):=by
   intro X;rw[List.filter_filter];refine List.filter_congr fun x _=>?_;cases hc:fM x==fM n
   .rfl
   .have hc:=beq_iff_eq.1 hc;have hp:fK x=fK (fM n):=by unfold fK;rw[hc,ww]
    have:NU Od (fM n) x=true:=ND.2 ⟨decide_eq_false (by omega),decide_eq_false (by omega)⟩;rw[this];rfl
  have h2:(M.filter (fun x=>fM x==fM n)).length=((L.map fM).filter (fun x=>fM x==fM n)).length:=by rw[h1 M,h1 (L.map fM),hS.2]
  rw[h2,List.filter_map,aH];congr 1;refine List.filter_congr fun x _=>?_;show _=(fM (fM x)==fM n)
  rw[ww]
 rw[e2,beq_self_eq_true,cond_true,ha];rfl
end
theorem O9{l:List Int}(h:∀x∈l,0<=x/\x<=18446744073709551615):∃L:List Nat,l=o4 L/\∀x∈L,oz x:=by
 refine⟨l.map Int.toNat,?_,fun x hx=>?_⟩
 .rw [o4,List.map_map];refine(List.map_id l).symm.trans (g_ fun x hx=>?_);have:=h x hx;show x=((x.toNat:Nat):Int)
  omega
 .obtain ⟨y,hy,rfl⟩:=c8.1 hx;have:=h y hy;unfold oz;omega
theorem Ox(l:Sl Int)(n:Int)(h1:∀x∈l.l,0<=x/\x<=18446744073709551615)(h2:0<=n/\n<=18446744073709551615):L7 l n=some true:=by
 by_cases hb:(l.l.length:Int)>40
 .unfold L7;rw[decide_eq_true hb,cond_true,oY];rfl
 .obtain ⟨L,hl,hw⟩:=O9 h1;obtain⟨n,rfl,_⟩:=xP h2.1 h2.2;have hn:L.length<=40:=by rw[hl,aH]at hb;omega
  obtain⟨M,m1,m2,m3⟩:=OL hw hn;exact OK hl hw hn m1 m2 m3 oY
end Go.Proofs.Ytingpmogbibghaa.M
