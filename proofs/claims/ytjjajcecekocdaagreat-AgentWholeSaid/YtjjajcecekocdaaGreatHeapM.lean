/- Plain facts on heaps in lists: what moving up, moving down and taking do. Conditions: the order is total; lengths below 2^62. -/
import Derived.Test.YtjjajcecekocdaaGreatEvY
open List renaming getD->lc,length_set->eg,perm_append_singleton->lO
open List.Perm renaming refl->nZ
open Nat renaming le_refl->am
open Option renaming bind_some->ah
noncomputable section
namespace Go.Ev
theorem vK{n:Int}(h0:-9223372036854775808<=n)(h1:n<9223372036854775808):wr .i64 n=n:=by simp[wr,IntKind.wrap,IntKind.bits,IntKind.signed];omega
theorem sG{α:Type}[Inhabited α]{l:List α}{n m:Nat}{x:α}(hn:n<l.length):gt (l.set n x) m=if n=m then x else gt l m:=by
 simp only[gt,lc,List.getElem?_set];split
 .rename_i h;subst h;simp
 .rfl
def Eh{α β:Type}(f:α->Option (α⊕β)):Option (α⊕β)->Option β
 |some (.inl a)=>bw f a
 |some (.inr b)=>some b
 |none=>none
theorem tV{α β:Type}{f:α->Option (α⊕β)}{a:α}{r:Option (α⊕β)}(h:f a=r):bw f a=Eh f r:=by subst h;exact zu f a
structure GY{α:Type}(lt:α->α->Bool):Prop where
 YF:∀a,lt a a=false
 tr:∀a b c,lt a b=false->lt b c=false->lt a c=false
 SS:∀a b,lt a b=true->lt b a=false
 P_:∀a b,lt a b=false->lt b a=false->a=b
namespace HeapM
section
variable{α:Type}[Inhabited α]
def Nt(less:α->α->Option Bool):(Sl α×Int)->Option (Sum ((Sl α×Int)) (Sl α)):=fun(s1,i2)=>
 (bif decide (i2>0)then((eX i2 s1.l.length).bind fun n8=>
 (eX (wr .i64 ((wr .i64 (i2-1)).tdiv 2)) s1.l.length).bind fun n10=>
 (less (gt s1.l n8) (gt s1.l n10)).bind fun r12=>
 some r12)else(some false)).bind fun b14=>
 bif b14 then((eX (wr .i64 ((wr .i64 (i2-1)).tdiv 2)) s1.l.length).bind fun n20=>
 (eX i2 s1.l.length).bind fun n22=>
 (eX (wr .i64 ((wr .i64 (i2-1)).tdiv 2)) (s1.l.set n22 (gt s1.l n20)).length).bind fun n24=>
 some (.inl ((Sl.mk ((s1.l.set n22 (gt s1.l n20)).set n24 (gt s1.l n22))),wr .i64 ((wr .i64 (i2-1)).tdiv 2))))else
 (some (.inr s1))
def swap(l:List α)(a b:Nat):List α:=(l.set a (gt l b)).set b (gt l a)
theorem mz(l:List α)(a b:Nat):(swap l a b).length=l.length:=by simp[swap]
theorem wJ{l:List α}{a b:Nat}(ha:a<l.length)(hb:b<l.length):(swap l a b).Perm l:=by have:=List.set_set_perm (as:=l) ha hb;rw[swap,gX ha,gX hb];exact this
theorem yM{l:List α}{a b:Nat}(ha:a<l.length)(hb:b<l.length)(m:Nat):gt (swap l a b) m=if m=a then gt l b else if m=b then gt l a else gt l m:=by
 unfold swap;rw[sG (by simpa using hb),sG ha];by_cases h1:b=m
 .subst h1;by_cases h2:b=a
  .subst h2;simp
  .simp [h2]
 .have h1':¬m=b:=fun e=>h1 e.symm;by_cases h2:a=m
  .subst h2;simp[h1]
  .have h2':¬m=a:=fun e=>h2 e.symm;simp[h1,h2,h1',h2']
variable{lt:α->α->Bool}{less:α->α->Option Bool}
theorem NK(hl:∀a b,less a b=some (lt a b)){l:List α}{c:Nat}(hc:c<l.length)(hb:l.length<4611686018427387904):
  Nt less (.mk l,(c:Int))=if 0<c/\lt (gt l c) (gt l ((c-1)/2))=true then some (.inl (.mk (swap l c ((c-1)/2)),(((c-1)/2:Nat):Int)))else some (.inr (.mk l)):=by
 unfold Nt;by_cases h0:0<c
 .have e1:wr .i64 ((wr .i64 ((c:Int)-1)).tdiv 2)=(((c-1)/2:Nat):Int):=by rw[vK (n:=(c:Int)-1) (by omega) (by omega),show(c:Int)-1=((c-1:Nat):Int)by omega];rw[show(((c-1:Nat):Int)).tdiv 2=(((c-1)/2:Nat):Int)from rfl];exact vK (by omega) (by omega)
  have h1:(c-1)/2<l.length:=by omega
  simp only[e1,Sl.l,cB hc,cB h1,ah,hl,h0,true_and,eg,gt_iff_lt,Int.natCast_pos,decide_true,cond_true];cases hlt:lt (gt l c) (gt l ((c-1)/2))with|true=>simp[swap]|false=>simp
 .obtain rfl:c=0:=by omega
  simp
def VW(lt:α->α->Bool)(l:List α)(i0 c:Nat):Prop:=
 (∀j,0<j->j<l.length->j≠c->((j-1)/2=i0->c≠i0)->lt (gt l j) (gt l ((j-1)/2))=false)/\
 (∀j,0<j->j<l.length->(j-1)/2=c->0<c->lt (gt l j) (gt l ((c-1)/2))=false)
def If(lt:α->α->Bool)(l:List α)(i:Nat):Prop:=
 (∀j,0<j->j<l.length->(j-1)/2≠i->lt (gt l j) (gt l ((j-1)/2))=false)/\
 (∀j,0<j->j<l.length->(j-1)/2=i->0<i->lt (gt l j) (gt l ((i-1)/2))=false)
def Hp(lt:α->α->Bool)(l:List α):Prop:=∀j,0<j->j<l.length->lt (gt l j) (gt l ((j-1)/2))=false
theorem G3(O:GY lt)(hl:∀a b,less a b=some (lt a b))(i0:Nat):∀(c:Nat)(l:List α),c<l.length->l.length<4611686018427387904->c<=i0->VW lt l i0 c->
  ∃l',bw (Nt less) (.mk l,(c:Int))=some (.mk l')/\l'.Perm l/\If lt l' i0:=by
 intro c;induction c using Nat.strongRecOn with
 |_ c ih=>
  intro l hc hb hle hI;rw[tV (NK hl hc hb)];by_cases h:0<c/\lt (gt l c) (gt l ((c-1)/2))=true
  .rw [if_pos h];simp only[Eh];obtain⟨h0,hlt⟩:=h;have hp:(c-1)/2<l.length:=by omega
   have hpc:(c-1)/2<c:=by omega
   have hg:=yM hc hp
   obtain⟨l',h1,h2,h3⟩:=ih ((c-1)/2) hpc (swap l c ((c-1)/2)) (by rw[mz];omega) (by rw[mz];omega) (by omega) (by
    constructor
    .intro j hj0 hjl hjp hji;rw[mz]at hjl;rw[hg,hg];by_cases e1:j=c
     .subst e1;rw[if_pos rfl,if_neg (by omega),if_pos rfl];exact O.SS _ _ hlt
     .rw [if_neg e1,if_neg hjp];by_cases e2:(j-1)/2=c
      .rw [if_pos e2];exact hI.2 j hj0 hjl e2 h0
      .rw [if_neg e2];have hj:=hI.1 j hj0 hjl e1 (fun e=>by omega);by_cases e3:(j-1)/2=(c-1)/2
       .rw [if_pos e3];rw[e3]at hj;exact O.tr _ _ _ hj (O.SS _ _ hlt)
       .rw [if_neg e3];exact hj
    .intro j hj0 hjl hjp hp0;rw[mz]at hjl;rw[hg,hg];rw[if_neg (show¬((c-1)/2-1)/2=c by omega),if_neg (show¬((c-1)/2-1)/2=(c-1)/2 by omega)];have hpp:=hI.1 ((c-1)/2) hp0 hp (by omega) (fun e=>by omega);by_cases e1:j=c
     .rw [if_pos e1];exact hpp
     .rw [if_neg e1,if_neg (by omega)];have hj:=hI.1 j hj0 hjl e1 (fun e=>by omega);rw[hjp]at hj;exact O.tr _ _ _ hj hpp)
   exact⟨l',h1,h2.trans (wJ hc hp),h3⟩
  .rw [if_neg h];simp only[Eh];refine⟨l,rfl,nZ _,?_,?_⟩
   .intro j hj0 hjl hji;by_cases e1:j=c
    .subst e1;cases hlt:lt (gt l j) (gt l ((j-1)/2))with|false=>rfl|true=>exact absurd ⟨hj0,hlt⟩ h
    .exact hI.1 j hj0 hjl e1 (fun e=>absurd e hji)
   .intro j hj0 hjl hji hi0;by_cases e1:c=i0
    .subst e1;exact hI.2 j hj0 hjl hji hi0
    .have hj:=hI.1 j hj0 hjl (by omega) (fun _=>e1);rw[hji]at hj;refine O.tr _ _ _ hj ?_;by_cases e2:i0=c
     .exact absurd e2.symm e1
     .exact hI.1 i0 hi0 (by omega) e2 (fun e=>by omega)
def xh(less:α->α->Option Bool)(s1:Sl α)(i2:Int):(Int×Int)->Option (Sum ((Int×Int)) (Int)):=fun(i8,i9)=>
 bif((decide (i9<=(wr .i64 ((wr .i64 (2*i2))+2))))&&(decide (i9<(s1.l.length:Int))))then(((eX i9 s1.l.length).bind fun n22=>
 (eX i8 s1.l.length).bind fun n24=>
 (less (gt s1.l n22) (gt s1.l n24)).bind fun r26=>
 bif r26 then(some i9)else
 (some i8):Option (Int)).bind fun i19=>
 some (.inl (i19,wr .i64 (i9+1))))else
 (some (.inr i8))
def sM(less:α->α->Option Bool):(Sl α×Int)->Option (Sum ((Sl α×Int)) (Sl α)):=fun(s1,i2)=>
 (bw (xh less s1 i2) (i2,wr .i64 ((wr .i64 (2*i2))+1))).bind fun i12=>
 bif(i12==i2)then(some (.inr s1))else
 ((eX i12 s1.l.length).bind fun n33=>
 (eX i2 s1.l.length).bind fun n35=>
 (eX i12 (s1.l.set n35 (gt s1.l n33)).length).bind fun n37=>
 some (.inl ((Sl.mk ((s1.l.set n35 (gt s1.l n33)).set n37 (gt s1.l n35))),i12)))
def pick(lt:α->α->Bool)(l:List α)(m k:Nat):Nat:=if k<l.length/\lt (gt l k) (gt l m)=true then k else m
theorem ux{l:List α}{m k:Nat}(hm:m<l.length):pick lt l m k<l.length:=by unfold pick;split<;>omega
theorem Hq(O:GY lt){l:List α}{m k:Nat}:lt (gt l m) (gt l (pick lt l m k))=false/\(k<l.length->lt (gt l k) (gt l (pick lt l m k))=false):=by
 unfold pick;split
 .rename_i h;exact⟨O.SS _ _ h.2,fun _=>O.YF _⟩
 .rename_i h;refine⟨O.YF _,fun hk=>?_⟩;cases hlt:lt (gt l k) (gt l m)with|false=>rfl|true=>exact absurd ⟨hk,hlt⟩ h
theorem vA(hl:∀a b,less a b=some (lt a b)){l:List α}{i m k:Nat}(hm:m<l.length)(hk:k<=2*i+3)(hi:i<l.length)(hb:l.length<2305843009213693952):
  xh less (.mk l) (i:Int) ((m:Int),(k:Int))=if k<=2*i+2/\k<l.length then some (.inl (((pick lt l m k:Nat):Int),((k+1:Nat):Int)))else some (.inr (m:Int)):=by
 unfold xh;have e1:wr .i64 ((wr .i64 (2*(i:Int)))+2)=((2*i+2:Nat):Int):=by rw[vK (n:=2*(i:Int)) (by omega) (by omega),vK (by omega) (by omega)];omega
 have e2:wr .i64 ((k:Int)+1)=((k+1:Nat):Int):=by rw[vK (by omega) (by omega)];omega
 simp only[e1];by_cases h:k<=2*i+2/\k<l.length
 .rw [if_pos h];have h1:decide ((k:Int)<=((2*i+2:Nat):Int))=true:=by rw[decide_eq_true_eq];omega
  have h2:decide ((k:Int)<((Sl.mk l).l.length:Int))=true:=by rw[decide_eq_true_eq];have:=h.2;simp only[Sl.l];omega
  rw[h1,h2];simp only[Sl.l,Bool.and_self,cond_true,cB h.2,cB hm,ah,hl,e2];unfold pick;cases hlt:lt (gt l k) (gt l m)with|true=>simp[h.2]|false=>simp
 .rw [if_neg h]
  have h1:(decide ((k:Int)<=((2*i+2:Nat):Int))&&decide ((k:Int)<((Sl.mk l).l.length:Int)))=false:=by
   rw[Bool.and_eq_false_iff,decide_eq_false_iff_not,decide_eq_false_iff_not];have e3:(Sl.mk l).l.length=l.length:=rfl;rw[e3];by_cases h5:k<=2*i+2
   .exact .inr (by have:¬k<l.length:=fun h6=>h ⟨h5,h6⟩
                   omega)
   .exact .inl (by omega)
  rw[h1];rfl
theorem VD(hl:∀a b,less a b=some (lt a b)){l:List α}{i:Nat}(hi:i<l.length)(hb:l.length<2305843009213693952):
  bw (xh less (.mk l) (i:Int)) ((i:Int),((2*i+1:Nat):Int))=some ((pick lt l (pick lt l i (2*i+1)) (2*i+2):Nat):Int):=by
 rw[tV (vA hl hi (by omega) hi hb)];by_cases h1:2*i+1<=2*i+2/\2*i+1<l.length
 .rw [if_pos h1];simp only[Eh];have hp:=ux (lt:=lt) (k:=2*i+1) hi;rw[tV (vA hl hp (by omega) hi hb)];by_cases h2:2*i+1+1<=2*i+2/\2*i+1+1<l.length
  .rw [if_pos h2];simp only[Eh];have hp2:=ux (lt:=lt) (k:=2*i+1+1) hp;rw[tV (vA hl hp2 (by omega) hi hb),if_neg (by omega)];rfl
  .rw [if_neg h2];simp only[Eh];have:pick lt l (pick lt l i (2*i+1)) (2*i+2)=pick lt l i (2*i+1):=by rw[pick,if_neg (fun h=>h2 ⟨by omega,h.1⟩)]
   rw[this]
 .rw [if_neg h1];simp only[Eh];have h3:¬2*i+1<l.length:=fun h=>h1 ⟨by omega,h⟩;have e1:pick lt l i (2*i+1)=i:=by unfold pick;rw[if_neg fun h=>h3 h.1]
  have e2:pick lt l i (2*i+2)=i:=by unfold pick;rw[if_neg fun h=>h3 (by omega)]
  rw[e1,e2]
theorem JH(hl:∀a b,less a b=some (lt a b)){l:List α}{i:Nat}(hi:i<l.length)(hb:l.length<2305843009213693952):
  sM less (.mk l,(i:Int))=if pick lt l (pick lt l i (2*i+1)) (2*i+2)=i then some (.inr (.mk l))else
   some (.inl (.mk (swap l i (pick lt l (pick lt l i (2*i+1)) (2*i+2))),((pick lt l (pick lt l i (2*i+1)) (2*i+2):Nat):Int))):=by
 unfold sM;have e1:wr .i64 ((wr .i64 (2*(i:Int)))+1)=((2*i+1:Nat):Int):=by rw[vK (n:=2*(i:Int)) (by omega) (by omega),vK (by omega) (by omega)];omega
 have hp:=ux (lt:=lt) (k:=2*i+2) (ux (lt:=lt) (k:=2*i+1) hi);simp only[e1,VD hl hi hb,ah];generalize pick lt l (pick lt l i (2*i+1)) (2*i+2)=m at*;by_cases h:m=i
 .subst h;simp
 .have:((m:Int)==(i:Int))=false:=by simpa using by omega
  rw[this,if_neg h];simp only[Sl.l,cond_false,cB hp,cB hi,ah,eg];rfl
theorem JI(O:GY lt)(hl:∀a b,less a b=some (lt a b)):∀(k:Nat)(i:Nat)(l:List α),l.length-i<=k->i<l.length->l.length<2305843009213693952->If lt l i->
  ∃l',bw (sM less) (.mk l,(i:Int))=some (.mk l')/\l'.Perm l/\Hp lt l':=by
 intro k;induction k with
 |zero=>intro i l hk hi;omega
 |succ k ih=>
  intro i l hk hi hb hI;rw[tV (JH hl hi hb)];have q1:=Hq O (l:=l) (m:=i) (k:=2*i+1);have q2:=Hq O (l:=l) (m:=pick lt l i (2*i+1)) (k:=2*i+2);have hp:=ux (lt:=lt) (k:=2*i+2) (ux (lt:=lt) (k:=2*i+1) hi)
  have hm:pick lt l (pick lt l i (2*i+1)) (2*i+2)=i\/pick lt l (pick lt l i (2*i+1)) (2*i+2)=2*i+1\/pick lt l (pick lt l i (2*i+1)) (2*i+2)=2*i+2:=by
   have a:∀m k,pick lt l m k=m\/pick lt l m k=k:=by intro m k;unfold pick;split<;>simp
   rcases a (pick lt l i (2*i+1)) (2*i+2)with e|e
   .rw [e];rcases a i (2*i+1)with e|e
    .exact .inl e
    .exact .inr (.inl e)
   .exact .inr (.inr e)
  have g0:lt (gt l i) (gt l (pick lt l (pick lt l i (2*i+1)) (2*i+2)))=false:=O.tr _ _ _ q1.1 q2.1;have g1:2*i+1<l.length->lt (gt l (2*i+1)) (gt l (pick lt l (pick lt l i (2*i+1)) (2*i+2)))=false:=fun h=>O.tr _ _ _ (q1.2 h) q2.1;have g2:=q2.2;generalize pick lt l (pick lt l i (2*i+1)) (2*i+2)=m at*;by_cases h:m=i
  .rw [if_pos h];subst h;refine⟨l,rfl,nZ _,fun j hj0 hjl=>?_⟩;by_cases e:(j-1)/2=m
   .rw [e];rcases(by omega:j=2*m+1\/j=2*m+2)with rfl|rfl
    .exact g1 hjl
    .exact g2 hjl
   .exact hI.1 j hj0 hjl e
  .rw [if_neg h];simp only[Eh];have hg:=yM hi hp;have hmi:(m-1)/2=i/\0<m/\i<m:=by omega
   obtain⟨l',h1,h2,h3⟩:=ih m (swap l i m) (by rw[mz];omega) (by rw[mz];omega) (by rw[mz];omega) (by
    constructor
    .intro j hj0 hjl hjm;rw[mz]at hjl;rw[hg,hg];by_cases e1:j=i
     .subst e1;rw[if_pos rfl,if_neg (by omega),if_neg (by omega)];exact hI.2 m hmi.2.1 hp hmi.1 hj0
     .rw [if_neg e1];by_cases e2:j=m
      .subst e2;rw[if_pos rfl,if_pos hmi.1];exact g0
      .rw [if_neg e2];by_cases e3:(j-1)/2=i
       .rw [if_pos e3];rcases(by omega:j=2*i+1\/j=2*i+2)with rfl|rfl
        .exact g1 hjl
        .exact g2 hjl
       .rw [if_neg e3,if_neg hjm];exact hI.1 j hj0 hjl e3
    .intro j hj0 hjl hjm _;rw[mz]at hjl;rw[hg,hg,if_neg (by omega),if_neg (by omega),hmi.1,if_pos rfl];have:=hI.1 j hj0 hjl (by omega);rw[hjm]at this;exact this)
   exact⟨l',h1,h2.trans (wJ hi hp),h3⟩
theorem R3(O:GY lt){l:List α}(h:Hp lt l):∀j,j<l.length->lt (gt l j) (gt l 0)=false:=by
 intro j;induction j using Nat.strongRecOn with
 |_ j ih=>
  intro hj;by_cases h0:0<j
  .exact O.tr _ _ _ (h j h0 hj) (ih ((j-1)/2) (by omega) (by omega))
  .obtain rfl:j=0:=by omega
   exact O.YF _
def KX(less:α->α->Option Bool)(s:Sl α)(x:α):Option (Sl α):=(ld (s.l++[x])).bind fun l1=>bw (Nt less) (Sl.mk l1,wr .i64 ((l1.length:Int)-1))
def G_(less:α->α->Option Bool)(s:Sl α)(i1:Int):Option (Sl α):=
 (eX (wr .i64 ((s.l.length:Int)-1)) s.l.length).bind fun n1=>
 (eX i1 s.l.length).bind fun n3=>
 (oX (s.l.set n3 (gt s.l n1)) 0 (wr .i64 ((s.l.length:Int)-1))).bind fun l6=>
 bif decide (i1<(wr .i64 ((s.l.length:Int)-1)))then((bw (Nt less) (Sl.mk l6,i1)).bind fun q9=>bw (sM less) (q9,i1))else
 some (Sl.mk l6)
theorem Ma{l:List α}{x:α}{j:Nat}:gt (l++[x]) j=if j<l.length then gt l j else if j=l.length then x else default:=by
 simp only[gt,lc];by_cases h:j<l.length
 .rw [List.getElem?_append_left h,if_pos h]
 .rw [List.getElem?_append_right (by omega),if_neg h];by_cases h2:j=l.length
  .subst h2;simp
  .rw [if_neg h2,List.getElem?_eq_none (by simp;omega)];rfl
theorem IK(O:GY lt)(hl:∀a b,less a b=some (lt a b)){s:Sl α}{x:α}(hH:Hp lt s.l)(hb:s.l.length<2147483648):
  ∃l',KX less s x=some (.mk l')/\l'.Perm (x::s.l)/\Hp lt l':=by
 unfold KX;have hlen:(s.l++[x]).length=s.l.length+1:=by simp
 rw[ZJ (by omega),ah,hlen];have e1:wr .i64 (((s.l.length+1:Nat):Int)-1)=((s.l.length:Nat):Int):=by rw[vK (by omega) (by omega)];omega
 rw[e1];obtain⟨l',h1,h2,h3⟩:=G3 O hl s.l.length s.l.length (s.l++[x]) (by omega) (by omega) (am _) (by refine⟨fun j hj0 hjl hjc _=>?_,fun j hj0 hjl hjp hc=>by omega⟩;rw[Ma,Ma,if_pos (by omega),if_pos (by omega)];exact hH j hj0 (by omega));refine⟨l',h1,h2.trans ?_,fun j hj0 hjl=>h3.1 j hj0 hjl ?_⟩
 .exact lO x s.l
 .have:=h2.length_eq;omega
theorem HU{l:List α}{n j:Nat}(h:j<n):gt (l.take n) j=gt l j:=by simp[gt,lc,h]
theorem Ir{l:List α}{n:Nat}(h:l.length=n+1):l=l.take n++[gt l n]:=by rw[gX (by omega)];have:=List.take_append_getElem (l:=l) (i:=n) (by omega);rw[this,List.take_of_length_le (by omega)]
theorem Iq(O:GY lt)(hl:∀a b,less a b=some (lt a b)){l:List α}{i:Nat}(hH:Hp lt l)(hi:i<l.length)(hb:l.length<2147483648):
  ∃l',G_ less (.mk l) (i:Int)=some (.mk l')/\(gt l i::l').Perm l/\Hp lt l':=by
 obtain⟨n,hn⟩:∃n,l.length=n+1:=⟨l.length-1,by omega⟩
 have e1:wr .i64 ((((Sl.mk l).l.length:Nat):Int)-1)=((n:Nat):Int):=by have:(Sl.mk l).l.length=n+1:=hn;rw[this,vK (by omega) (by omega)];omega
 have hcut:oX (l.set i (gt l n)) 0 (n:Int)=some ((l.set i (gt l n)).take n):=by rw[pK];refine⟨⟨by omega,by omega,by simp;omega⟩,by simp⟩
 have hperm:(gt l i::(l.set i (gt l n)).take n).Perm l:=by
  have h1:=wJ (l:=l) (a:=i) (b:=n) hi (by omega)
  have h2:swap l i n=(l.set i (gt l n)).take n++[gt l i]:=by
   rw[Ir (l:=swap l i n) (n:=n) (by rw[mz];omega)];rw[yM hi (by omega)];congr 1
   .unfold swap;rw[List.take_set_of_le (by omega)]
   .by_cases h:n=i
    .subst h;simp
    .simp [h]
  rw[h2]at h1;exact(lO _ _).symm.trans h1
 unfold G_;rw[e1];have hll:(Sl.mk l).l=l:=rfl;simp only[hll,cB (show n<l.length by omega),cB hi,ah,hcut];by_cases hin:i<n
 .have hd:decide ((i:Int)<(n:Int))=true:=by rw[decide_eq_true_eq];omega
  rw[hd,cond_true];have hlen2:((l.set i (gt l n)).take n).length=n:=by simp;omega
  have hget:∀j,j<n->j≠i->gt ((l.set i (gt l n)).take n) j=gt l j:=by intro j hj hji;rw[HU hj,sG hi,if_neg (fun h=>hji h.symm)]
  obtain⟨l1,h1,h2,h3⟩:=G3 O hl i i ((l.set i (gt l n)).take n) (by omega) (by omega) (am _) (by
   refine⟨fun j hj0 hjl hjc hjp=>?_,fun j hj0 hjl hjp hc=>?_⟩
   .rw [hget j (by omega) hjc,hget _ (by omega) (fun h=>hjp h rfl)];exact hH j hj0 (by omega)
   .rw [hget j (by omega) (by omega),hget _ (by omega) (by omega)];have q1:=hH j hj0 (by omega);rw[hjp]at q1;exact O.tr _ _ _ q1 (hH i hc (by omega)))
  rw[h1,ah];have hl1:l1.length=n:=by rw[h2.length_eq];exact hlen2
  obtain⟨l2,h4,h5,h6⟩:=JI O hl (l1.length-i) i l1 (am _) (by omega) (by omega) h3;exact⟨l2,h4,(List.Perm.cons _ (h5.trans h2)).trans hperm,h6⟩
 .have hd:decide ((i:Int)<(n:Int))=false:=by rw[decide_eq_false_iff_not];omega
  rw[hd,cond_false];refine⟨_,rfl,hperm,fun j hj0 hjl=>?_⟩;have hlen2:((l.set i (gt l n)).take n).length=n:=by simp;omega
  have hget:∀j,j<n->gt ((l.set i (gt l n)).take n) j=gt l j:=by intro j hj;rw[HU hj,sG hi,if_neg (by omega)]
  rw[hget j (by omega),hget _ (by omega)];exact hH j hj0 (by omega)
end
end HeapM
end Go.Ev
