/- Strings as lists of bytes; numbers in decimals. Conditions: as stated. -/
import Derived.Test.YtbcmbckpebpijaaDoorC
open List renaming getElem?_eq_getElem->ai,mem_singleton->am
open Go.Ev Go
namespace Go.Proofs.YtbcmbckpebpijaaDoor.C
theorem sq{n:Int}(h0:-9223372036854775808<=n)(h1:n<9223372036854775808):wr .i64 n=n:=by simp[wr,IntKind.wrap,IntKind.bits,IntKind.signed];omega
theorem rS{n:Nat}(h:n<9223372036854775807):wr .i64 ((n:Int)+1)=((n+1:Nat):Int):=by rw[sq (by omega) (by omega)];rfl
theorem oq{i n:Nat}(h:i<n):nh (i:Int) n=some i:=hC.2 ⟨rfl,h⟩
theorem yV{α:Type}[Inhabited α]{l:List α}{i:Nat}(h:i<l.length):gt l i=l[i]:=by unfold gt;rw[List.getD_eq_getElem?_getD,ai h];rfl
theorem wX{α:Type}{l:List α}(h:l.length<=2147483648):nv l=some l:=by unfold nv;rw[if_pos h]
theorem AY{S σ β:Type}{f:S->Option (Sum S β)}(st:Nat->σ->S)(n:Nat)(I:Nat->σ->Prop)(R:β->Prop)
  (hstep:∀i s,i<n->I i s->(∃s',f (st i s)=some (.inl (st (i+1) s'))/\I (i+1) s')\/(∃b,f (st i s)=some (.inr b)/\R b))
  (hend:∀s,I n s->∃b,f (st n s)=some (.inr b)/\R b):∀i s,i<=n->I i s->∃b,dP f (st i s)=some b/\R b:=by
 have:∀(k i:Nat)(s:σ),i+k=n->I i s->∃b,dP f (st i s)=some b/\R b:=by
  intro k;induction k with
  |zero=>
   intro i s hi hI;obtain rfl:i=n:=by omega
   obtain⟨b,h1,h2⟩:=hend s hI;exact⟨b,eF h1,h2⟩
  |succ k ih=>
   intro i s hi hI;rcases hstep i s (by omega) hI with⟨s',h1,h2⟩|⟨b,h1,h2⟩
   .obtain ⟨b,h3,h4⟩:=ih (i+1) s' (by omega) h2;exact⟨b,(gf h1).trans h3,h4⟩
   .exact ⟨b,eF h1,h2⟩
 exact fun i s hi hI=>this (n-i) i s (by omega) hI
abbrev B(l:List UInt8):ByteArray:=⟨l.toArray⟩
theorem GW(s:ByteArray):B s.data.toList=s:=by cases s;simp
theorem nA(l:List UInt8):(B l).data.toList=l:=by simp
theorem eR(l:List UInt8):(B l).size=l.length:=by simp[ByteArray.size]
theorem JF(s:ByteArray):s.size=s.data.toList.length:=rfl
theorem xk{a b:List UInt8}:((B a).toList==(B b).toList)=decide (a=b):=by
 rw[Lib.toList_data,Lib.toList_data,nA,nA];by_cases h:a=b
 .simp [h]
 .rw [decide_eq_false h];simpa using h
theorem Mh(a b:List UInt8):B a++B b=B (a++b):=by apply ByteArray.ext;simp[ByteArray.data_append]
theorem mO{a b:List UInt8}(h:a.length+b.length<=1000000):lL (B a) (B b)=some (B (a++b)):=by unfold lL;rw[eR,eR,if_neg (by rw[show IntKind.i64.max=9223372036854775807 by decide];omega),Mh]
theorem zy{l:List UInt8}{i:Nat}{c:UInt8}(h:l[i]?=some c):zA (B l) (i:Int)=some (c.toNat:Int):=by unfold zA;rw[if_pos (by omega),show((i:Int)).toNat=i from rfl,show(B l)[i]?=l[i]?from ?_,h];rfl;obtain⟨hi,_⟩:=List.getElem?_eq_some_iff.1 h;rw[ai hi,getElem?_pos (B l) i (by rw[eR];exact hi)];rfl
theorem lF{n:Nat}(h:n<10):Lib.decDigits n=[UInt8.ofNat (48+n)]:=Lib.decDigits_one h
theorem oB{n:Nat}(h:¬n<10):Lib.decDigits n=Lib.decDigits (n/10)++[UInt8.ofNat (48+n %10)]:=by rw[Lib.decDigits,dif_neg h]
theorem oY{d:Nat}(h:d<10):(UInt8.ofNat (48+d)).toNat=48+d:=by rw[UInt8.toNat_ofNat'];omega
theorem oZ:∀(n:Nat),∀c∈Lib.decDigits n,48<=c.toNat/\c.toNat<=57:=by
 intro n;induction n using Nat.strongRecOn with
 |ind n ih=>
  intro c hc;by_cases h:n<10
  .rw [lF h]at hc;obtain rfl:=am.1 hc;rw[oY h];omega
  .rw [oB h]at hc;rcases List.mem_append.1 hc with hc|hc
   .exact ih _ (by omega) c hc
   .obtain rfl:=am.1 hc;rw[oY (by omega)];omega
theorem A6(n:Nat):Lib.decDigits n≠[]:=by
 by_cases h:n<10
 .rw [lF h];simp
 .rw [oB h];simp
theorem l6:∀(k n:Nat),n<10^(k+1)->(Lib.decDigits n).length<=k+1
 |0,n,h=>by rw[lF (by simpa using h)];simp
 |k+1,n,h=>by
  by_cases h1:n<10
  .rw [lF h1];simp
  .rw [oB h1,List.length_append,List.length_singleton];have:=l6 k (n/10) (by rw[Nat.pow_succ]at h;omega);omega
theorem sd(n:Nat):Lib.itoa (n:Int)=Lib.decDigits n:=Lib.itoa_nonneg n
theorem se{n:Nat}(h:1<=n):Lib.itoa (-(n:Int))=45::Lib.decDigits n:=Lib.itoa_neg n h
theorem FI(n:Int):∀c∈Lib.itoa n,45<=c.toNat/\c.toNat<=57:=by
 intro c hc;unfold Lib.itoa at hc;split at hc
 .rcases List.mem_cons.1 hc with rfl|hc
  .decide
  .have:=oZ _ c hc;omega
 .have:=oZ _ c hc;omega
theorem FJ{n:Int}(h0:-9223372036854775808<=n)(h1:n<=9223372036854775807):vg n=some (B (Lib.itoa n)):=by unfold vg;rw[if_pos ⟨h0,h1⟩]
theorem uL(x:Nat)(c:UInt8)(r:List UInt8):Lib.parseUint10 x (c::r)=if 48<=c.toNat/\c.toNat<=57 then(if 1844674407370955162<=x then .range else if 18446744073709551616<=x*10+(c.toNat-48)then .range else Lib.parseUint10 (x*10+(c.toNat-48)) r)else Lib.parseUint10 0 [0]:=by rw[Lib.parseUint10];rfl
theorem xy:∀(a b:List UInt8)(x:Nat),Lib.parseUint10 x (a++b)=match Lib.parseUint10 x a with|.ok v=>Lib.parseUint10 v b|e=>e
 |[],b,x=>rfl
 |c::a,b,x=>by
  rw[List.cons_append,uL x c (a++b),uL x c a];split
  .split
   .rfl
   .split
    .rfl
    .exact xy a b _
  .rfl
theorem Ek:∀n:Nat,n<10000000000000000000->Lib.parseUint10 0 (Lib.decDigits n)=.ok n:=by
 intro n;induction n using Nat.strongRecOn with
 |ind n ih=>
  intro hn;by_cases h:n<10
  .rw [lF h];unfold Lib.parseUint10;rw[oY h,if_pos (by omega),if_neg (by omega),if_neg (by omega)];show Lib.NumEnd.ok _=_;congr 1;omega
  .rw [oB h,xy,ih (n/10) (by omega) (by omega)];show Lib.parseUint10 (n/10) _=_;unfold Lib.parseUint10;rw[oY (by omega),if_pos (by omega),if_neg (by omega),if_neg (by omega)];show Lib.NumEnd.ok _=_;congr 1;omega
theorem B6{n:Nat}(h:n<10000000000000000000):Lib.parseMag (Lib.decDigits n)=.ok n:=by unfold Lib.parseMag;rw[if_neg (A6 n),Ek n h]
theorem D3{n:Int}(h0:-9223372036854775808<=n)(h1:n<=9223372036854775807):Lib.atoiAll (Lib.itoa n)=.ok n:=by
 by_cases hn:n<0
 .obtain ⟨m,rfl⟩:∃m:Nat,n=-(m:Int):=⟨n.natAbs,by omega⟩
  rw[se (by omega)];unfold Lib.atoiAll;simp only;rw[if_pos (by decide),B6 (by omega)];simp only;rw[if_neg (by simp),if_neg (by simp;omega),if_pos (by decide)]
 .obtain ⟨m,rfl⟩:=Int.eq_ofNat_of_zero_le (show 0<=n by omega);rw[sd];have hall:=oZ m;have hne:=A6 m;have hm:=B6 (n:=m) (by omega);unfold Lib.atoiAll;cases hd:Lib.decDigits m with|nil=>exact absurd hd hne|cons c r=>rw[hd]at hall hm;have hc:=hall c (List.mem_cons_self ..);simp only;rw[if_neg (by omega),hm];simp only;rw[if_neg (by omega),if_neg (by omega),if_neg (by omega)]
theorem mE{n:Int}(h0:-1000000000<=n)(h1:n<=1000000000):(Lib.itoa n).length<=11:=by
 unfold Lib.itoa;split
 .have:=l6 9 n.natAbs (by omega);simp;omega
 .have:=l6 9 n.toNat (by omega);omega
end Go.Proofs.YtbcmbckpebpijaaDoor.C
