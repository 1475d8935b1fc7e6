/- Loops, numbers and bits for the laws of tables, for the agent's program. Conditions: as stated. -/
import Derived.Test.YtjjajcecekocdaaGreatA
open BitVec renaming ofInt->bJ
open Nat renaming eq_of_testBit_eq->lL,lt_of_lt_of_le->dD,testBit_and->jB,testBit_or->nV,testBit_xor->abJ
open Option.some renaming injEq->bM
open Go.Ev Go
noncomputable section
namespace Go.Proofs.YtjjajcecekocdaaGreat.A
open Classical in
def tt(p:Prop):Bool:=decide p
theorem lR{p:Prop}:tt p=true<->p:=by simp[tt]
theorem yI{p:Prop}:tt p=false<->¬p:=by simp[tt]
theorem iC{p:Prop}(h:p):tt p=true:=lR.2 h
theorem eI{p:Prop}(h:¬p):tt p=false:=yI.2 h
theorem fK{p:Prop}[Decidable p]:decide p=tt p:=by by_cases h:p<;>simp[tt,h]
theorem ol{p q:Prop}:(tt p&&tt q)=tt (p/\q):=by by_cases h:p<;>by_cases h2:q<;>simp[tt,h,h2]
theorem G8{p q:Prop}:(tt p||tt q)=tt (p\/q):=by by_cases h:p<;>by_cases h2:q<;>simp[tt,h,h2]
theorem Fv{p:Prop}:(!tt p)=tt (¬p):=by by_cases h:p<;>simp[tt,h]
theorem cJ{p q:Prop}(h:p<->q):tt p=tt q:=by rw[propext h]
theorem xQ{n:Int}(h0:-9223372036854775808<=n)(h1:n<9223372036854775808):wr .i64 n=n:=by simp[wr,IntKind.wrap,IntKind.bits,IntKind.signed];omega
theorem u9{n:Nat}(h:n<9223372036854775807):wr .i64 ((n:Int)+1)=((n+1:Nat):Int):=by rw[xQ (by omega) (by omega)];rfl
theorem Dr{S β:Type}{f:S->Option (S⊕β)}(st:Nat->S)(k:Nat){b:β}(h1:∀i,i<k->f (st i)=some (.inl (st (i+1))))(h2:f (st k)=some (.inr b)):bw f (st 0)=some b:=by
 have:∀(d a:Nat),a+d=k->bw f (st a)=some b:=by
  intro d;induction d with
  |zero=>intro a h;obtain rfl:a=k:=by omega
         exact ku h2
  |succ d ih=>intro a h;exact(oC (h1 a (by omega))).trans (ih (a+1) (by omega))
 exact this k 0 (by omega)
theorem LH{P:Nat->Prop}(n:Nat):(∀i,i<n->P i)\/∃k,k<n/\¬P k/\∀j,j<k->P j:=by
 induction n with
 |zero=>exact .inl fun i h=>by omega
 |succ n ih=>
  rcases ih with h|⟨k,h1,h2,h3⟩
  .by_cases hp:P n
   .exact .inl fun i hi=>by
     by_cases e:i=n
     .exact e▸hp
     .exact h i (by omega)
   .exact .inr ⟨n,by omega,hp,h⟩
  .exact .inr ⟨k,by omega,h2,h3⟩
theorem HX{β γ:Type}{f:Int->Option (Int⊕(β⊕γ))}(n:Nat)(hn:n<9223372036854775808)(P:Nat->Prop)(g:Nat->β)(u:γ)
  (h1:∀i:Nat,i<n->P i->f i=some (.inl (wr .i64 ((i:Int)+1)))) (h2:∀i:Nat,i<n->¬P i->f i=some (.inr (.inl (g i)))) (h3:f n=some (.inr (.inr u))):
  ((∀i,i<n->P i)/\bw f 0=some (.inr u))\/∃k,k<n/\¬P k/\(∀j,j<k->P j)/\bw f 0=some (.inl (g k)):=by
 have hs:∀i,i<n->P i->f ((i:Nat):Int)=some (.inl ((i+1:Nat):Int)):=fun i hi hp=>by rw[h1 i hi hp,u9 (by omega)]
 rcases LH (P:=P) n with h|⟨k,hk,hp,hj⟩
 .exact .inl ⟨h,Dr (fun i=>(i:Int)) n (fun i hi=>hs i hi (h i hi)) h3⟩
 .exact .inr ⟨k,hk,hp,hj,Dr (fun i=>(i:Int)) k (fun i hi=>hs i (by omega) (hj i hi)) (h2 k hk hp)⟩
theorem x9{γ:Type}{f:Int->Option (Int⊕(Bool⊕γ))}(n:Nat)(hn:n<9223372036854775808)(P:Nat->Prop)(u:γ)
  (h1:∀i:Nat,i<n->f i=some (bif tt (P i)then .inl (wr .i64 ((i:Int)+1))else .inr (.inl false))) (h3:f n=some (.inr (.inr u))):
  bw f 0=some (bif tt (∀i,i<n->P i)then .inr u else .inl false):=by
 rcases HX n hn P (fun _=>false) u (fun i hi hp=>by rw[h1 i hi,iC hp,cond_true]) (fun i hi hp=>by rw[h1 i hi,eI hp,cond_false]) h3 with⟨h,e⟩|⟨k,hk,hp,_,e⟩
 .rw [e,iC h,cond_true]
 .rw [e,eI (fun h=>hp (h k hk)),cond_false]
theorem Ab{α:Type}[Inhabited α]{l:List α}{P:α->Prop}:(∀i,i<l.length->P (gt l i))<->∀x∈l,P x:=by
 constructor
 .intro h x hx;obtain⟨i,hi,rfl⟩:=List.mem_iff_getElem.1 hx;rw[<-gX hi];exact h i hi
 .intro h i hi;rw[gX hi];exact h _ (List.getElem_mem hi)
theorem Cg{α γ:Type}[Inhabited α]{l:List α}{f:Int->Option (Int⊕(Int⊕γ))}(hn:l.length<9223372036854775808)(p:α->Bool)(u:γ)
  (h1:∀i:Nat,i<l.length->f i=some (bif p (gt l i)then .inr (.inl i)else .inl (wr .i64 ((i:Int)+1)))) (h3:f l.length=some (.inr (.inr u))):
  bw f 0=some (match l.findIdx? p with|some k=>.inl (k:Int)|none=>.inr u):=by
 rcases HX l.length hn (fun i=>p (gt l i)=false) (fun i=>(i:Int)) u (fun i hi hp=>by rw[h1 i hi,hp,cond_false]) (fun i hi hp=>by rw[h1 i hi,show p (gt l i)=true by simpa using hp,cond_true]) h3 with⟨h,e⟩|⟨k,hk,hp,hj,e⟩
 .rw [e,List.findIdx?_eq_none_iff.2 (Ab.1 h)]
 .have:l.findIdx? p=some k:=by rw[List.findIdx?_eq_some_iff_getElem];exact⟨hk,by rw[<-gX hk];simpa using hp,fun j hjk=>by rw[<-gX (by omega)];simpa using hj j hjk⟩
  rw[e,this]
def bt(x:Int)(i:Nat):Bool:=x.toNat.testBit i
theorem oL{x:Int}(h0:0<=x)(h1:x<9223372036854775808){k:Nat}(hk:k<9223372036854775807):gQ x k=some (bif bt x k then 1 else 0):=by
 obtain⟨m,rfl⟩:=Int.eq_ofNat_of_zero_le h0;have hle:∀j,m/2^j<=m:=fun j=>Nat.div_le_self _ _
 have e:=Dr (f:=nE (k:Int)) (b:=((m/2^k:Nat):Int)) (fun j=>(((m/2^j:Nat):Int),((j:Nat):Int))) k (fun i hi=>by
  simp only[nE];have ht:(((m/2^i:Nat):Int)).tdiv 2=((m/2^(i+1):Nat):Int):=by rw[Nat.pow_succ,<-Nat.div_div_eq_div_mul];rfl
  have h2:m/2^(i+1)<9223372036854775808:=Nat.lt_of_le_of_lt (hle _) (by omega);generalize m/2^(i+1)=q at ht h2;rw[decide_eq_true (by omega),cond_true,u9 (by omega),ht,xQ (by omega) (by omega)]) (by
  simp only[nE];rw[decide_eq_false (by omega),cond_false])
 simp only[Nat.pow_zero,Nat.div_one]at e;have e:bw (nE (k:Int)) ((m:Int),0)=_:=e;simp only[gQ,e,Option.bind_some,bt,Int.toNat_natCast,Nat.testBit_eq_decide_div_mod_eq,bM];have ht:(((m/2^k:Nat):Int)).tmod 2=((m/2^k %2:Nat):Int):=rfl;rw[ht];by_cases h:m/2^k %2=1
 .rw [h,decide_eq_true rfl];rfl
 .rw [show m/2^k %2=0 by omega];rfl
theorem Jg{n:Nat}(h:∀j,63<=j->n.testBit j=false):n<9223372036854775808:=Nat.lt_pow_two_of_testBit (n:=63) n h
theorem zY{n j:Nat}(h:n<9223372036854775808)(hj:63<=j):n.testBit j=false:=Nat.testBit_lt_two_pow (dD h (Nat.pow_le_pow_right (n:=2) (by decide) hj:2^63<=2^j))
theorem PO{n j:Nat}(h:n<256)(hj:8<=j):n.testBit j=false:=Nat.testBit_lt_two_pow (dD h (Nat.pow_le_pow_right (n:=2) (by decide) hj:2^8<=2^j))
theorem DW{n:Nat}(h:n<9223372036854775808):(bJ 64 (n:Int)).toNat=n:=by simp;omega
theorem NA{n:Nat}(h:n<9223372036854775808):IntKind.i64.wrap ((n:Nat):Int)=(n:Int):=xQ (by omega) (by omega)
theorem Na{a b:Nat}(ha:a<9223372036854775808)(hb:b<9223372036854775808):oe .i64 (a:Int) (b:Int)=((a&&&b:Nat):Int):=by rw[fU];show IntKind.i64.wrap (((bJ 64 (a:Int)&&&bJ 64 (b:Int)).toNat:Nat):Int)=_;rw[BitVec.toNat_and,DW ha,DW hb,NA (Jg fun j hj=>by rw[jB,zY ha hj];rfl)]
theorem QD{a b:Nat}(ha:a<9223372036854775808)(hb:b<9223372036854775808):H_ .i64 (a:Int) (b:Int)=((a|||b:Nat):Int):=by rw[M_];show IntKind.i64.wrap (((bJ 64 (a:Int)|||bJ 64 (b:Int)).toNat:Nat):Int)=_;rw[BitVec.toNat_or,DW ha,DW hb,NA (Jg fun j hj=>by rw[nV,zY ha hj,zY hb hj];rfl)]
theorem SQ{a b:Nat}(ha:a<9223372036854775808)(hb:b<9223372036854775808):CI .i64 (a:Int) (b:Int)=((a^^^b:Nat):Int):=by rw[H9];show IntKind.i64.wrap (((bJ 64 (a:Int)^^^bJ 64 (b:Int)).toNat:Nat):Int)=_;rw[BitVec.toNat_xor,DW ha,DW hb,NA (Jg fun j hj=>by rw[abJ,zY ha hj,zY hb hj];rfl)]
theorem J7{a b:Nat}(ha:a<9223372036854775808)(hb:b<9223372036854775808):qT .i64 (a:Int) (b:Int)=((a^^^(a&&&b):Nat):Int):=by
 have e:(bJ 64 (a:Int)&&&~~~bJ 64 (b:Int)).toNat=a^^^(a&&&b):=by
  apply lL;intro j;rw[BitVec.testBit_toNat,BitVec.getLsbD_and,BitVec.getLsbD_not,<-BitVec.testBit_toNat,DW ha,<-BitVec.testBit_toNat,DW hb,abJ,jB];by_cases hj:j<64
  .simp only[hj,decide_true,Bool.true_and];cases a.testBit j<;>cases b.testBit j<;>rfl
  .rw [zY ha (by omega)];simp
 rw[z7];show IntKind.i64.wrap (((bJ 64 (a:Int)&&&~~~bJ 64 (b:Int)).toNat:Nat):Int)=_;rw[e,NA (Jg fun j hj=>by rw[abJ,jB,zY ha hj];rfl)]
theorem Vm{n:Nat}:n=0<->∀i,n.testBit i=false:=⟨fun h i=>by rw[h];exact Nat.zero_testBit i,fun h=>lL fun i=>by rw[h i,Nat.zero_testBit]⟩
theorem VF{p v m k:Nat}:((p^^^v)&&&m)&&&k=0<->∀i,m.testBit i=true->k.testBit i=true->p.testBit i=v.testBit i:=by rw[Vm];refine forall_congr' fun i=>?_;rw[jB,jB,abJ];cases p.testBit i<;>cases v.testBit i<;>cases m.testBit i<;>cases k.testBit i<;>decide
theorem V_{v m:Nat}:v^^^(v&&&m)=0<->∀i,v.testBit i=true->m.testBit i=true:=by rw[Vm];refine forall_congr' fun i=>?_;rw[abJ,jB];cases v.testBit i<;>cases m.testBit i<;>decide
theorem Um{a b:Nat}:a|||b=a<->∀i,b.testBit i=true->a.testBit i=true:=by
 constructor
 .intro h i hi;rw[<-h,nV,hi,Bool.or_true]
 .intro h;apply lL;intro i;rw[nV];cases hb:b.testBit i
  .rw [Bool.or_false]
  .rw [h i hb];rfl
theorem QZ{v m:Nat}(h:∀i,v.testBit i=true->m.testBit i=true):v<=m:=by
 have:v|||m=m:=by
  apply lL;intro i;rw[nV];cases hb:v.testBit i
  .rw [Bool.false_or]
  .rw [h i hb];rfl
 rw[<-this];exact Nat.left_le_or
end Go.Proofs.YtjjajcecekocdaaGreat.A
