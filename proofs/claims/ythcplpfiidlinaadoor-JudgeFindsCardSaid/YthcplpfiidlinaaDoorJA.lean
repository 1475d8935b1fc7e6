/- Graphs of at most sixteen nodes: sets as bits, Order. Conditions: as stated. -/
import Derived.Test.YthcplpfiidlinaaDoorJT
open BitVec renaming ofInt->bB
open Bool renaming and_eq_true->ai,not_true->bS,or_eq_true->cM
open Classical renaming choose_spec->di
open List renaming getD->lP,getElem_mem->ce,getElem_of_mem->cu,length_append->av,length_singleton->bp,mem_append->ap,mem_append_left->aE,mem_append_right->aG,mem_cons->aN,mem_range->fD,mem_singleton->ao,range->aL,replicate->az,take_append_getElem->cZ
open Nat renaming lt_or_ge->fo,mul_comm->jB,testBit_two_pow_sub_one->kY,zero_le->cG
open Option renaming bind_some->af
open Option.some renaming injEq->bn
open Go.Ev Go
namespace Go.Proofs.YthcplpfiidlinaaDoor.J
theorem QM{α:Type}[Inhabited α]{l:List α}{n m:Nat}{x:α}(hn:n<l.length):gt (l.set n x) m=if n=m then x else gt l m:=by
 simp only[gt,lP,List.getElem?_set];split
 .rename_i h;subst h;simp
 .rfl
theorem PS{n:Nat}(h:n<65536):wr .u16 (n:Int)=(n:Int):=by simp[wr,IntKind.wrap,IntKind.bits,IntKind.signed];omega
theorem K9{n:Nat}(h:n<65536):(bB 16 (n:Int)).toNat=n:=by simp;omega
theorem Ou{n:Nat}(h:∀j,16<=j->n.testBit j=false):n<65536:=Nat.lt_pow_two_of_testBit n h
theorem zL{n j:Nat}(h:n<65536)(hj:16<=j):n.testBit j=false:=Nat.testBit_lt_two_pow (Nat.lt_of_lt_of_le h (Nat.pow_le_pow_right (n:=2) (by decide) hj:2^16<=2^j))
def andNot(a b:Nat):Nat:=a^^^(a&&&b)
theorem lu(a b j:Nat):(andNot a b).testBit j=(a.testBit j&&!b.testBit j):=by simp only[andNot,Nat.testBit_xor,Nat.testBit_and];cases a.testBit j<;>cases b.testBit j<;>rfl
theorem re{a b:Nat}(h:a<65536):andNot a b<65536:=Ou fun j hj=>by rw[lu,zL h hj];rfl
theorem KW{a b:Nat}(ha:a<65536)(hb:b<65536):a|||b<65536:=Ou fun j hj=>by rw[Nat.testBit_or,zL ha hj,zL hb hj];rfl
theorem CE{a b:Nat}(ha:a<65536):a&&&b<65536:=Ou fun j hj=>by rw[Nat.testBit_and,zL ha hj];rfl
theorem SR(a:Nat)(h:a<65536)(j:Nat):(bB 16 (a:Int)).getLsbD j=a.testBit j:=by rw[<-BitVec.testBit_toNat,K9 h]
theorem PL{a b:Nat}(ha:a<65536)(hb:b<65536):RS .u16 (a:Int) (b:Int)=((a|||b:Nat):Int):=by
 rw[Cw];have e:(bB 16 (a:Int)|||bB 16 (b:Int)).toNat=a|||b:=by rw[BitVec.toNat_or,K9 ha,K9 hb]
 show wr .u16 (((bB 16 (a:Int)|||bB 16 (b:Int)).toNat:Nat):Int)=_;rw[e,PS (KW ha hb)]
theorem M4{a b:Nat}(ha:a<65536)(hb:b<65536):J3 .u16 (a:Int) (b:Int)=((a&&&b:Nat):Int):=by
 rw[xX];have e:(bB 16 (a:Int)&&&bB 16 (b:Int)).toNat=a&&&b:=by rw[BitVec.toNat_and,K9 ha,K9 hb]
 show wr .u16 (((bB 16 (a:Int)&&&bB 16 (b:Int)).toNat:Nat):Int)=_;rw[e,PS (CE ha)]
theorem wU{a b:Nat}(ha:a<65536)(hb:b<65536):rU .u16 (a:Int) (b:Int)=((andNot a b:Nat):Int):=by
 rw[uY]
 have e:(bB 16 (a:Int)&&&~~~bB 16 (b:Int)).toNat=andNot a b:=by
  apply Nat.eq_of_testBit_eq;intro j;rw[BitVec.testBit_toNat,BitVec.getLsbD_and,BitVec.getLsbD_not,SR a ha,SR b hb,lu];by_cases hj:j<16
  .simp [hj]
  .rw [zL ha (by omega)];simp
 show wr .u16 (((bB 16 (a:Int)&&&~~~bB 16 (b:Int)).toNat:Nat):Int)=_;rw[e,PS (re ha)]
theorem Pq{i:Nat}(h:i<16):yp .u16 1 (i:Int)=some (((2^i:Nat)):Int):=by
 have:i=0\/i=1\/i=2\/i=3\/i=4\/i=5\/i=6\/i=7\/i=8\/i=9\/i=10\/i=11\/i=12\/i=13\/i=14\/i=15:=by omega
 rcases this with rfl|rfl|rfl|rfl|rfl|rfl|rfl|rfl|rfl|rfl|rfl|rfl|rfl|rfl|rfl|rfl<;>decide
theorem vh(i j:Nat):(2^i).testBit j=decide (i=j):=Nat.testBit_two_pow
theorem vz:∀(x:Nat),x≠0->∃k m,x=2^(k+1)*m+2^k:=by
 intro x;induction x using Nat.strongRecOn with
 |_ x ih=>
  intro h;by_cases he:x %2=0
  .obtain ⟨k,m,e⟩:=ih (x/2) (by omega) (by omega);refine⟨k+1,m,?_⟩;have:x=2*(x/2):=by omega
   rw[this,e,Nat.pow_succ 2 (k+1),Nat.pow_succ 2 k,Nat.mul_add];have h2:2*(2^k*2*m)=2^k*2*2*m:=by rw[jB 2,Nat.mul_assoc,Nat.mul_assoc,Nat.mul_assoc,Nat.mul_assoc];congr 2;omega
   rw[h2,jB 2 (2^k)]
  .exact ⟨0,x/2,by simp;omega⟩
theorem zn{k m b j:Nat}(hb:b<2^(k+1)):(2^(k+1)*m+b).testBit j=if j<k+1 then b.testBit j else m.testBit (j-(k+1)):=Nat.testBit_two_pow_mul_add m hb j
theorem ng{x k m:Nat}(h:x=2^(k+1)*m+2^k)(j:Nat):x.testBit j=if j<k then false else if j=k then true else m.testBit (j-(k+1)):=by
 rw[h,zn (by rw[Nat.pow_succ];have:=Nat.two_pow_pos k;omega),vh];by_cases h1:j<k
 .rw [if_pos (by omega),if_pos h1,decide_eq_false (by omega)]
 .by_cases h2:j=k
  .subst h2;simp
  .rw [if_neg (by omega),if_neg h1,if_neg h2]
theorem Bf{x k m:Nat}(h:x=2^(k+1)*m+2^k)(j:Nat):(x&&&(x-1)).testBit j=(x.testBit j&&decide (j≠k)):=by
 have hp:=Nat.two_pow_pos k;have e:x-1=2^(k+1)*m+(2^k-1):=by omega
 rw[Nat.testBit_and,ng h,e,zn (by rw[Nat.pow_succ];omega),kY];by_cases h1:j<k
 .simp [h1]
 .by_cases h2:j=k
  .subst h2;simp
  .rw [if_neg h1,if_neg h2,if_neg (by omega)];simp[h2]
theorem Md{x k m:Nat}(hx:x<65536)(h:x=2^(k+1)*m+2^k):x&&&(65536-x)=2^k:=by
 apply Nat.eq_of_testBit_eq;intro j;have hp:=Nat.two_pow_pos k;have e:65536-x=2^16-((x-1)+1):=by omega
 have e1:x-1=2^(k+1)*m+(2^k-1):=by omega
 rw[Nat.testBit_and,e,Nat.testBit_two_pow_sub_succ (by omega),vh,ng h,e1,zn (by rw[Nat.pow_succ];omega),kY]
 have hj:x.testBit j=true->j<16:=fun hj=>by
  rcases fo j 16 with h|h
  .exact h
  .rw [zL hx h]at hj;simp at hj
 rw[ng h]at hj;by_cases h1:j<k
 .simp [h1];omega
 .by_cases h2:j=k
  .subst h2;simp at hj|-;exact hj
  .rw [if_neg h1,if_neg h2,if_neg (by omega)]at*;cases m.testBit (j-(k+1))<;>simp_all<;>omega
def fJ(x:Nat):List Nat:=(aL 16).filter x.testBit
theorem lg{x j:Nat}(hx:x<65536):j∈fJ x<->x.testBit j=true:=by
 simp only[fJ,List.mem_filter,fD];refine⟨fun h=>h.2,fun h=>⟨?_,h⟩⟩;rcases fo j 16 with h1|h1
 .exact h1
 .rw [zL hx h1]at h;simp at h
theorem tu(x:Nat):(fJ x).Pairwise (·<·):=List.Pairwise.filter _ List.pairwise_lt_range
theorem BB:fJ 0=[]:=by decide
theorem BC{x k m:Nat}(hx:x<65536)(h:x=2^(k+1)*m+2^k):fJ x=k::fJ (x&&&(x-1)):=by
 have hk:k∈fJ x:=(lg hx).2 (by rw[ng h];simp);have s1:=tu x
 have s2:(k::fJ (x&&&(x-1))).Pairwise (·<·):=by
  refine List.pairwise_cons.2 ⟨fun j hj=>?_,tu _⟩;have:=(lg (CE hx)).1 hj;rw[Bf h,ng h]at this;by_cases h1:j<k
  .simp [h1]at this
  .by_cases h2:j=k
   .simp [h2]at this
   .omega
 refine List.Perm.eq_of_pairwise (fun a b _ _ h1 h2=>by omega) s1 s2 ?_;refine(List.perm_ext_iff_of_nodup (s1.imp fun h=>by omega) (s2.imp fun h=>by omega)).2 fun j=>?_;rw[lg hx,aN,lg (CE hx),Bf h];by_cases h2:j=k
 .subst h2;simp[ng h]
 .simp [h2]
theorem P2(k:Nat)(h:k<16):((fk (J2 .u32 (wr .u32 ((wr .u32 ((2^k:Nat):Int))*125613361)) 27) 32).bind fun n2=>some (wr .i64 (gt Ii.1 n2)))=some (k:Int):=by
 have:k=0\/k=1\/k=2\/k=3\/k=4\/k=5\/k=6\/k=7\/k=8\/k=9\/k=10\/k=11\/k=12\/k=13\/k=14\/k=15:=by omega
 rcases this with rfl|rfl|rfl|rfl|rfl|rfl|rfl|rfl|rfl|rfl|rfl|rfl|rfl|rfl|rfl|rfl<;>decide+kernel
theorem tz{x k m:Nat}(hx:x<65536)(h:x=2^(k+1)*m+2^k):dJ (x:Int)=some (k:Int)/\k<16:=by
 have hp:=Nat.two_pow_pos k
 have hk:k<16:=by
  rcases fo k 16 with h1|h1
  .exact h1
  .have:=Nat.pow_le_pow_right (n:=2) (by decide) h1;omega
 refine⟨?_,hk⟩;have h0:((x:Int)==0)=false:=by simp;omega
 have e1:wr .u16 (0-(x:Int))=((65536-x:Nat):Int):=by simp[wr,IntKind.wrap,IntKind.bits,IntKind.signed];omega
 rw[dJ,h0,cond_false,e1,M4 hx (by omega),Md hx h];exact P2 k hk
def jL(l:List Nat):List Int:=l.map fun(x:Nat)=>(x:Int)
theorem qT(l:List Nat):(jL l).length=l.length:=by simp[jL]
theorem B_(l:List Nat)(i:Nat):gt (jL l) i=((gt l i:Nat):Int):=by simp only[gt,jL,List.getD_eq_getElem?_getD,List.getElem?_map];cases l[i]?<;>rfl
theorem LS(l:List Nat)(i v:Nat):(jL l).set i (v:Int)=jL (l.set i v):=by rw[jL,jL,List.map_set]
theorem Ow:∀(n x:Nat)(s:Sl Int),(fJ x).length<=n->x<65536->s.l.length+n<=16->∃s',bE kK ((x:Int),s)=some s'/\s'.l=s.l++jL (fJ x):=by
 intro n;induction n with
 |zero=>
  intro x s hn hx hs;have hb:fJ x=[]:=List.length_eq_zero_iff.1 (Nat.le_zero.1 hn);by_cases h0:x=0
  .subst h0;exact⟨s,cB rfl,by simp[jL,BB]⟩
  .obtain ⟨k,m,h⟩:=vz x h0;rw[BC hx h]at hb;simp at hb
 |succ n ih=>
  intro x s hn hx hs;by_cases h0:x=0
  .subst h0;exact⟨s,cB rfl,by simp[jL,BB]⟩
  .obtain ⟨k,m,h⟩:=vz x h0;obtain⟨h1,hk⟩:=tz hx h;have hb:=BC hx h;have e1:wr .u16 ((x:Int)-1)=((x-1:Nat):Int):=by simp[wr,IntKind.wrap,IntKind.bits,IntKind.signed];omega
   have hcap:iI (s.l++[(k:Int)])=some (s.l++[(k:Int)]):=il (by simp;omega)
   have hstep:kK ((x:Int),s)=some (.inl (((x&&&(x-1):Nat):Int),.mk (s.l++[(k:Int)]))):=by
    have h2:((x:Int) !=0)=true:=by simp;omega
    simp only[kK,h2,cond_true,h1,af,hcap,e1,M4 hx (show x-1<65536 by omega)]
   rw[dm hstep];rw[hb]at hn;obtain⟨s',h3,h4⟩:=ih (x&&&(x-1)) (.mk (s.l++[(k:Int)])) (by simpa using hn) (CE hx) (by simp;omega);exact⟨s',h3,by rw[h4,hb];simp[jL]⟩
theorem EJ(x:Nat):(fJ x).length<=16:=by have:=List.length_filter_le x.testBit (aL 16);simpa[fJ]using this
theorem Je{x:Nat}(hx:x<65536):∃s,nX (x:Int)=some s/\s.l=jL (fJ x):=by obtain⟨s,h1,h2⟩:=Ow 16 x .nil (EJ x) hx (by simp);exact⟨s,by simp only[nX,h1,af],by simpa using h2⟩
def xK(n:Int)(l:List aQ):Prop:=(0<=n/\n<=16)/\∀e∈l,(0<=e.pT/\e.pT<n)/\(0<=e.To/\e.To<n)
instance(n:Int)(l:List aQ):Decidable (xK n l):=by unfold xK;infer_instance
theorem FF{n:Int}{l:Sl aQ}(hb:l.l.length<1000000):lk n l=some (decide (xK n l.l)):=by
 unfold lk;by_cases hn:0<=n/\n<=16
 .have h1:((decide (n<0))||(decide (n>16)))=false:=by rw[Bool.or_eq_false_iff];simp;omega
  rw[h1,cond_false];let ok (e:aQ):Prop:=(0<=e.pT/\e.pT<n)/\(0<=e.To/\e.To<n);refine Me (f:=kc n l) (fun i(_:Unit)=>(i:Int)) l.l.length (fun i _=>∀j<i,ok (gt l.l j)) (fun b=>match b with|.inl b=>b=false/\¬∀e∈l.l,ok e|.inr _=>∀e∈l.l,ok e) ?_ ?_ 0 () (cG _) (fun j hj=>by omega) (fun b h2 h3=>?_)
  .intro i _ hi hI;have hd:decide ((i:Int)<(l.l.length:Int))=true:=by rw[decide_eq_true_eq];omega
   have hw:wr .i64 ((i:Int)+1)=((i+1:Nat):Int):=by rw[ii (by omega) (by omega)];omega
   have hc:((((decide ((aQ.pT (gt l.l i))<0))||(decide ((aQ.pT (gt l.l i))>=n)))||(decide ((aQ.To (gt l.l i))<0)))||(decide ((aQ.To (gt l.l i))>=n)))=decide (¬ok (gt l.l i)):=by rw[Bool.eq_iff_iff];simp only[cM,decide_eq_true_eq,ok];omega
   by_cases ho:ok (gt l.l i)
   .refine .inl ⟨(),?_,fun j hj=>?_⟩
    .simp only[kc,hd,cond_true,bq hi,af,hc,ho,not_true_eq_false,decide_false,cond_false,hw]
    .rcases Nat.lt_succ_iff_lt_or_eq.1 hj with h|rfl
     .exact hI j h
     .exact ho
   .refine .inr ⟨.inl false,?_,rfl,fun h=>ho (h _ (by rw[cR hi];exact ce _))⟩;simp only[kc,hd,cond_true,bq hi,af,hc,ho,not_false_eq_true,decide_true]
  .intro _ hI;have hd:decide ((l.l.length:Int)<(l.l.length:Int))=false:=by rw[decide_eq_false_iff_not];omega
   refine⟨.inr (),by simp only[kc,hd,cond_false],fun e he=>?_⟩;obtain⟨j,hj,rfl⟩:=cu he;rw[<-cR hj];exact hI j hj
  .have e0:((0:Nat):Int)=0:=rfl;rw[e0]at h2;rw[h2,af];cases b with|inl b=>simp only[bn];rw[h3.1];exact(decide_eq_false fun h=>h3.2 h.2).symm|inr _=>simp only[bn];exact(decide_eq_true ⟨hn,h3⟩).symm
 .have h1:((decide (n<0))||(decide (n>16)))=true:=by rw[cM];simp;omega
  rw[h1,cond_true];simp only[bn];exact(decide_eq_false fun h=>hn h.1).symm
def Ed(l:List aQ)(i j:Nat):Prop:=∃e∈l,e.pT=(i:Int)/\e.To=(j:Int)
theorem xK.lt{n:Nat}{l:List aQ}(h:xK n l){i j:Nat}(he:Ed l i j):i<n/\j<n:=by obtain⟨e,he,h1,h2⟩:=he;have:=h.2 e he;omega
structure Nx(n:Nat)(l:List aQ)(to:List Nat):Prop where
 len:to.length=n
 lt:∀i,gt to i<65536
 bit:∀i j,(gt to i).testBit j=true<->Ed l i j
theorem Gm{α:Type}[Inhabited α]{l:List α}{i:Nat}(h:l.length<=i):gt l i=default:=by simp[gt,lP,h]
theorem I2{n:Nat}{l:Sl aQ}(hb:l.l.length<1000000)(hF:xK n l.l):∃to,nW (n:Int) l=some (.mk (jL to))/\Nx n l.l to:=by
 have hn16:n<=16:=by have:=hF.1;omega
 have hmk:zV (0:Int) (n:Int) (n:Int)=some (jL (az n 0)):=by rw[zV,if_pos (by omega)];simp[jL]
 refine Me (f:=kJ l) (fun i(to:List Nat)=>((i:Int),(Sl.mk (jL to)))) l.l.length (fun i to=>Nx n (l.l.take i) to) (fun b=>∃to,b=.mk (jL to)/\Nx n l.l to) ?_ ?_ 0 (az n 0) (cG _) ⟨by simp,fun i=>?_,fun i j=>?_⟩ (fun b h2 h3=>?_)
 .intro i to hi hI;refine .inl ?_;have hd:decide ((i:Int)<(l.l.length:Int))=true:=by rw[decide_eq_true_eq];omega
  have hw:wr .i64 ((i:Int)+1)=((i+1:Nat):Int):=by rw[ii (by omega) (by omega)];omega
  have hm:gt l.l i∈l.l:=by rw[cR hi];exact ce _
  obtain⟨⟨f0,f1⟩,t0,t1⟩:=hF.2 _ hm;obtain⟨f,hf⟩:∃f:Nat,(gt l.l i).pT=(f:Int):=⟨(gt l.l i).pT.toNat,by omega⟩
  obtain⟨t,ht⟩:∃t:Nat,(gt l.l i).To=(t:Int):=⟨(gt l.l i).To.toNat,by omega⟩
  have hfl:f<(jL to).length:=by rw[qT,hI.len];omega
  have hpl:(2^t:Nat)<65536:=by have:=Nat.pow_lt_pow_right (a:=2) (by decide) (show t<16 by omega);omega
  refine⟨to.set f (gt to f|||2^t),?_,?_⟩
  .simp only[kJ,hd,cond_true,bq hi,af,hf,Sl.iP,bq hfl,ht,Pq (show t<16 by omega),B_,PL (hI.lt f) hpl,LS,hw]
  .have hft:f<to.length:=by rw[<-qT];exact hfl
   have et:l.l.take (i+1)=l.l.take i++[gt l.l i]:=by rw[cR hi,cZ hi]
   have hg:∀j,gt (to.set f (gt to f|||2^t)) j=if f=j then gt to f|||2^t else gt to j:=fun j=>QM hft
   refine⟨by rw[List.length_set];exact hI.len,fun j=>?_,fun j k=>?_⟩
   .rw [hg];split
    .exact KW (hI.lt f) hpl
    .exact hI.lt j
   .rw [hg,et]
    have hE:Ed (l.l.take i++[gt l.l i]) j k<->Ed (l.l.take i) j k\/(f=j/\t=k):=by
     unfold Ed;constructor
     .rintro ⟨e,he,h1,h2⟩;rcases ap.1 he with he|he
      .exact .inl ⟨e,he,h1,h2⟩
      .rw [ao]at he;subst he;exact .inr ⟨by omega,by omega⟩
     .rintro (⟨e,he,h1,h2⟩|⟨rfl,rfl⟩)
      .exact ⟨e,aE _ he,h1,h2⟩
      .exact ⟨_,aG _ (ao.2 rfl),hf,ht⟩
    rw[hE];by_cases hfj:f=j
    .subst hfj;rw[if_pos rfl,Nat.testBit_or,cM,hI.bit,vh,decide_eq_true_eq];simp
    .rw [if_neg hfj,hI.bit];simp[hfj]
 .intro to hI;have hd:decide ((l.l.length:Int)<(l.l.length:Int))=false:=by rw[decide_eq_false_iff_not];omega
  refine⟨.mk (jL to),by simp only[kJ,hd,cond_false],to,rfl,?_⟩;rw[List.take_length]at hI;exact hI
 .rcases fo i n with h|h
  .rw [cR (by simpa using h)];simp
  .rw [Gm (by simpa using h)];decide
 .have:gt (az n 0) i=0:=by
   rcases fo i n with h|h
   .rw [cR (by simpa using h)];simp
   .rw [Gm (by simpa using h)];rfl
  rw[this];simp[Ed]
 .obtain ⟨to,rfl,h4⟩:=h3;refine⟨to,?_,h4⟩;have e0:((0:Nat):Int)=0:=rfl;rw[e0]at h2;simp only[nW,hmk,af,h2]
theorem IN{n:Nat}{l:List aQ}{to:List Nat}(hN:Nx n l to)(hn:n<=16){s:Nat}(hs:∀i,s.testBit i=true->i<n):
  ∃o:Nat,nV (.mk (jL to)) (s:Int)=some (o:Int)/\o<65536/\∀j,o.testBit j=true<->∃i,s.testBit i=true/\Ed l i j:=by
 have hs16:s<65536:=Ou fun j hj=>by cases h:s.testBit j with|false=>rfl|true=>have:=hs j h;omega
 obtain⟨r,hr,hrl⟩:=Je hs16;have hbl:=EJ s;refine Me (f:=kI (.mk (jL to)) r) (fun i(o:Nat)=>((o:Int),(i:Int))) r.l.length (fun i o=>o<65536/\∀j,o.testBit j=true<->∃k∈(fJ s).take i,Ed l k j) (fun b=>∃o:Nat,b=(o:Int)/\o<65536/\∀j,o.testBit j=true<->∃k∈fJ s,Ed l k j) ?_ ?_ 0 0 (cG _) ⟨by decide,fun j=>by simp⟩ (fun b h2 h3=>?_)
 .intro i o hi hI;refine .inl ?_;have hi2:i<(fJ s).length:=by rw[hrl,qT]at hi;exact hi
  have hd:decide ((i:Int)<(r.l.length:Int))=true:=by rw[decide_eq_true_eq];omega
  have hw:wr .i64 ((i:Int)+1)=((i+1:Nat):Int):=by rw[ii (by omega) (by omega)];omega
  have hm:gt (fJ s) i∈fJ s:=by rw[cR hi2];exact ce _
  have hk:=hs _ ((lg hs16).1 hm);have hkl:gt (fJ s) i<(Sl.mk (jL to)).l.length:=by simp only[Sl.iP];rw[qT,hN.len];exact hk
  refine⟨o|||gt to (gt (fJ s) i),?_,KW hI.1 (hN.lt _),fun j=>?_⟩
  .have hg:gt r.l i=((gt (fJ s) i:Nat):Int):=by rw[hrl,B_]
   have hkl':gt (fJ s) i<(jL to).length:=hkl;simp only[kI,hd,cond_true,bq hi,af,hg,Sl.iP,bq hkl',B_,PL hI.1 (hN.lt _),hw]
  .have et:(fJ s).take (i+1)=(fJ s).take i++[gt (fJ s) i]:=by rw[cR hi2,cZ hi2]
   rw[Nat.testBit_or,cM,hI.2,hN.bit,et];constructor
   .rintro (⟨k,hk,h⟩|h)
    .exact ⟨k,aE _ hk,h⟩
    .exact ⟨_,aG _ (ao.2 rfl),h⟩
   .rintro ⟨k,hk,h⟩;rcases ap.1 hk with hk|hk
    .exact .inl ⟨k,hk,h⟩
    .rw [ao]at hk;subst hk;exact .inr h
 .intro o hI;have hd:decide ((r.l.length:Int)<(r.l.length:Int))=false:=by rw[decide_eq_false_iff_not];omega
  refine⟨(o:Int),by simp only[kI,hd,cond_false],o,rfl,hI.1,?_⟩;have:(fJ s).take r.l.length=fJ s:=List.take_of_length_le (by rw[hrl,qT];exact Nat.le_refl _);rw[this]at hI;exact hI.2
 .obtain ⟨o,rfl,ho,hb⟩:=h3;refine⟨o,?_,ho,fun j=>?_⟩
  .have e0:((0:Nat):Int)=0:=rfl;rw[e0]at h2;simp only[nV,hr,af,h2]
  .rw [hb];constructor
   .rintro ⟨k,hk,h⟩;exact⟨k,(lg hs16).1 hk,h⟩
   .rintro ⟨k,hk,h⟩;exact⟨k,(lg hs16).2 hk,h⟩
theorem Qt{n:Nat}(h:n<=16):∃x,yp .u16 1 (n:Int)=some x/\wr .u16 (x-1)=((2^n-1:Nat):Int):=by
 have:n=0\/n=1\/n=2\/n=3\/n=4\/n=5\/n=6\/n=7\/n=8\/n=9\/n=10\/n=11\/n=12\/n=13\/n=14\/n=15\/n=16:=by omega
 rcases this with rfl|rfl|rfl|rfl|rfl|rfl|rfl|rfl|rfl|rfl|rfl|rfl|rfl|rfl|rfl|rfl|rfl<;>exact⟨_,rfl,by decide⟩
structure xJ(n:Nat)(l:List aQ)(x:Nat)(o:List Nat):Prop where
 lt:x<65536
 all:∀j,(x.testBit j=true\/j∈o)<->j<n
 not:∀j∈o,x.testBit j=false
 nd:o.Nodup
 sJ:∀p,p<o.length->∀i,Ed l i (gt o p)->∃q,q<p/\gt o q=i
 Px:∀p,p<o.length->∀j,j<gt o p->j∉o.take p->∃i,Ed l i j/\i∉o.take p
theorem tW{o:List Nat}{k p:Nat}(h:p<o.length):gt (o++[k]) p=gt o p:=by rw[cR h,cR (by simp;omega),List.getElem_append_left h]
theorem A_{o:List Nat}{k:Nat}:gt (o++[k]) o.length=k:=by rw[cR (by simp)];simp
theorem Lq{o:List Nat}{i:Nat}(h:i∈o):∃q,q<o.length/\gt o q=i:=by obtain⟨q,hq,rfl⟩:=cu h;exact⟨q,hq,cR hq⟩
theorem xJ.add{n x k:Nat}{l:List aQ}{o:List Nat}(h:xJ n l x o)(hF:xK n l)(hk:x.testBit k=true)(hp:∀i,Ed l i k->x.testBit i=false)
  (hl:∀j,j<k->x.testBit j=true->∃i,x.testBit i=true/\Ed l i j):xJ n l (andNot x (2^k)) (o++[k]):=by
 have hb:∀j,(andNot x (2^k)).testBit j=(x.testBit j&&!decide (k=j)):=fun j=>by rw[lu,vh]
 have hko:k∉o:=fun hm=>by rw[h.not k hm]at hk;simp at hk
 refine⟨re h.lt,fun j=>?_,fun j hj=>?_,?_,fun p hpl i he=>?_,fun p hpl j hj hn=>?_⟩
 .rw [<-h.all j,hb];by_cases hkj:k=j
  .subst hkj;simp[hk]
  .have:¬j=k:=fun e=>hkj e.symm;simp[hkj,this]
 .rw [hb];rcases ap.1 hj with hj|hj
  .rw [h.not j hj];rfl
  .rw [ao]at hj;subst hj;simp
 .exact List.nodup_append.2 ⟨h.nd,by simp,fun a ha b hb=>by rw[ao]at hb;subst hb;exact fun e=>hko (e▸ha)⟩
 .rw [av,bp]at hpl;by_cases hp2:p<o.length
  .rw [tW hp2]at he;obtain⟨q,hq,e⟩:=h.sJ p hp2 i he;exact⟨q,hq,by rw[tW (by omega)];exact e⟩
  .obtain rfl:p=o.length:=by omega
   rw[A_]at he;have hx:=hp i he;have hi:=(hF.lt he).1;rcases(h.all i).2 hi with h1|h1
   .rw [hx]at h1;simp at h1
   .obtain ⟨q,hq,e⟩:=Lq h1;exact⟨q,hq,by rw[tW hq];exact e⟩
 .rw [av,bp]at hpl;by_cases hp2:p<o.length
  .rw [tW hp2]at hj;rw[List.take_append_of_le_length (by omega)]at hn|-;exact h.Px p hp2 j hj hn
  .obtain rfl:p=o.length:=by omega
   rw[A_]at hj;rw[List.take_left' rfl]at hn|-;have hkn:k<n:=(h.all k).1 (.inl hk);rcases(h.all j).2 (by omega)with h1|h1
   .obtain ⟨i,h2,h3⟩:=hl j hj h1;exact⟨i,h3,fun hm=>by rw[h.not i hm]at h2;simp at h2⟩
   .exact absurd h1 hn
structure Nf(l:List aQ)(x:Nat):Prop where
 ne:x≠0
 E0:∀j,x.testBit j=true->∃i,x.testBit i=true/\Ed l i j
theorem xJ.len{n x:Nat}{l:List aQ}{o:List Nat}(h:xJ n l x o):o.length<=n:=by have hs:o⊆aL n:=fun j hj=>fD.2 ((h.all j).1 (.inr hj));have:=h.nd.length_le_of_subset hs;simpa using this
theorem JX{x k:Nat}(hx:x<65536)(hk:x.testBit k=true):(fJ (andNot x (2^k))).length<(fJ x).length:=by
 have nd:(k::fJ (andNot x (2^k))).Nodup:=by refine List.nodup_cons.2 ⟨fun h=>?_,(tu _).imp fun h=>by omega⟩;have:=(lg (re hx)).1 h;rw[lu,vh]at this;simp at this
 have hs:(k::fJ (andNot x (2^k)))⊆fJ x:=by
  intro j hj;rcases aN.1 hj with rfl|hj
  .exact (lg hx).2 hk
  .have:=(lg (re hx)).1 hj;rw[lu,ai]at this;exact(lg hx).2 this.1
 have:=nd.length_le_of_subset hs;rw[List.length_cons]at this;omega
theorem FQ{n:Nat}{l:Sl aQ}(hb:l.l.length<1000000)(hF:xK n l.l):
  (∃s o,iL (n:Int) l=some (s,true)/\s.l=jL o/\xJ n l.l 0 o)\/(iL (n:Int) l=some (.nil,false)/\∃x o,xJ n l.l x o/\Nf l.l x):=by
 have hn16:n<=16:=by have:=hF.1;omega
 obtain⟨to,h1,hN⟩:=I2 hb hF;obtain⟨x6,h6,h7⟩:=Qt hn16;have hp2:2^n<=2^16:=Nat.pow_le_pow_right (by decide) hn16
 refine PW (f:=iX (.mk (jL to))) (fun s=>(fJ s.1.toNat).length) (fun s=>∃x o,s.1=((x:Nat):Int)/\s.2.l=jL o/\xJ n l.l x o)
  (fun b=>match b with|.inl b=>b=false/\∃x o,xJ n l.l x o/\Nf l.l x|.inr s=>∃o,s.l=jL o/\xJ n l.l 0 o) ?_
  (((2^n-1:Nat):Int),.nil) ⟨_,[],rfl,rfl,⟨by omega,fun j=>by rw[kY];simp,fun j hj=>by simp at hj,by simp,fun p hp=>by simp at hp,fun p hp=>by simp at hp⟩⟩ (fun b h2 h3=>?_)
 .rintro ⟨i8,s9⟩ ⟨x,o,hx,hs,hP⟩;simp only at hx hs;subst hx;by_cases h0:x=0
  .subst h0;exact .inr ⟨.inr s9,by simp[iX],o,hs,hP⟩
  .have hne:((x:Int) !=0)=true:=by simp;omega
   obtain⟨ov,ho,ho16,hob⟩:=IN hN hn16 (s:=x) fun i hi=>(hP.all i).1 (.inl hi);by_cases hy:andNot x ov=0
   .right;have e1:(((andNot x ov:Nat):Int)==0)=true:=by rw[hy];rfl
    refine⟨.inl false,by simp only[iX,hne,cond_true,ho,af,wU hP.lt ho16,e1],rfl,x,o,hP,h0,fun j hj=>(hob j).1 ?_⟩;have:=lu x ov j;rw[hy,hj,Nat.zero_testBit]at this;simpa using this.symm
   .left;obtain⟨k,m,hf⟩:=vz _ hy;obtain⟨hz,hk16⟩:=tz (re hP.lt) hf;have e1:(((andNot x ov:Nat):Int)==0)=false:=by rw[beq_eq_false_iff_ne];omega
    have hkb:(andNot x ov).testBit k=true:=by rw[ng hf];simp
    rw[lu]at hkb;simp only[ai,Bool.not_eq_true']at hkb;have hol:=hP.len;have hcap:iI (s9.l++[(k:Int)])=some (s9.l++[(k:Int)]):=il (by rw[hs,av,qT,bp];omega);have hpl:(2^k:Nat)<65536:=by have:=Nat.pow_lt_pow_right (a:=2) (by decide) hk16;omega
    refine⟨(((andNot x (2^k):Nat):Int),.mk (s9.l++[(k:Int)])),?_,⟨_,o++[k],rfl,by simp[hs,jL],?_⟩,?_⟩
    .simp only[iX,hne,cond_true,ho,af,wU hP.lt ho16,e1,cond_false,hz,hcap,Pq hk16,wU hP.lt hpl]
    .refine hP.add hF hkb.1 (fun i he=>?_) fun j hj hxj=>?_
     .cases hxi:x.testBit i with|false=>rfl|true=>have:=(hob k).2 ⟨i,hxi,he⟩;rw[hkb.2]at this;simp at this
     .have h4:(andNot x ov).testBit j=false:=by rw[ng hf,if_pos hj]
      rw[lu,hxj]at h4;exact(hob j).1 (by simpa using h4)
    .simp only[Int.toNat_natCast];exact JX hP.lt hkb.1
 .have hr:lk (n:Int) l=some true:=by rw[FF hb,decide_eq_true hF]
  cases b with|inl b=>exact .inr ⟨by simp only[iL,hr,af,bS,cond_false,h1,h6,h7,h2,h3.1],h3.2⟩|inr s=>obtain⟨o,h4,h5⟩:=h3;exact .inl ⟨s,o,by simp only[iL,hr,af,bS,cond_false,h1,h6,h7,h2],h4,h5⟩
inductive Ph(l:List aQ)(g:Nat):Nat->Nat->Prop
 |zero:Ph l g 0 g
 |kM {d i k:Nat} (e:Ed l i k) (h:Ph l g d k):Ph l g (d+1) i
def SY(n:Nat)(l:List aQ)(g:Nat):Prop:=∀k d,Ed l g k->Ph l g d k->n<=d
theorem Ff{n x:Nat}{l:List aQ}{o:List Nat}(hP:xJ n l x o)(hS:Nf l x):∃g,g<n/\¬SY n l g:=by
 obtain⟨j0,hj0⟩:∃j,x.testBit j=true:=by obtain⟨k,m,h⟩:=vz x hS.ne;exact⟨k,by rw[ng h];simp⟩
 let nx (j:{j:Nat//x.testBit j=true}):{j:Nat//x.testBit j=true}:=⟨Classical.choose (hS.E0 j.1 j.2),(di (hS.E0 j.1 j.2)).1⟩
 have hnx:∀j,Ed l (nx j).1 j.1:=fun j=>(di (hS.E0 j.1 j.2)).2;let h:Nat->{j:Nat//x.testBit j=true}:=fun t=>Nat.rec ⟨j0,hj0⟩ (fun _ j=>nx j) t;have hs:∀t,Ed l (h (t+1)).1 (h t).1:=fun t=>hnx (h t);have hlt:∀t,(h t).1<n:=fun t=>(hP.all _).1 (.inl (h t).2)
 have hpig:¬((aL (n+1)).map fun t=>(h t).1).Nodup:=by
  intro hnd;have hsub:((aL (n+1)).map fun t=>(h t).1)⊆aL n:=by intro y hy;obtain⟨t,_,rfl⟩:=List.mem_map.1 hy;exact fD.2 (hlt t)
  have:=hnd.length_le_of_subset hsub;simp at this;omega
 obtain⟨i,j,hij,hjn,he⟩:∃i j,i<j/\j<=n/\(h i).1=(h j).1:=by apply Classical.byContradiction;intro hno;apply hpig;rw[List.Nodup,List.pairwise_iff_getElem];intro i j hi hj hij e;simp only[List.getElem_map,List.getElem_range]at e;simp only[List.length_map,List.length_range]at hj;exact hno ⟨i,j,hij,by omega,e⟩
 have hw:∀d,Ph l (h i).1 d (h (i+d)).1:=by intro d;induction d with|zero=>exact .zero|succ d ih=>exact .kM (hs (i+d)) ih
 refine⟨(h i).1,hlt i,fun hfree=>?_⟩;have h1:=hs (j-1);rw[show j-1+1=j by omega,<-he]at h1;have h2:=hw (j-1-i);rw[show i+(j-1-i)=j-1 by omega]at h2;have:=hfree _ _ h1 h2;omega
end Go.Proofs.YthcplpfiidlinaaDoor.J
