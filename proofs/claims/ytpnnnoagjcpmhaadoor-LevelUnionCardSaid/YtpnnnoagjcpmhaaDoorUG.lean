/- Graphs of at most sixteen nodes: sets as bits, Order. Conditions: as stated. -/
import Derived.Test.YtpnnnoagjcpmhaaDoorUT
open BitVec renaming ofInt->bt
open Bool renaming and_eq_true->af,not_true->cg,or_eq_true->bY
open Classical renaming choose_spec->cQ
open List renaming getD->jl,getElem_mem->bU,getElem_of_mem->cG,length_append->aG,length_singleton->bK,mem_append->ak,mem_append_left->aE,mem_append_right->aC,mem_cons->aF,mem_range->iP,mem_singleton->am,range->bh,replicate->az,take_append_getElem->eZ
open Nat renaming lt_or_ge->dC,mul_comm->ir,testBit_two_pow_sub_one->jx,zero_le->dQ
open Option renaming bind_some->ae
open Option.some renaming injEq->bl
open Go.Ev Go
namespace Go.Proofs.YtpnnnoagjcpmhaaDoor.U
theorem Oa{α:Type}[Inhabited α]{l:List α}{n m:Nat}{x:α}(hn:n<l.length):gt (l.set n x) m=if n=m then x else gt l m:=by
 simp only[gt,jl,List.getElem?_set];split
 .rename_i h;subst h;simp
 .rfl
theorem Nf{n:Nat}(h:n<65536):wr .u16 (n:Int)=(n:Int):=by simp[wr,IntKind.wrap,IntKind.bits,IntKind.signed];omega
theorem IG{n:Nat}(h:n<65536):(bt 16 (n:Int)).toNat=n:=by simp;omega
theorem LU{n:Nat}(h:∀j,16<=j->n.testBit j=false):n<65536:=Nat.lt_pow_two_of_testBit n h
theorem xm{n j:Nat}(h:n<65536)(hj:16<=j):n.testBit j=false:=Nat.testBit_lt_two_pow (Nat.lt_of_lt_of_le h (Nat.pow_le_pow_right (n:=2) (by decide) hj:2^16<=2^j))
def andNot(a b:Nat):Nat:=a^^^(a&&&b)
theorem jV(a b j:Nat):(andNot a b).testBit j=(a.testBit j&&!b.testBit j):=by simp only[andNot,Nat.testBit_xor,Nat.testBit_and];cases a.testBit j<;>cases b.testBit j<;>rfl
theorem px{a b:Nat}(h:a<65536):andNot a b<65536:=LU fun j hj=>by rw[jV,xm h hj];rfl
theorem Iq{a b:Nat}(ha:a<65536)(hb:b<65536):a|||b<65536:=LU fun j hj=>by rw[Nat.testBit_or,xm ha hj,xm hb hj];rfl
theorem Aq{a b:Nat}(ha:a<65536):a&&&b<65536:=LU fun j hj=>by rw[Nat.testBit_and,xm ha hj];rfl
theorem P1(a:Nat)(h:a<65536)(j:Nat):(bt 16 (a:Int)).getLsbD j=a.testBit j:=by rw[<-BitVec.testBit_toNat,IG h]
theorem M9{a b:Nat}(ha:a<65536)(hb:b<65536):Pb .u16 (a:Int) (b:Int)=((a|||b:Nat):Int):=by
 rw[Kt];have e:(bt 16 (a:Int)|||bt 16 (b:Int)).toNat=a|||b:=by rw[BitVec.toNat_or,IG ha,IG hb]
 show wr .u16 (((bt 16 (a:Int)|||bt 16 (b:Int)).toNat:Nat):Int)=_;rw[e,Nf (Iq ha hb)]
theorem Ku{a b:Nat}(ha:a<65536)(hb:b<65536):Hs .u16 (a:Int) (b:Int)=((a&&&b:Nat):Int):=by
 rw[Fw];have e:(bt 16 (a:Int)&&&bt 16 (b:Int)).toNat=a&&&b:=by rw[BitVec.toNat_and,IG ha,IG hb]
 show wr .u16 (((bt 16 (a:Int)&&&bt 16 (b:Int)).toNat:Nat):Int)=_;rw[e,Nf (Aq ha)]
theorem uA{a b:Nat}(ha:a<65536)(hb:b<65536):qb .u16 (a:Int) (b:Int)=((andNot a b:Nat):Int):=by
 rw[xq]
 have e:(bt 16 (a:Int)&&&~~~bt 16 (b:Int)).toNat=andNot a b:=by
  apply Nat.eq_of_testBit_eq;intro j;rw[BitVec.testBit_toNat,BitVec.getLsbD_and,BitVec.getLsbD_not,P1 a ha,P1 b hb,jV];by_cases hj:j<16
  .simp [hj]
  .rw [xm ha (by omega)];simp
 show wr .u16 (((bt 16 (a:Int)&&&~~~bt 16 (b:Int)).toNat:Nat):Int)=_;rw[e,Nf (px ha)]
theorem MO{i:Nat}(h:i<16):AV .u16 1 (i:Int)=some (((2^i:Nat)):Int):=by
 have:i=0\/i=1\/i=2\/i=3\/i=4\/i=5\/i=6\/i=7\/i=8\/i=9\/i=10\/i=11\/i=12\/i=13\/i=14\/i=15:=by omega
 rcases this with rfl|rfl|rfl|rfl|rfl|rfl|rfl|rfl|rfl|rfl|rfl|rfl|rfl|rfl|rfl|rfl<;>decide
theorem sP(i j:Nat):(2^i).testBit j=decide (i=j):=Nat.testBit_two_pow
theorem th:∀(x:Nat),x≠0->∃k m,x=2^(k+1)*m+2^k:=by
 intro x;induction x using Nat.strongRecOn with
 |_ x ih=>
  intro h;by_cases he:x %2=0
  .obtain ⟨k,m,e⟩:=ih (x/2) (by omega) (by omega);refine⟨k+1,m,?_⟩;have:x=2*(x/2):=by omega
   rw[this,e,Nat.pow_succ 2 (k+1),Nat.pow_succ 2 k,Nat.mul_add];have h2:2*(2^k*2*m)=2^k*2*2*m:=by rw[ir 2,Nat.mul_assoc,Nat.mul_assoc,Nat.mul_assoc,Nat.mul_assoc];congr 2;omega
   rw[h2,ir 2 (2^k)]
  .exact ⟨0,x/2,by simp;omega⟩
theorem wT{k m b j:Nat}(hb:b<2^(k+1)):(2^(k+1)*m+b).testBit j=if j<k+1 then b.testBit j else m.testBit (j-(k+1)):=Nat.testBit_two_pow_mul_add m hb j
theorem lu{x k m:Nat}(h:x=2^(k+1)*m+2^k)(j:Nat):x.testBit j=if j<k then false else if j=k then true else m.testBit (j-(k+1)):=by
 rw[h,wT (by rw[Nat.pow_succ];have:=Nat.two_pow_pos k;omega),sP];by_cases h1:j<k
 .rw [if_pos (by omega),if_pos h1,decide_eq_false (by omega)]
 .by_cases h2:j=k
  .subst h2;simp
  .rw [if_neg (by omega),if_neg h1,if_neg h2]
theorem yN{x k m:Nat}(h:x=2^(k+1)*m+2^k)(j:Nat):(x&&&(x-1)).testBit j=(x.testBit j&&decide (j≠k)):=by
 have hp:=Nat.two_pow_pos k;have e:x-1=2^(k+1)*m+(2^k-1):=by omega
 rw[Nat.testBit_and,lu h,e,wT (by rw[Nat.pow_succ];omega),jx];by_cases h1:j<k
 .simp [h1]
 .by_cases h2:j=k
  .subst h2;simp
  .rw [if_neg h1,if_neg h2,if_neg (by omega)];simp[h2]
theorem JD{x k m:Nat}(hx:x<65536)(h:x=2^(k+1)*m+2^k):x&&&(65536-x)=2^k:=by
 apply Nat.eq_of_testBit_eq;intro j;have hp:=Nat.two_pow_pos k;have e:65536-x=2^16-((x-1)+1):=by omega
 have e1:x-1=2^(k+1)*m+(2^k-1):=by omega
 rw[Nat.testBit_and,e,Nat.testBit_two_pow_sub_succ (by omega),sP,lu h,e1,wT (by rw[Nat.pow_succ];omega),jx]
 have hj:x.testBit j=true->j<16:=fun hj=>by
  rcases dC j 16 with h|h
  .exact h
  .rw [xm hx h]at hj;simp at hj
 rw[lu h]at hj;by_cases h1:j<k
 .simp [h1];omega
 .by_cases h2:j=k
  .subst h2;simp at hj|-;exact hj
  .rw [if_neg h1,if_neg h2,if_neg (by omega)]at*;cases m.testBit (j-(k+1))<;>simp_all<;>omega
def eN(x:Nat):List Nat:=(bh 16).filter x.testBit
theorem jG{x j:Nat}(hx:x<65536):j∈eN x<->x.testBit j=true:=by
 simp only[eN,List.mem_filter,iP];refine⟨fun h=>h.2,fun h=>⟨?_,h⟩⟩;rcases dC j 16 with h1|h1
 .exact h1
 .rw [xm hx h1]at h;simp at h
theorem qR(x:Nat):(eN x).Pairwise (·<·):=List.Pairwise.filter _ List.pairwise_lt_range
theorem zb:eN 0=[]:=by decide
theorem zd{x k m:Nat}(hx:x<65536)(h:x=2^(k+1)*m+2^k):eN x=k::eN (x&&&(x-1)):=by
 have hk:k∈eN x:=(jG hx).2 (by rw[lu h];simp);have s1:=qR x
 have s2:(k::eN (x&&&(x-1))).Pairwise (·<·):=by
  refine List.pairwise_cons.2 ⟨fun j hj=>?_,qR _⟩;have:=(jG (Aq hx)).1 hj;rw[yN h,lu h]at this;by_cases h1:j<k
  .simp [h1]at this
  .by_cases h2:j=k
   .simp [h2]at this
   .omega
 refine List.Perm.eq_of_pairwise (fun a b _ _ h1 h2=>by omega) s1 s2 ?_;refine(List.perm_ext_iff_of_nodup (s1.imp fun h=>by omega) (s2.imp fun h=>by omega)).2 fun j=>?_;rw[jG hx,aF,jG (Aq hx),yN h];by_cases h2:j=k
 .subst h2;simp[lu h]
 .simp [h2]
theorem Nq(k:Nat)(h:k<16):((fD (Ks .u32 (wr .u32 ((wr .u32 ((2^k:Nat):Int))*125613361)) 27) 32).bind fun n2=>some (wr .i64 (gt HN.1 n2)))=some (k:Int):=by
 have:k=0\/k=1\/k=2\/k=3\/k=4\/k=5\/k=6\/k=7\/k=8\/k=9\/k=10\/k=11\/k=12\/k=13\/k=14\/k=15:=by omega
 rcases this with rfl|rfl|rfl|rfl|rfl|rfl|rfl|rfl|rfl|rfl|rfl|rfl|rfl|rfl|rfl|rfl<;>decide+kernel
theorem tz{x k m:Nat}(hx:x<65536)(h:x=2^(k+1)*m+2^k):eQ (x:Int)=some (k:Int)/\k<16:=by
 have hp:=Nat.two_pow_pos k
 have hk:k<16:=by
  rcases dC k 16 with h1|h1
  .exact h1
  .have:=Nat.pow_le_pow_right (n:=2) (by decide) h1;omega
 refine⟨?_,hk⟩;have h0:((x:Int)==0)=false:=by simp;omega
 have e1:wr .u16 (0-(x:Int))=((65536-x:Nat):Int):=by simp[wr,IntKind.wrap,IntKind.bits,IntKind.signed];omega
 rw[eQ,h0,cond_false,e1,Ku hx (by omega),JD hx h];exact Nq k hk
def iA(l:List Nat):List Int:=l.map fun(x:Nat)=>(x:Int)
theorem ph(l:List Nat):(iA l).length=l.length:=by simp[iA]
theorem zT(l:List Nat)(i:Nat):gt (iA l) i=((gt l i:Nat):Int):=by simp only[gt,iA,List.getD_eq_getElem?_getD,List.getElem?_map];cases l[i]?<;>rfl
theorem Jj(l:List Nat)(i v:Nat):(iA l).set i (v:Int)=iA (l.set i v):=by rw[iA,iA,List.map_set]
theorem LW:∀(n x:Nat)(s:Sl Int),(eN x).length<=n->x<65536->s.l.length+n<=16->∃s',bL mg ((x:Int),s)=some s'/\s'.l=s.l++iA (eN x):=by
 intro n;induction n with
 |zero=>
  intro x s hn hx hs;have hb:eN x=[]:=List.length_eq_zero_iff.1 (Nat.le_zero.1 hn);by_cases h0:x=0
  .subst h0;exact⟨s,cS rfl,by simp[iA,zb]⟩
  .obtain ⟨k,m,h⟩:=th x h0;rw[zd hx h]at hb;simp at hb
 |succ n ih=>
  intro x s hn hx hs;by_cases h0:x=0
  .subst h0;exact⟨s,cS rfl,by simp[iA,zb]⟩
  .obtain ⟨k,m,h⟩:=th x h0;obtain⟨h1,hk⟩:=tz hx h;have hb:=zd hx h;have e1:wr .u16 ((x:Int)-1)=((x-1:Nat):Int):=by simp[wr,IntKind.wrap,IntKind.bits,IntKind.signed];omega
   have hcap:jT (s.l++[(k:Int)])=some (s.l++[(k:Int)]):=jt (by simp;omega)
   have hstep:mg ((x:Int),s)=some (.inl (((x&&&(x-1):Nat):Int),.mk (s.l++[(k:Int)]))):=by
    have h2:((x:Int) !=0)=true:=by simp;omega
    simp only[mg,h2,cond_true,h1,ae,hcap,e1,Ku hx (show x-1<65536 by omega)]
   rw[dV hstep];rw[hb]at hn;obtain⟨s',h3,h4⟩:=ih (x&&&(x-1)) (.mk (s.l++[(k:Int)])) (by simpa using hn) (Aq hx) (by simp;omega);exact⟨s',h3,by rw[h4,hb];simp[iA]⟩
theorem Cp(x:Nat):(eN x).length<=16:=by have:=List.length_filter_le x.testBit (bh 16);simpa[eN]using this
theorem GH{x:Nat}(hx:x<65536):∃s,p7 (x:Int)=some s/\s.l=iA (eN x):=by obtain⟨s,h1,h2⟩:=LW 16 x .nil (Cp x) hx (by simp);exact⟨s,by simp only[p7,h1,ae],by simpa using h2⟩
def xz(n:Int)(l:List bc):Prop:=(0<=n/\n<=16)/\∀e∈l,(0<=e.tK/\e.tK<n)/\(0<=e.To/\e.To<n)
instance(n:Int)(l:List bc):Decidable (xz n l):=by unfold xz;infer_instance
theorem Dh{n:Int}{l:Sl bc}(hb:l.l.length<1000000):mz n l=some (decide (xz n l.l)):=by
 unfold mz;by_cases hn:0<=n/\n<=16
 .have h1:((decide (n<0))||(decide (n>16)))=false:=by rw[Bool.or_eq_false_iff];simp;omega
  rw[h1,cond_false];let ok (e:bc):Prop:=(0<=e.tK/\e.tK<n)/\(0<=e.To/\e.To<n);refine DX (f:=jN n l) (fun i(_:Unit)=>(i:Int)) l.l.length (fun i _=>∀j<i,ok (gt l.l j)) (fun b=>match b with|.inl b=>b=false/\¬∀e∈l.l,ok e|.inr _=>∀e∈l.l,ok e) ?_ ?_ 0 () (dQ _) (fun j hj=>by omega) (fun b h2 h3=>?_)
  .intro i _ hi hI;have hd:decide ((i:Int)<(l.l.length:Int))=true:=by rw[decide_eq_true_eq];omega
   have hw:wr .i64 ((i:Int)+1)=((i+1:Nat):Int):=by rw[uH (by omega) (by omega)];omega
   have hc:((((decide ((bc.tK (gt l.l i))<0))||(decide ((bc.tK (gt l.l i))>=n)))||(decide ((bc.To (gt l.l i))<0)))||(decide ((bc.To (gt l.l i))>=n)))=decide (¬ok (gt l.l i)):=by rw[Bool.eq_iff_iff];simp only[bY,decide_eq_true_eq,ok];omega
   by_cases ho:ok (gt l.l i)
   .refine .inl ⟨(),?_,fun j hj=>?_⟩
    .simp only[jN,hd,cond_true,bP hi,ae,hc,ho,not_true_eq_false,decide_false,cond_false,hw]
    .rcases Nat.lt_succ_iff_lt_or_eq.1 hj with h|rfl
     .exact hI j h
     .exact ho
   .refine .inr ⟨.inl false,?_,rfl,fun h=>ho (h _ (by rw[eu hi];exact bU _))⟩;simp only[jN,hd,cond_true,bP hi,ae,hc,ho,not_false_eq_true,decide_true]
  .intro _ hI;have hd:decide ((l.l.length:Int)<(l.l.length:Int))=false:=by rw[decide_eq_false_iff_not];omega
   refine⟨.inr (),by simp only[jN,hd,cond_false],fun e he=>?_⟩;obtain⟨j,hj,rfl⟩:=cG he;rw[<-eu hj];exact hI j hj
  .have e0:((0:Nat):Int)=0:=rfl;rw[e0]at h2;rw[h2,ae];cases b with|inl b=>simp only[bl];rw[h3.1];exact(decide_eq_false fun h=>h3.2 h.2).symm|inr _=>simp only[bl];exact(decide_eq_true ⟨hn,h3⟩).symm
 .have h1:((decide (n<0))||(decide (n>16)))=true:=by rw[bY];simp;omega
  rw[h1,cond_true];simp only[bl];exact(decide_eq_false fun h=>hn h.1).symm
def Ed(l:List bc)(i j:Nat):Prop:=∃e∈l,e.tK=(i:Int)/\e.To=(j:Int)
theorem xz.lt{n:Nat}{l:List bc}(h:xz n l){i j:Nat}(he:Ed l i j):i<n/\j<n:=by obtain⟨e,he,h1,h2⟩:=he;have:=h.2 e he;omega
structure Nx(n:Nat)(l:List bc)(to:List Nat):Prop where
 len:to.length=n
 lt:∀i,gt to i<65536
 bit:∀i j,(gt to i).testBit j=true<->Ed l i j
theorem Jq{α:Type}[Inhabited α]{l:List α}{i:Nat}(h:l.length<=i):gt l i=default:=by simp[gt,jl,h]
theorem Gv{n:Nat}{l:Sl bc}(hb:l.l.length<1000000)(hF:xz n l.l):∃to,p6 (n:Int) l=some (.mk (iA to))/\Nx n l.l to:=by
 have hn16:n<=16:=by have:=hF.1;omega
 have hmk:HA (0:Int) (n:Int) (n:Int)=some (iA (az n 0)):=by rw[HA,if_pos (by omega)];simp[iA]
 refine DX (f:=me l) (fun i(to:List Nat)=>((i:Int),(Sl.mk (iA to)))) l.l.length (fun i to=>Nx n (l.l.take i) to) (fun b=>∃to,b=.mk (iA to)/\Nx n l.l to) ?_ ?_ 0 (az n 0) (dQ _) ⟨by simp,fun i=>?_,fun i j=>?_⟩ (fun b h2 h3=>?_)
 .intro i to hi hI;refine .inl ?_;have hd:decide ((i:Int)<(l.l.length:Int))=true:=by rw[decide_eq_true_eq];omega
  have hw:wr .i64 ((i:Int)+1)=((i+1:Nat):Int):=by rw[uH (by omega) (by omega)];omega
  have hm:gt l.l i∈l.l:=by rw[eu hi];exact bU _
  obtain⟨⟨f0,f1⟩,t0,t1⟩:=hF.2 _ hm;obtain⟨f,hf⟩:∃f:Nat,(gt l.l i).tK=(f:Int):=⟨(gt l.l i).tK.toNat,by omega⟩
  obtain⟨t,ht⟩:∃t:Nat,(gt l.l i).To=(t:Int):=⟨(gt l.l i).To.toNat,by omega⟩
  have hfl:f<(iA to).length:=by rw[ph,hI.len];omega
  have hpl:(2^t:Nat)<65536:=by have:=Nat.pow_lt_pow_right (a:=2) (by decide) (show t<16 by omega);omega
  refine⟨to.set f (gt to f|||2^t),?_,?_⟩
  .simp only[me,hd,cond_true,bP hi,ae,hf,Sl.m8,bP hfl,ht,MO (show t<16 by omega),zT,M9 (hI.lt f) hpl,Jj,hw]
  .have hft:f<to.length:=by rw[<-ph];exact hfl
   have et:l.l.take (i+1)=l.l.take i++[gt l.l i]:=by rw[eu hi,eZ hi]
   have hg:∀j,gt (to.set f (gt to f|||2^t)) j=if f=j then gt to f|||2^t else gt to j:=fun j=>Oa hft
   refine⟨by rw[List.length_set];exact hI.len,fun j=>?_,fun j k=>?_⟩
   .rw [hg];split
    .exact Iq (hI.lt f) hpl
    .exact hI.lt j
   .rw [hg,et]
    have hE:Ed (l.l.take i++[gt l.l i]) j k<->Ed (l.l.take i) j k\/(f=j/\t=k):=by
     unfold Ed;constructor
     .rintro ⟨e,he,h1,h2⟩;rcases ak.1 he with he|he
      .exact .inl ⟨e,he,h1,h2⟩
      .rw [am]at he;subst he;exact .inr ⟨by omega,by omega⟩
     .rintro (⟨e,he,h1,h2⟩|⟨rfl,rfl⟩)
      .exact ⟨e,aE _ he,h1,h2⟩
      .exact ⟨_,aC _ (am.2 rfl),hf,ht⟩
    rw[hE];by_cases hfj:f=j
    .subst hfj;rw[if_pos rfl,Nat.testBit_or,bY,hI.bit,sP,decide_eq_true_eq];simp
    .rw [if_neg hfj,hI.bit];simp[hfj]
 .intro to hI;have hd:decide ((l.l.length:Int)<(l.l.length:Int))=false:=by rw[decide_eq_false_iff_not];omega
  refine⟨.mk (iA to),by simp only[me,hd,cond_false],to,rfl,?_⟩;rw[List.take_length]at hI;exact hI
 .rcases dC i n with h|h
  .rw [eu (by simpa using h)];simp
  .rw [Jq (by simpa using h)];decide
 .have:gt (az n 0) i=0:=by
   rcases dC i n with h|h
   .rw [eu (by simpa using h)];simp
   .rw [Jq (by simpa using h)];rfl
  rw[this];simp[Ed]
 .obtain ⟨to,rfl,h4⟩:=h3;refine⟨to,?_,h4⟩;have e0:((0:Nat):Int)=0:=rfl;rw[e0]at h2;simp only[p6,hmk,ae,h2]
theorem Gf{n:Nat}{l:List bc}{to:List Nat}(hN:Nx n l to)(hn:n<=16){s:Nat}(hs:∀i,s.testBit i=true->i<n):
  ∃o:Nat,pZ (.mk (iA to)) (s:Int)=some (o:Int)/\o<65536/\∀j,o.testBit j=true<->∃i,s.testBit i=true/\Ed l i j:=by
 have hs16:s<65536:=LU fun j hj=>by cases h:s.testBit j with|false=>rfl|true=>have:=hs j h;omega
 obtain⟨r,hr,hrl⟩:=GH hs16;have hbl:=Cp s;refine DX (f:=md (.mk (iA to)) r) (fun i(o:Nat)=>((o:Int),(i:Int))) r.l.length (fun i o=>o<65536/\∀j,o.testBit j=true<->∃k∈(eN s).take i,Ed l k j) (fun b=>∃o:Nat,b=(o:Int)/\o<65536/\∀j,o.testBit j=true<->∃k∈eN s,Ed l k j) ?_ ?_ 0 0 (dQ _) ⟨by decide,fun j=>by simp⟩ (fun b h2 h3=>?_)
 .intro i o hi hI;refine .inl ?_;have hi2:i<(eN s).length:=by rw[hrl,ph]at hi;exact hi
  have hd:decide ((i:Int)<(r.l.length:Int))=true:=by rw[decide_eq_true_eq];omega
  have hw:wr .i64 ((i:Int)+1)=((i+1:Nat):Int):=by rw[uH (by omega) (by omega)];omega
  have hm:gt (eN s) i∈eN s:=by rw[eu hi2];exact bU _
  have hk:=hs _ ((jG hs16).1 hm);have hkl:gt (eN s) i<(Sl.mk (iA to)).l.length:=by simp only[Sl.m8];rw[ph,hN.len];exact hk
  refine⟨o|||gt to (gt (eN s) i),?_,Iq hI.1 (hN.lt _),fun j=>?_⟩
  .have hg:gt r.l i=((gt (eN s) i:Nat):Int):=by rw[hrl,zT]
   have hkl':gt (eN s) i<(iA to).length:=hkl;simp only[md,hd,cond_true,bP hi,ae,hg,Sl.m8,bP hkl',zT,M9 hI.1 (hN.lt _),hw]
  .have et:(eN s).take (i+1)=(eN s).take i++[gt (eN s) i]:=by rw[eu hi2,eZ hi2]
   rw[Nat.testBit_or,bY,hI.2,hN.bit,et];constructor
   .rintro (⟨k,hk,h⟩|h)
    .exact ⟨k,aE _ hk,h⟩
    .exact ⟨_,aC _ (am.2 rfl),h⟩
   .rintro ⟨k,hk,h⟩;rcases ak.1 hk with hk|hk
    .exact .inl ⟨k,hk,h⟩
    .rw [am]at hk;subst hk;exact .inr h
 .intro o hI;have hd:decide ((r.l.length:Int)<(r.l.length:Int))=false:=by rw[decide_eq_false_iff_not];omega
  refine⟨(o:Int),by simp only[md,hd,cond_false],o,rfl,hI.1,?_⟩;have:(eN s).take r.l.length=eN s:=List.take_of_length_le (by rw[hrl,ph];exact Nat.le_refl _);rw[this]at hI;exact hI.2
 .obtain ⟨o,rfl,ho,hb⟩:=h3;refine⟨o,?_,ho,fun j=>?_⟩
  .have e0:((0:Nat):Int)=0:=rfl;rw[e0]at h2;simp only[pZ,hr,ae,h2]
  .rw [hb];constructor
   .rintro ⟨k,hk,h⟩;exact⟨k,(jG hs16).1 hk,h⟩
   .rintro ⟨k,hk,h⟩;exact⟨k,(jG hs16).2 hk,h⟩
theorem NR{n:Nat}(h:n<=16):∃x,AV .u16 1 (n:Int)=some x/\wr .u16 (x-1)=((2^n-1:Nat):Int):=by
 have:n=0\/n=1\/n=2\/n=3\/n=4\/n=5\/n=6\/n=7\/n=8\/n=9\/n=10\/n=11\/n=12\/n=13\/n=14\/n=15\/n=16:=by omega
 rcases this with rfl|rfl|rfl|rfl|rfl|rfl|rfl|rfl|rfl|rfl|rfl|rfl|rfl|rfl|rfl|rfl|rfl<;>exact⟨_,rfl,by decide⟩
structure vo(n:Nat)(l:List bc)(x:Nat)(o:List Nat):Prop where
 lt:x<65536
 all:∀j,(x.testBit j=true\/j∈o)<->j<n
 not:∀j∈o,x.testBit j=false
 nd:o.Nodup
 rZ:∀p,p<o.length->∀i,Ed l i (gt o p)->∃q,q<p/\gt o q=i
 PG:∀p,p<o.length->∀j,j<gt o p->j∉o.take p->∃i,Ed l i j/\i∉o.take p
theorem ri{o:List Nat}{k p:Nat}(h:p<o.length):gt (o++[k]) p=gt o p:=by rw[eu h,eu (by simp;omega),List.getElem_append_left h]
theorem yJ{o:List Nat}{k:Nat}:gt (o++[k]) o.length=k:=by rw[eu (by simp)];simp
theorem IV{o:List Nat}{i:Nat}(h:i∈o):∃q,q<o.length/\gt o q=i:=by obtain⟨q,hq,rfl⟩:=cG h;exact⟨q,hq,eu hq⟩
theorem vo.add{n x k:Nat}{l:List bc}{o:List Nat}(h:vo n l x o)(hF:xz n l)(hk:x.testBit k=true)(hp:∀i,Ed l i k->x.testBit i=false)
  (hl:∀j,j<k->x.testBit j=true->∃i,x.testBit i=true/\Ed l i j):vo n l (andNot x (2^k)) (o++[k]):=by
 have hb:∀j,(andNot x (2^k)).testBit j=(x.testBit j&&!decide (k=j)):=fun j=>by rw[jV,sP]
 have hko:k∉o:=fun hm=>by rw[h.not k hm]at hk;simp at hk
 refine⟨px h.lt,fun j=>?_,fun j hj=>?_,?_,fun p hpl i he=>?_,fun p hpl j hj hn=>?_⟩
 .rw [<-h.all j,hb];by_cases hkj:k=j
  .subst hkj;simp[hk]
  .have:¬j=k:=fun e=>hkj e.symm;simp[hkj,this]
 .rw [hb];rcases ak.1 hj with hj|hj
  .rw [h.not j hj];rfl
  .rw [am]at hj;subst hj;simp
 .exact List.nodup_append.2 ⟨h.nd,by simp,fun a ha b hb=>by rw[am]at hb;subst hb;exact fun e=>hko (e▸ha)⟩
 .rw [aG,bK]at hpl;by_cases hp2:p<o.length
  .rw [ri hp2]at he;obtain⟨q,hq,e⟩:=h.rZ p hp2 i he;exact⟨q,hq,by rw[ri (by omega)];exact e⟩
  .obtain rfl:p=o.length:=by omega
   rw[yJ]at he;have hx:=hp i he;have hi:=(hF.lt he).1;rcases(h.all i).2 hi with h1|h1
   .rw [hx]at h1;simp at h1
   .obtain ⟨q,hq,e⟩:=IV h1;exact⟨q,hq,by rw[ri hq];exact e⟩
 .rw [aG,bK]at hpl;by_cases hp2:p<o.length
  .rw [ri hp2]at hj;rw[List.take_append_of_le_length (by omega)]at hn|-;exact h.PG p hp2 j hj hn
  .obtain rfl:p=o.length:=by omega
   rw[yJ]at hj;rw[List.take_left' rfl]at hn|-;have hkn:k<n:=(h.all k).1 (.inl hk);rcases(h.all j).2 (by omega)with h1|h1
   .obtain ⟨i,h2,h3⟩:=hl j hj h1;exact⟨i,h3,fun hm=>by rw[h.not i hm]at h2;simp at h2⟩
   .exact absurd h1 hn
structure KG(l:List bc)(x:Nat):Prop where
 ne:x≠0
 CG:∀j,x.testBit j=true->∃i,x.testBit i=true/\Ed l i j
theorem vo.len{n x:Nat}{l:List bc}{o:List Nat}(h:vo n l x o):o.length<=n:=by have hs:o⊆bh n:=fun j hj=>iP.2 ((h.all j).1 (.inr hj));have:=h.nd.length_le_of_subset hs;simpa using this
theorem Hm{x k:Nat}(hx:x<65536)(hk:x.testBit k=true):(eN (andNot x (2^k))).length<(eN x).length:=by
 have nd:(k::eN (andNot x (2^k))).Nodup:=by refine List.nodup_cons.2 ⟨fun h=>?_,(qR _).imp fun h=>by omega⟩;have:=(jG (px hx)).1 h;rw[jV,sP]at this;simp at this
 have hs:(k::eN (andNot x (2^k)))⊆eN x:=by
  intro j hj;rcases aF.1 hj with rfl|hj
  .exact (jG hx).2 hk
  .have:=(jG (px hx)).1 hj;rw[jV,af]at this;exact(jG hx).2 this.1
 have:=nd.length_le_of_subset hs;rw[List.length_cons]at this;omega
theorem Du{n:Nat}{l:Sl bc}(hb:l.l.length<1000000)(hF:xz n l.l):
  (∃s o,iT (n:Int) l=some (s,true)/\s.l=iA o/\vo n l.l 0 o)\/(iT (n:Int) l=some (.nil,false)/\∃x o,vo n l.l x o/\KG l.l x):=by
 have hn16:n<=16:=by have:=hF.1;omega
 obtain⟨to,h1,hN⟩:=Gv hb hF;obtain⟨x6,h6,h7⟩:=NR hn16;have hp2:2^n<=2^16:=Nat.pow_le_pow_right (by decide) hn16
 refine Nj (f:=jO (.mk (iA to))) (fun s=>(eN s.1.toNat).length) (fun s=>∃x o,s.1=((x:Nat):Int)/\s.2.l=iA o/\vo n l.l x o)
  (fun b=>match b with|.inl b=>b=false/\∃x o,vo n l.l x o/\KG l.l x|.inr s=>∃o,s.l=iA o/\vo n l.l 0 o) ?_
  (((2^n-1:Nat):Int),.nil) ⟨_,[],rfl,rfl,⟨by omega,fun j=>by rw[jx];simp,fun j hj=>by simp at hj,by simp,fun p hp=>by simp at hp,fun p hp=>by simp at hp⟩⟩ (fun b h2 h3=>?_)
 .rintro ⟨i8,s9⟩ ⟨x,o,hx,hs,hP⟩;simp only at hx hs;subst hx;by_cases h0:x=0
  .subst h0;exact .inr ⟨.inr s9,by simp[jO],o,hs,hP⟩
  .have hne:((x:Int) !=0)=true:=by simp;omega
   obtain⟨ov,ho,ho16,hob⟩:=Gf hN hn16 (s:=x) fun i hi=>(hP.all i).1 (.inl hi);by_cases hy:andNot x ov=0
   .right;have e1:(((andNot x ov:Nat):Int)==0)=true:=by rw[hy];rfl
    refine⟨.inl false,by simp only[jO,hne,cond_true,ho,ae,uA hP.lt ho16,e1],rfl,x,o,hP,h0,fun j hj=>(hob j).1 ?_⟩;have:=jV x ov j;rw[hy,hj,Nat.zero_testBit]at this;simpa using this.symm
   .left;obtain⟨k,m,hf⟩:=th _ hy;obtain⟨hz,hk16⟩:=tz (px hP.lt) hf;have e1:(((andNot x ov:Nat):Int)==0)=false:=by rw[beq_eq_false_iff_ne];omega
    have hkb:(andNot x ov).testBit k=true:=by rw[lu hf];simp
    rw[jV]at hkb;simp only[af,Bool.not_eq_true']at hkb;have hol:=hP.len;have hcap:jT (s9.l++[(k:Int)])=some (s9.l++[(k:Int)]):=jt (by rw[hs,aG,ph,bK];omega);have hpl:(2^k:Nat)<65536:=by have:=Nat.pow_lt_pow_right (a:=2) (by decide) hk16;omega
    refine⟨(((andNot x (2^k):Nat):Int),.mk (s9.l++[(k:Int)])),?_,⟨_,o++[k],rfl,by simp[hs,iA],?_⟩,?_⟩
    .simp only[jO,hne,cond_true,ho,ae,uA hP.lt ho16,e1,cond_false,hz,hcap,MO hk16,uA hP.lt hpl]
    .refine hP.add hF hkb.1 (fun i he=>?_) fun j hj hxj=>?_
     .cases hxi:x.testBit i with|false=>rfl|true=>have:=(hob k).2 ⟨i,hxi,he⟩;rw[hkb.2]at this;simp at this
     .have h4:(andNot x ov).testBit j=false:=by rw[lu hf,if_pos hj]
      rw[jV,hxj]at h4;exact(hob j).1 (by simpa using h4)
    .simp only[Int.toNat_natCast];exact Hm hP.lt hkb.1
 .have hr:mz (n:Int) l=some true:=by rw[Dh hb,decide_eq_true hF]
  cases b with|inl b=>exact .inr ⟨by simp only[iT,hr,ae,cg,cond_false,h1,h6,h7,h2,h3.1],h3.2⟩|inr s=>obtain⟨o,h4,h5⟩:=h3;exact .inl ⟨s,o,by simp only[iT,hr,ae,cg,cond_false,h1,h6,h7,h2],h4,h5⟩
inductive MH(l:List bc)(g:Nat):Nat->Nat->Prop
 |zero:MH l g 0 g
 |iD {d i k:Nat} (e:Ed l i k) (h:MH l g d k):MH l g (d+1) i
def P8(n:Nat)(l:List bc)(g:Nat):Prop:=∀k d,Ed l g k->MH l g d k->n<=d
theorem CV{n x:Nat}{l:List bc}{o:List Nat}(hP:vo n l x o)(hS:KG l x):∃g,g<n/\¬P8 n l g:=by
 obtain⟨j0,hj0⟩:∃j,x.testBit j=true:=by obtain⟨k,m,h⟩:=th x hS.ne;exact⟨k,by rw[lu h];simp⟩
 let nx (j:{j:Nat//x.testBit j=true}):{j:Nat//x.testBit j=true}:=⟨Classical.choose (hS.CG j.1 j.2),(cQ (hS.CG j.1 j.2)).1⟩
 have hnx:∀j,Ed l (nx j).1 j.1:=fun j=>(cQ (hS.CG j.1 j.2)).2;let h:Nat->{j:Nat//x.testBit j=true}:=fun t=>Nat.rec ⟨j0,hj0⟩ (fun _ j=>nx j) t;have hs:∀t,Ed l (h (t+1)).1 (h t).1:=fun t=>hnx (h t);have hlt:∀t,(h t).1<n:=fun t=>(hP.all _).1 (.inl (h t).2)
 have hpig:¬((bh (n+1)).map fun t=>(h t).1).Nodup:=by
  intro hnd;have hsub:((bh (n+1)).map fun t=>(h t).1)⊆bh n:=by intro y hy;obtain⟨t,_,rfl⟩:=List.mem_map.1 hy;exact iP.2 (hlt t)
  have:=hnd.length_le_of_subset hsub;simp at this;omega
 obtain⟨i,j,hij,hjn,he⟩:∃i j,i<j/\j<=n/\(h i).1=(h j).1:=by apply Classical.byContradiction;intro hno;apply hpig;rw[List.Nodup,List.pairwise_iff_getElem];intro i j hi hj hij e;simp only[List.getElem_map,List.getElem_range]at e;simp only[List.length_map,List.length_range]at hj;exact hno ⟨i,j,hij,by omega,e⟩
 have hw:∀d,MH l (h i).1 d (h (i+d)).1:=by intro d;induction d with|zero=>exact .zero|succ d ih=>exact .iD (hs (i+d)) ih
 refine⟨(h i).1,hlt i,fun hfree=>?_⟩;have h1:=hs (j-1);rw[show j-1+1=j by omega,<-he]at h1;have h2:=hw (j-1-i);rw[show i+(j-1-i)=j-1 by omega]at h2;have:=hfree _ _ h1 h2;omega
end Go.Proofs.YtpnnnoagjcpmhaaDoor.U
