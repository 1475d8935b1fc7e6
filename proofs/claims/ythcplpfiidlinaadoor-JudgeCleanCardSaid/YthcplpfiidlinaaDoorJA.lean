/- Graphs of at most sixteen nodes: sets as bits, Order. Conditions: as stated. -/
import Derived.Test.YthcplpfiidlinaaDoorJT
open Go.Ev Go
open BitVec renaming ofInt->bA
open Bool renaming and_eq_true->ai,not_true->bS,or_eq_true->cM
open Classical renaming choose_spec->dh
open List renaming getD->lM,getElem_mem->ce,getElem_of_mem->cu,length_append->av,length_singleton->bp,mem_append->ap,mem_append_left->aF,mem_append_right->aH,mem_cons->aP,mem_range->fz,mem_singleton->aq,range->aK,replicate->az,take_append_getElem->cZ
open Nat renaming lt_or_ge->e_,mul_comm->jy,testBit_two_pow_sub_one->kV,zero_le->cG
open Option renaming bind_some->af
open Option.some renaming injEq->bm
namespace Go.Proofs.YthcplpfiidlinaaDoor.J
theorem QA{α:Type}[Inhabited α]{l:List α}{n m:Nat}{x:α}(hn:n<l.length):gt (l.set n x) m=if n=m then x else gt l m:=by
 simp only[gt,lM,List.getElem?_set];split
 .rename_i h;subst h;simp
 .rfl
theorem PG{n:Nat}(h:n<65536):wr .u16 (n:Int)=(n:Int):=by simp[wr,IntKind.wrap,IntKind.bits,IntKind.signed];omega
theorem KY{n:Nat}(h:n<65536):(bA 16 (n:Int)).toNat=n:=by simp;omega
theorem Oe{n:Nat}(h:∀j,16<=j->n.testBit j=false):n<65536:=Nat.lt_pow_two_of_testBit n h
theorem zB{n j:Nat}(h:n<65536)(hj:16<=j):n.testBit j=false:=Nat.testBit_lt_two_pow (Nat.lt_of_lt_of_le h (Nat.pow_le_pow_right (n:=2) (by decide) hj:2^16<=2^j))
def andNot(a b:Nat):Nat:=a^^^(a&&&b)
theorem lq(a b j:Nat):(andNot a b).testBit j=(a.testBit j&&!b.testBit j):=by simp only[andNot,Nat.testBit_xor,Nat.testBit_and];cases a.testBit j<;>cases b.testBit j<;>rfl
theorem qU{a b:Nat}(h:a<65536):andNot a b<65536:=Oe fun j hj=>by rw[lq,zB h hj];rfl
theorem KM{a b:Nat}(ha:a<65536)(hb:b<65536):a|||b<65536:=Oe fun j hj=>by rw[Nat.testBit_or,zB ha hj,zB hb hj];rfl
theorem Cs{a b:Nat}(ha:a<65536):a&&&b<65536:=Oe fun j hj=>by rw[Nat.testBit_and,zB ha hj];rfl
theorem SF(a:Nat)(h:a<65536)(j:Nat):(bA 16 (a:Int)).getLsbD j=a.testBit j:=by rw[<-BitVec.testBit_toNat,KY h]
theorem Pz{a b:Nat}(ha:a<65536)(hb:b<65536):RB .u16 (a:Int) (b:Int)=((a|||b:Nat):Int):=by
 rw[Cm];have e:(bA 16 (a:Int)|||bA 16 (b:Int)).toNat=a|||b:=by rw[BitVec.toNat_or,KY ha,KY hb]
 show wr .u16 (((bA 16 (a:Int)|||bA 16 (b:Int)).toNat:Nat):Int)=_;rw[e,PG (KM ha hb)]
theorem MV{a b:Nat}(ha:a<65536)(hb:b<65536):JR .u16 (a:Int) (b:Int)=((a&&&b:Nat):Int):=by
 rw[xO];have e:(bA 16 (a:Int)&&&bA 16 (b:Int)).toNat=a&&&b:=by rw[BitVec.toNat_and,KY ha,KY hb]
 show wr .u16 (((bA 16 (a:Int)&&&bA 16 (b:Int)).toNat:Nat):Int)=_;rw[e,PG (Cs ha)]
theorem wN{a b:Nat}(ha:a<65536)(hb:b<65536):rL .u16 (a:Int) (b:Int)=((andNot a b:Nat):Int):=by
 rw[uO]
 have e:(bA 16 (a:Int)&&&~~~bA 16 (b:Int)).toNat=andNot a b:=by
  apply Nat.eq_of_testBit_eq;intro j;rw[BitVec.testBit_toNat,BitVec.getLsbD_and,BitVec.getLsbD_not,SF a ha,SF b hb,lq];by_cases hj:j<16
  .simp [hj]
  .rw [zB ha (by omega)];simp
 show wr .u16 (((bA 16 (a:Int)&&&~~~bA 16 (b:Int)).toNat:Nat):Int)=_;rw[e,PG (qU ha)]
theorem Pb{i:Nat}(h:i<16):ye .u16 1 (i:Int)=some (((2^i:Nat)):Int):=by
 have:i=0\/i=1\/i=2\/i=3\/i=4\/i=5\/i=6\/i=7\/i=8\/i=9\/i=10\/i=11\/i=12\/i=13\/i=14\/i=15:=by omega
 rcases this with rfl|rfl|rfl|rfl|rfl|rfl|rfl|rfl|rfl|rfl|rfl|rfl|rfl|rfl|rfl|rfl<;>decide
theorem u6(i j:Nat):(2^i).testBit j=decide (i=j):=Nat.testBit_two_pow
theorem vk:∀(x:Nat),x≠0->∃k m,x=2^(k+1)*m+2^k:=by
 intro x;induction x using Nat.strongRecOn with
 |_ x ih=>
  intro h;by_cases he:x %2=0
  .obtain ⟨k,m,e⟩:=ih (x/2) (by omega) (by omega);refine⟨k+1,m,?_⟩;have:x=2*(x/2):=by omega
   rw[this,e,Nat.pow_succ 2 (k+1),Nat.pow_succ 2 k,Nat.mul_add];have h2:2*(2^k*2*m)=2^k*2*2*m:=by rw[jy 2,Nat.mul_assoc,Nat.mul_assoc,Nat.mul_assoc,Nat.mul_assoc];congr 2;omega
   rw[h2,jy 2 (2^k)]
  .exact ⟨0,x/2,by simp;omega⟩
theorem zb{k m b j:Nat}(hb:b<2^(k+1)):(2^(k+1)*m+b).testBit j=if j<k+1 then b.testBit j else m.testBit (j-(k+1)):=Nat.testBit_two_pow_mul_add m hb j
theorem m8{x k m:Nat}(h:x=2^(k+1)*m+2^k)(j:Nat):x.testBit j=if j<k then false else if j=k then true else m.testBit (j-(k+1)):=by
 rw[h,zb (by rw[Nat.pow_succ];have:=Nat.two_pow_pos k;omega),u6];by_cases h1:j<k
 .rw [if_pos (by omega),if_pos h1,decide_eq_false (by omega)]
 .by_cases h2:j=k
  .subst h2;simp
  .rw [if_neg (by omega),if_neg h1,if_neg h2]
theorem A6{x k m:Nat}(h:x=2^(k+1)*m+2^k)(j:Nat):(x&&&(x-1)).testBit j=(x.testBit j&&decide (j≠k)):=by
 have hp:=Nat.two_pow_pos k;have e:x-1=2^(k+1)*m+(2^k-1):=by omega
 rw[Nat.testBit_and,m8 h,e,zb (by rw[Nat.pow_succ];omega),kV];by_cases h1:j<k
 .simp [h1]
 .by_cases h2:j=k
  .subst h2;simp
  .rw [if_neg h1,if_neg h2,if_neg (by omega)];simp[h2]
theorem L5{x k m:Nat}(hx:x<65536)(h:x=2^(k+1)*m+2^k):x&&&(65536-x)=2^k:=by
 apply Nat.eq_of_testBit_eq;intro j;have hp:=Nat.two_pow_pos k;have e:65536-x=2^16-((x-1)+1):=by omega
 have e1:x-1=2^(k+1)*m+(2^k-1):=by omega
 rw[Nat.testBit_and,e,Nat.testBit_two_pow_sub_succ (by omega),u6,m8 h,e1,zb (by rw[Nat.pow_succ];omega),kV]
 have hj:x.testBit j=true->j<16:=fun hj=>by
  rcases e_ j 16 with h|h
  .exact h
  .rw [zB hx h]at hj;simp at hj
 rw[m8 h]at hj;by_cases h1:j<k
 .simp [h1];omega
 .by_cases h2:j=k
  .subst h2;simp at hj|-;exact hj
  .rw [if_neg h1,if_neg h2,if_neg (by omega)]at*;cases m.testBit (j-(k+1))<;>simp_all<;>omega
def fG(x:Nat):List Nat:=(aK 16).filter x.testBit
theorem lf{x j:Nat}(hx:x<65536):j∈fG x<->x.testBit j=true:=by
 simp only[fG,List.mem_filter,fz];refine⟨fun h=>h.2,fun h=>⟨?_,h⟩⟩;rcases e_ j 16 with h1|h1
 .exact h1
 .rw [zB hx h1]at h;simp at h
theorem sZ(x:Nat):(fG x).Pairwise (·<·):=List.Pairwise.filter _ List.pairwise_lt_range
theorem Bs:fG 0=[]:=by decide
theorem Bt{x k m:Nat}(hx:x<65536)(h:x=2^(k+1)*m+2^k):fG x=k::fG (x&&&(x-1)):=by
 have hk:k∈fG x:=(lf hx).2 (by rw[m8 h];simp);have s1:=sZ x
 have s2:(k::fG (x&&&(x-1))).Pairwise (·<·):=by
  refine List.pairwise_cons.2 ⟨fun j hj=>?_,sZ _⟩;have:=(lf (Cs hx)).1 hj;rw[A6 h,m8 h]at this;by_cases h1:j<k
  .simp [h1]at this
  .by_cases h2:j=k
   .simp [h2]at this
   .omega
 refine List.Perm.eq_of_pairwise (fun a b _ _ h1 h2=>by omega) s1 s2 ?_;refine(List.perm_ext_iff_of_nodup (s1.imp fun h=>by omega) (s2.imp fun h=>by omega)).2 fun j=>?_;rw[lf hx,aP,lf (Cs hx),A6 h];by_cases h2:j=k
 .subst h2;simp[m8 h]
 .simp [h2]
theorem PQ(k:Nat)(h:k<16):((e9 (JQ .u32 (wr .u32 ((wr .u32 ((2^k:Nat):Int))*125613361)) 27) 32).bind fun n2=>some (wr .i64 (gt H8.1 n2)))=some (k:Int):=by
 have:k=0\/k=1\/k=2\/k=3\/k=4\/k=5\/k=6\/k=7\/k=8\/k=9\/k=10\/k=11\/k=12\/k=13\/k=14\/k=15:=by omega
 rcases this with rfl|rfl|rfl|rfl|rfl|rfl|rfl|rfl|rfl|rfl|rfl|rfl|rfl|rfl|rfl|rfl<;>decide+kernel
theorem tz{x k m:Nat}(hx:x<65536)(h:x=2^(k+1)*m+2^k):dE (x:Int)=some (k:Int)/\k<16:=by
 have hp:=Nat.two_pow_pos k
 have hk:k<16:=by
  rcases e_ k 16 with h1|h1
  .exact h1
  .have:=Nat.pow_le_pow_right (n:=2) (by decide) h1;omega
 refine⟨?_,hk⟩;have h0:((x:Int)==0)=false:=by simp;omega
 have e1:wr .u16 (0-(x:Int))=((65536-x:Nat):Int):=by simp[wr,IntKind.wrap,IntKind.bits,IntKind.signed];omega
 rw[dE,h0,cond_false,e1,MV hx (by omega),L5 hx h];exact PQ k hk
def jH(l:List Nat):List Int:=l.map fun(x:Nat)=>(x:Int)
theorem qJ(l:List Nat):(jH l).length=l.length:=by simp[jH]
theorem B2(l:List Nat)(i:Nat):gt (jH l) i=((gt l i:Nat):Int):=by simp only[gt,jH,List.getD_eq_getElem?_getD,List.getElem?_map];cases l[i]?<;>rfl
theorem LI(l:List Nat)(i v:Nat):(jH l).set i (v:Int)=jH (l.set i v):=by rw[jH,jH,List.map_set]
theorem Og:∀(n x:Nat)(s:Sl Int),(fG x).length<=n->x<65536->s.l.length+n<=16->∃s',bD kH ((x:Int),s)=some s'/\s'.l=s.l++jH (fG x):=by
 intro n;induction n with
 |zero=>
  intro x s hn hx hs;have hb:fG x=[]:=List.length_eq_zero_iff.1 (Nat.le_zero.1 hn);by_cases h0:x=0
  .subst h0;exact⟨s,cB rfl,by simp[jH,Bs]⟩
  .obtain ⟨k,m,h⟩:=vk x h0;rw[Bt hx h]at hb;simp at hb
 |succ n ih=>
  intro x s hn hx hs;by_cases h0:x=0
  .subst h0;exact⟨s,cB rfl,by simp[jH,Bs]⟩
  .obtain ⟨k,m,h⟩:=vk x h0;obtain⟨h1,hk⟩:=tz hx h;have hb:=Bt hx h;have e1:wr .u16 ((x:Int)-1)=((x-1:Nat):Int):=by simp[wr,IntKind.wrap,IntKind.bits,IntKind.signed];omega
   have hcap:iH (s.l++[(k:Int)])=some (s.l++[(k:Int)]):=ik (by simp;omega)
   have hstep:kH ((x:Int),s)=some (.inl (((x&&&(x-1):Nat):Int),.mk (s.l++[(k:Int)]))):=by
    have h2:((x:Int) !=0)=true:=by simp;omega
    simp only[kH,h2,cond_true,h1,af,hcap,e1,MV hx (show x-1<65536 by omega)]
   rw[dl hstep];rw[hb]at hn;obtain⟨s',h3,h4⟩:=ih (x&&&(x-1)) (.mk (s.l++[(k:Int)])) (by simpa using hn) (Cs hx) (by simp;omega);exact⟨s',h3,by rw[h4,hb];simp[jH]⟩
theorem Et(x:Nat):(fG x).length<=16:=by have:=List.length_filter_le x.testBit (aK 16);simpa[fG]using this
theorem I5{x:Nat}(hx:x<65536):∃s,nT (x:Int)=some s/\s.l=jH (fG x):=by obtain⟨s,h1,h2⟩:=Og 16 x .nil (Et x) hx (by simp);exact⟨s,by simp only[nT,h1,af],by simpa using h2⟩
def xC(n:Int)(l:List aQ):Prop:=(0<=n/\n<=16)/\∀e∈l,(0<=e.pN/\e.pN<n)/\(0<=e.To/\e.To<n)
instance(n:Int)(l:List aQ):Decidable (xC n l):=by unfold xC;infer_instance
theorem Fs{n:Int}{l:Sl aQ}(hb:l.l.length<1000000):lj n l=some (decide (xC n l.l)):=by
 unfold lj;by_cases hn:0<=n/\n<=16
 .have h1:((decide (n<0))||(decide (n>16)))=false:=by rw[Bool.or_eq_false_iff];simp;omega
  rw[h1,cond_false];let ok (e:aQ):Prop:=(0<=e.pN/\e.pN<n)/\(0<=e.To/\e.To<n);refine L6 (f:=j8 n l) (fun i(_:Unit)=>(i:Int)) l.l.length (fun i _=>∀j<i,ok (gt l.l j)) (fun b=>match b with|.inl b=>b=false/\¬∀e∈l.l,ok e|.inr _=>∀e∈l.l,ok e) ?_ ?_ 0 () (cG _) (fun j hj=>by omega) (fun b h2 h3=>?_)
  .intro i _ hi hI;have hd:decide ((i:Int)<(l.l.length:Int))=true:=by rw[decide_eq_true_eq];omega
   have hw:wr .i64 ((i:Int)+1)=((i+1:Nat):Int):=by rw[ig (by omega) (by omega)];omega
   have hc:((((decide ((aQ.pN (gt l.l i))<0))||(decide ((aQ.pN (gt l.l i))>=n)))||(decide ((aQ.To (gt l.l i))<0)))||(decide ((aQ.To (gt l.l i))>=n)))=decide (¬ok (gt l.l i)):=by rw[Bool.eq_iff_iff];simp only[cM,decide_eq_true_eq,ok];omega
   by_cases ho:ok (gt l.l i)
   .refine .inl ⟨(),?_,fun j hj=>?_⟩
    .simp only[j8,hd,cond_true,bq hi,af,hc,ho,not_true_eq_false,decide_false,cond_false,hw]
    .rcases Nat.lt_succ_iff_lt_or_eq.1 hj with h|rfl
     .exact hI j h
     .exact ho
   .refine .inr ⟨.inl false,?_,rfl,fun h=>ho (h _ (by rw[cR hi];exact ce _))⟩;simp only[j8,hd,cond_true,bq hi,af,hc,ho,not_false_eq_true,decide_true]
  .intro _ hI;have hd:decide ((l.l.length:Int)<(l.l.length:Int))=false:=by rw[decide_eq_false_iff_not];omega
   refine⟨.inr (),by simp only[j8,hd,cond_false],fun e he=>?_⟩;obtain⟨j,hj,rfl⟩:=cu he;rw[<-cR hj];exact hI j hj
  .have e0:((0:Nat):Int)=0:=rfl;rw[e0]at h2;rw[h2,af];cases b with|inl b=>simp only[bm];rw[h3.1];exact(decide_eq_false fun h=>h3.2 h.2).symm|inr _=>simp only[bm];exact(decide_eq_true ⟨hn,h3⟩).symm
 .have h1:((decide (n<0))||(decide (n>16)))=true:=by rw[cM];simp;omega
  rw[h1,cond_true];simp only[bm];exact(decide_eq_false fun h=>hn h.1).symm
def Ed(l:List aQ)(i j:Nat):Prop:=∃e∈l,e.pN=(i:Int)/\e.To=(j:Int)
theorem xC.lt{n:Nat}{l:List aQ}(h:xC n l){i j:Nat}(he:Ed l i j):i<n/\j<n:=by obtain⟨e,he,h1,h2⟩:=he;have:=h.2 e he;omega
structure Nx(n:Nat)(l:List aQ)(to:List Nat):Prop where
 len:to.length=n
 lt:∀i,gt to i<65536
 bit:∀i j,(gt to i).testBit j=true<->Ed l i j
theorem F_{α:Type}[Inhabited α]{l:List α}{i:Nat}(h:l.length<=i):gt l i=default:=by simp[gt,lM,h]
theorem IS{n:Nat}{l:Sl aQ}(hb:l.l.length<1000000)(hF:xC n l.l):∃to,nR (n:Int) l=some (.mk (jH to))/\Nx n l.l to:=by
 have hn16:n<=16:=by have:=hF.1;omega
 have hmk:zL (0:Int) (n:Int) (n:Int)=some (jH (az n 0)):=by rw[zL,if_pos (by omega)];simp[jH]
 refine L6 (f:=kG l) (fun i(to:List Nat)=>((i:Int),(Sl.mk (jH to)))) l.l.length (fun i to=>Nx n (l.l.take i) to) (fun b=>∃to,b=.mk (jH to)/\Nx n l.l to) ?_ ?_ 0 (az n 0) (cG _) ⟨by simp,fun i=>?_,fun i j=>?_⟩ (fun b h2 h3=>?_)
 .intro i to hi hI;refine .inl ?_;have hd:decide ((i:Int)<(l.l.length:Int))=true:=by rw[decide_eq_true_eq];omega
  have hw:wr .i64 ((i:Int)+1)=((i+1:Nat):Int):=by rw[ig (by omega) (by omega)];omega
  have hm:gt l.l i∈l.l:=by rw[cR hi];exact ce _
  obtain⟨⟨f0,f1⟩,t0,t1⟩:=hF.2 _ hm;obtain⟨f,hf⟩:∃f:Nat,(gt l.l i).pN=(f:Int):=⟨(gt l.l i).pN.toNat,by omega⟩
  obtain⟨t,ht⟩:∃t:Nat,(gt l.l i).To=(t:Int):=⟨(gt l.l i).To.toNat,by omega⟩
  have hfl:f<(jH to).length:=by rw[qJ,hI.len];omega
  have hpl:(2^t:Nat)<65536:=by have:=Nat.pow_lt_pow_right (a:=2) (by decide) (show t<16 by omega);omega
  refine⟨to.set f (gt to f|||2^t),?_,?_⟩
  .simp only[kG,hd,cond_true,bq hi,af,hf,Sl.iO,bq hfl,ht,Pb (show t<16 by omega),B2,Pz (hI.lt f) hpl,LI,hw]
  .have hft:f<to.length:=by rw[<-qJ];exact hfl
   have et:l.l.take (i+1)=l.l.take i++[gt l.l i]:=by rw[cR hi,cZ hi]
   have hg:∀j,gt (to.set f (gt to f|||2^t)) j=if f=j then gt to f|||2^t else gt to j:=fun j=>QA hft
   refine⟨by rw[List.length_set];exact hI.len,fun j=>?_,fun j k=>?_⟩
   .rw [hg];split
    .exact KM (hI.lt f) hpl
    .exact hI.lt j
   .rw [hg,et]
    have hE:Ed (l.l.take i++[gt l.l i]) j k<->Ed (l.l.take i) j k\/(f=j/\t=k):=by
     unfold Ed;constructor
     .rintro ⟨e,he,h1,h2⟩;rcases ap.1 he with he|he
      .exact .inl ⟨e,he,h1,h2⟩
      .rw [aq]at he;subst he;exact .inr ⟨by omega,by omega⟩
     .rintro (⟨e,he,h1,h2⟩|⟨rfl,rfl⟩)
      .exact ⟨e,aF _ he,h1,h2⟩
      .exact ⟨_,aH _ (aq.2 rfl),hf,ht⟩
    rw[hE];by_cases hfj:f=j
    .subst hfj;rw[if_pos rfl,Nat.testBit_or,cM,hI.bit,u6,decide_eq_true_eq];simp
    .rw [if_neg hfj,hI.bit];simp[hfj]
 .intro to hI;have hd:decide ((l.l.length:Int)<(l.l.length:Int))=false:=by rw[decide_eq_false_iff_not];omega
  refine⟨.mk (jH to),by simp only[kG,hd,cond_false],to,rfl,?_⟩;rw[List.take_length]at hI;exact hI
 .rcases e_ i n with h|h
  .rw [cR (by simpa using h)];simp
  .rw [F_ (by simpa using h)];decide
 .have:gt (az n 0) i=0:=by
   rcases e_ i n with h|h
   .rw [cR (by simpa using h)];simp
   .rw [F_ (by simpa using h)];rfl
  rw[this];simp[Ed]
 .obtain ⟨to,rfl,h4⟩:=h3;refine⟨to,?_,h4⟩;have e0:((0:Nat):Int)=0:=rfl;rw[e0]at h2;simp only[nR,hmk,af,h2]
theorem ID{n:Nat}{l:List aQ}{to:List Nat}(hN:Nx n l to)(hn:n<=16){s:Nat}(hs:∀i,s.testBit i=true->i<n):
  ∃o:Nat,nQ (.mk (jH to)) (s:Int)=some (o:Int)/\o<65536/\∀j,o.testBit j=true<->∃i,s.testBit i=true/\Ed l i j:=by
 have hs16:s<65536:=Oe fun j hj=>by cases h:s.testBit j with|false=>rfl|true=>have:=hs j h;omega
 obtain⟨r,hr,hrl⟩:=I5 hs16;have hbl:=Et s;refine L6 (f:=kF (.mk (jH to)) r) (fun i(o:Nat)=>((o:Int),(i:Int))) r.l.length (fun i o=>o<65536/\∀j,o.testBit j=true<->∃k∈(fG s).take i,Ed l k j) (fun b=>∃o:Nat,b=(o:Int)/\o<65536/\∀j,o.testBit j=true<->∃k∈fG s,Ed l k j) ?_ ?_ 0 0 (cG _) ⟨by decide,fun j=>by simp⟩ (fun b h2 h3=>?_)
 .intro i o hi hI;refine .inl ?_;have hi2:i<(fG s).length:=by rw[hrl,qJ]at hi;exact hi
  have hd:decide ((i:Int)<(r.l.length:Int))=true:=by rw[decide_eq_true_eq];omega
  have hw:wr .i64 ((i:Int)+1)=((i+1:Nat):Int):=by rw[ig (by omega) (by omega)];omega
  have hm:gt (fG s) i∈fG s:=by rw[cR hi2];exact ce _
  have hk:=hs _ ((lf hs16).1 hm);have hkl:gt (fG s) i<(Sl.mk (jH to)).l.length:=by simp only[Sl.iO];rw[qJ,hN.len];exact hk
  refine⟨o|||gt to (gt (fG s) i),?_,KM hI.1 (hN.lt _),fun j=>?_⟩
  .have hg:gt r.l i=((gt (fG s) i:Nat):Int):=by rw[hrl,B2]
   have hkl':gt (fG s) i<(jH to).length:=hkl;simp only[kF,hd,cond_true,bq hi,af,hg,Sl.iO,bq hkl',B2,Pz hI.1 (hN.lt _),hw]
  .have et:(fG s).take (i+1)=(fG s).take i++[gt (fG s) i]:=by rw[cR hi2,cZ hi2]
   rw[Nat.testBit_or,cM,hI.2,hN.bit,et];constructor
   .rintro (⟨k,hk,h⟩|h)
    .exact ⟨k,aF _ hk,h⟩
    .exact ⟨_,aH _ (aq.2 rfl),h⟩
   .rintro ⟨k,hk,h⟩;rcases ap.1 hk with hk|hk
    .exact .inl ⟨k,hk,h⟩
    .rw [aq]at hk;subst hk;exact .inr h
 .intro o hI;have hd:decide ((r.l.length:Int)<(r.l.length:Int))=false:=by rw[decide_eq_false_iff_not];omega
  refine⟨(o:Int),by simp only[kF,hd,cond_false],o,rfl,hI.1,?_⟩;have:(fG s).take r.l.length=fG s:=List.take_of_length_le (by rw[hrl,qJ];exact Nat.le_refl _);rw[this]at hI;exact hI.2
 .obtain ⟨o,rfl,ho,hb⟩:=h3;refine⟨o,?_,ho,fun j=>?_⟩
  .have e0:((0:Nat):Int)=0:=rfl;rw[e0]at h2;simp only[nQ,hr,af,h2]
  .rw [hb];constructor
   .rintro ⟨k,hk,h⟩;exact⟨k,(lf hs16).1 hk,h⟩
   .rintro ⟨k,hk,h⟩;exact⟨k,(lf hs16).2 hk,h⟩
theorem Qh{n:Nat}(h:n<=16):∃x,ye .u16 1 (n:Int)=some x/\wr .u16 (x-1)=((2^n-1:Nat):Int):=by
 have:n=0\/n=1\/n=2\/n=3\/n=4\/n=5\/n=6\/n=7\/n=8\/n=9\/n=10\/n=11\/n=12\/n=13\/n=14\/n=15\/n=16:=by omega
 rcases this with rfl|rfl|rfl|rfl|rfl|rfl|rfl|rfl|rfl|rfl|rfl|rfl|rfl|rfl|rfl|rfl|rfl<;>exact⟨_,rfl,by decide⟩
structure xB(n:Nat)(l:List aQ)(x:Nat)(o:List Nat):Prop where
 lt:x<65536
 all:∀j,(x.testBit j=true\/j∈o)<->j<n
 not:∀j∈o,x.testBit j=false
 nd:o.Nodup
 sy:∀p,p<o.length->∀i,Ed l i (gt o p)->∃q,q<p/\gt o q=i
 Pk:∀p,p<o.length->∀j,j<gt o p->j∉o.take p->∃i,Ed l i j/\i∉o.take p
theorem tM{o:List Nat}{k p:Nat}(h:p<o.length):gt (o++[k]) p=gt o p:=by rw[cR h,cR (by simp;omega),List.getElem_append_left h]
theorem A1{o:List Nat}{k:Nat}:gt (o++[k]) o.length=k:=by rw[cR (by simp)];simp
theorem Lg{o:List Nat}{i:Nat}(h:i∈o):∃q,q<o.length/\gt o q=i:=by obtain⟨q,hq,rfl⟩:=cu h;exact⟨q,hq,cR hq⟩
theorem xB.add{n x k:Nat}{l:List aQ}{o:List Nat}(h:xB n l x o)(hF:xC n l)(hk:x.testBit k=true)(hp:∀i,Ed l i k->x.testBit i=false)
  (hl:∀j,j<k->x.testBit j=true->∃i,x.testBit i=true/\Ed l i j):xB n l (andNot x (2^k)) (o++[k]):=by
 have hb:∀j,(andNot x (2^k)).testBit j=(x.testBit j&&!decide (k=j)):=fun j=>by rw[lq,u6]
 have hko:k∉o:=fun hm=>by rw[h.not k hm]at hk;simp at hk
 refine⟨qU h.lt,fun j=>?_,fun j hj=>?_,?_,fun p hpl i he=>?_,fun p hpl j hj hn=>?_⟩
 .rw [<-h.all j,hb];by_cases hkj:k=j
  .subst hkj;simp[hk]
  .have:¬j=k:=fun e=>hkj e.symm;simp[hkj,this]
 .rw [hb];rcases ap.1 hj with hj|hj
  .rw [h.not j hj];rfl
  .rw [aq]at hj;subst hj;simp
 .exact List.nodup_append.2 ⟨h.nd,by simp,fun a ha b hb=>by rw[aq]at hb;subst hb;exact fun e=>hko (e▸ha)⟩
 .rw [av,bp]at hpl;by_cases hp2:p<o.length
  .rw [tM hp2]at he;obtain⟨q,hq,e⟩:=h.sy p hp2 i he;exact⟨q,hq,by rw[tM (by omega)];exact e⟩
  .obtain rfl:p=o.length:=by omega
   rw[A1]at he;have hx:=hp i he;have hi:=(hF.lt he).1;rcases(h.all i).2 hi with h1|h1
   .rw [hx]at h1;simp at h1
   .obtain ⟨q,hq,e⟩:=Lg h1;exact⟨q,hq,by rw[tM hq];exact e⟩
 .rw [av,bp]at hpl;by_cases hp2:p<o.length
  .rw [tM hp2]at hj;rw[List.take_append_of_le_length (by omega)]at hn|-;exact h.Pk p hp2 j hj hn
  .obtain rfl:p=o.length:=by omega
   rw[A1]at hj;rw[List.take_left' rfl]at hn|-;have hkn:k<n:=(h.all k).1 (.inl hk);rcases(h.all j).2 (by omega)with h1|h1
   .obtain ⟨i,h2,h3⟩:=hl j hj h1;exact⟨i,h3,fun hm=>by rw[h.not i hm]at h2;simp at h2⟩
   .exact absurd h1 hn
structure M6(l:List aQ)(x:Nat):Prop where
 ne:x≠0
 EL:∀j,x.testBit j=true->∃i,x.testBit i=true/\Ed l i j
theorem xB.len{n x:Nat}{l:List aQ}{o:List Nat}(h:xB n l x o):o.length<=n:=by have hs:o⊆aK n:=fun j hj=>fz.2 ((h.all j).1 (.inr hj));have:=h.nd.length_le_of_subset hs;simpa using this
theorem JK{x k:Nat}(hx:x<65536)(hk:x.testBit k=true):(fG (andNot x (2^k))).length<(fG x).length:=by
 have nd:(k::fG (andNot x (2^k))).Nodup:=by refine List.nodup_cons.2 ⟨fun h=>?_,(sZ _).imp fun h=>by omega⟩;have:=(lf (qU hx)).1 h;rw[lq,u6]at this;simp at this
 have hs:(k::fG (andNot x (2^k)))⊆fG x:=by
  intro j hj;rcases aP.1 hj with rfl|hj
  .exact (lf hx).2 hk
  .have:=(lf (qU hx)).1 hj;rw[lq,ai]at this;exact(lf hx).2 this.1
 have:=nd.length_le_of_subset hs;rw[List.length_cons]at this;omega
theorem FD{n:Nat}{l:Sl aQ}(hb:l.l.length<1000000)(hF:xC n l.l):
  (∃s o,iK (n:Int) l=some (s,true)/\s.l=jH o/\xB n l.l 0 o)\/(iK (n:Int) l=some (.nil,false)/\∃x o,xB n l.l x o/\M6 l.l x):=by
 have hn16:n<=16:=by have:=hF.1;omega
 obtain⟨to,h1,hN⟩:=IS hb hF;obtain⟨x6,h6,h7⟩:=Qh hn16;have hp2:2^n<=2^16:=Nat.pow_le_pow_right (by decide) hn16
 refine PK (f:=iW (.mk (jH to))) (fun s=>(fG s.1.toNat).length) (fun s=>∃x o,s.1=((x:Nat):Int)/\s.2.l=jH o/\xB n l.l x o)
  (fun b=>match b with|.inl b=>b=false/\∃x o,xB n l.l x o/\M6 l.l x|.inr s=>∃o,s.l=jH o/\xB n l.l 0 o) ?_
  (((2^n-1:Nat):Int),.nil) ⟨_,[],rfl,rfl,⟨by omega,fun j=>by rw[kV];simp,fun j hj=>by simp at hj,by simp,fun p hp=>by simp at hp,fun p hp=>by simp at hp⟩⟩ (fun b h2 h3=>?_)
 .rintro ⟨i8,s9⟩ ⟨x,o,hx,hs,hP⟩;simp only at hx hs;subst hx;by_cases h0:x=0
  .subst h0;exact .inr ⟨.inr s9,by simp[iW],o,hs,hP⟩
  .have hne:((x:Int) !=0)=true:=by simp;omega
   obtain⟨ov,ho,ho16,hob⟩:=ID hN hn16 (s:=x) fun i hi=>(hP.all i).1 (.inl hi);by_cases hy:andNot x ov=0
   .right;have e1:(((andNot x ov:Nat):Int)==0)=true:=by rw[hy];rfl
    refine⟨.inl false,by simp only[iW,hne,cond_true,ho,af,wN hP.lt ho16,e1],rfl,x,o,hP,h0,fun j hj=>(hob j).1 ?_⟩;have:=lq x ov j;rw[hy,hj,Nat.zero_testBit]at this;simpa using this.symm
   .left;obtain⟨k,m,hf⟩:=vk _ hy;obtain⟨hz,hk16⟩:=tz (qU hP.lt) hf;have e1:(((andNot x ov:Nat):Int)==0)=false:=by rw[beq_eq_false_iff_ne];omega
    have hkb:(andNot x ov).testBit k=true:=by rw[m8 hf];simp
    rw[lq]at hkb;simp only[ai,Bool.not_eq_true']at hkb;have hol:=hP.len;have hcap:iH (s9.l++[(k:Int)])=some (s9.l++[(k:Int)]):=ik (by rw[hs,av,qJ,bp];omega);have hpl:(2^k:Nat)<65536:=by have:=Nat.pow_lt_pow_right (a:=2) (by decide) hk16;omega
    refine⟨(((andNot x (2^k):Nat):Int),.mk (s9.l++[(k:Int)])),?_,⟨_,o++[k],rfl,by simp[hs,jH],?_⟩,?_⟩
    .simp only[iW,hne,cond_true,ho,af,wN hP.lt ho16,e1,cond_false,hz,hcap,Pb hk16,wN hP.lt hpl]
    .refine hP.add hF hkb.1 (fun i he=>?_) fun j hj hxj=>?_
     .cases hxi:x.testBit i with|false=>rfl|true=>have:=(hob k).2 ⟨i,hxi,he⟩;rw[hkb.2]at this;simp at this
     .have h4:(andNot x ov).testBit j=false:=by rw[m8 hf,if_pos hj]
      rw[lq,hxj]at h4;exact(hob j).1 (by simpa using h4)
    .simp only[Int.toNat_natCast];exact JK hP.lt hkb.1
 .have hr:lj (n:Int) l=some true:=by rw[Fs hb,decide_eq_true hF]
  cases b with|inl b=>exact .inr ⟨by simp only[iK,hr,af,bS,cond_false,h1,h6,h7,h2,h3.1],h3.2⟩|inr s=>obtain⟨o,h4,h5⟩:=h3;exact .inl ⟨s,o,by simp only[iK,hr,af,bS,cond_false,h1,h6,h7,h2],h4,h5⟩
inductive O5(l:List aQ)(g:Nat):Nat->Nat->Prop
 |zero:O5 l g 0 g
 |kI {d i k:Nat} (e:Ed l i k) (h:O5 l g d k):O5 l g (d+1) i
def SL(n:Nat)(l:List aQ)(g:Nat):Prop:=∀k d,Ed l g k->O5 l g d k->n<=d
theorem E1{n x:Nat}{l:List aQ}{o:List Nat}(hP:xB n l x o)(hS:M6 l x):∃g,g<n/\¬SL n l g:=by
 obtain⟨j0,hj0⟩:∃j,x.testBit j=true:=by obtain⟨k,m,h⟩:=vk x hS.ne;exact⟨k,by rw[m8 h];simp⟩
 let nx (j:{j:Nat//x.testBit j=true}):{j:Nat//x.testBit j=true}:=⟨Classical.choose (hS.EL j.1 j.2),(dh (hS.EL j.1 j.2)).1⟩
 have hnx:∀j,Ed l (nx j).1 j.1:=fun j=>(dh (hS.EL j.1 j.2)).2;let h:Nat->{j:Nat//x.testBit j=true}:=fun t=>Nat.rec ⟨j0,hj0⟩ (fun _ j=>nx j) t;have hs:∀t,Ed l (h (t+1)).1 (h t).1:=fun t=>hnx (h t);have hlt:∀t,(h t).1<n:=fun t=>(hP.all _).1 (.inl (h t).2)
 have hpig:¬((aK (n+1)).map fun t=>(h t).1).Nodup:=by
  intro hnd;have hsub:((aK (n+1)).map fun t=>(h t).1)⊆aK n:=by intro y hy;obtain⟨t,_,rfl⟩:=List.mem_map.1 hy;exact fz.2 (hlt t)
  have:=hnd.length_le_of_subset hsub;simp at this;omega
 obtain⟨i,j,hij,hjn,he⟩:∃i j,i<j/\j<=n/\(h i).1=(h j).1:=by apply Classical.byContradiction;intro hno;apply hpig;rw[List.Nodup,List.pairwise_iff_getElem];intro i j hi hj hij e;simp only[List.getElem_map,List.getElem_range]at e;simp only[List.length_map,List.length_range]at hj;exact hno ⟨i,j,hij,by omega,e⟩
 have hw:∀d,O5 l (h i).1 d (h (i+d)).1:=by intro d;induction d with|zero=>exact .zero|succ d ih=>exact .kI (hs (i+d)) ih
 refine⟨(h i).1,hlt i,fun hfree=>?_⟩;have h1:=hs (j-1);rw[show j-1+1=j by omega,<-he]at h1;have h2:=hw (j-1-i);rw[show i+(j-1-i)=j-1 by omega]at h2;have:=hfree _ _ h1 h2;omega
end Go.Proofs.YthcplpfiidlinaaDoor.J
