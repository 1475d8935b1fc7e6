/- A line, read: by the document. Conditions: as stated. -/
import Derived.Test.YtbcmbckpebpijaaDoorCr
open Bool renaming and_self->fI
open List renaming append_nil->aW,cons_append->aJ,drop_append->iN,drop_eq_getElem_cons->cI,drop_of_length_le->dR,getElem?_eq_getElem->ai,mem_cons_self->bG,nil_append->aY
open Option renaming bind_some->af
open Option.some renaming inj->aa
open UInt8 renaming ofNat->jF
open Go.Ev Go
namespace Go.Proofs.YtbcmbckpebpijaaDoor.C
def di(c:UInt8)(l:List UInt8):List UInt8:=l.takeWhile (fun x=>x !=c)
theorem pW{a b:List UInt8}{c:UInt8}(h:c∉a):di c (a++c::b)=a:=by unfold di;rw[List.takeWhile_append_of_pos (fun x hx=>by simp;exact fun e=>h (e▸hx))];simp
theorem BA{a:List UInt8}{c:UInt8}(h:c∉a):di c a=a:=by have:=List.takeWhile_append_of_pos (p:=fun x=>x !=c) (l₁:=a) (l₂:=[]) (fun x hx=>by simp;exact fun e=>h (e▸hx));rw[aW]at this;unfold di;rw[this];simp
theorem su(c:UInt8)(l:List UInt8):(di c l).length<=l.length:=(List.takeWhile_sublist _).length_le
theorem v6{f:Int->Option (Int⊕Int)}{l:List UInt8}{c:UInt8}(hs:∀(i:Nat)(x:UInt8),l[i]?=some x->f (i:Int)=if x=c then some (.inr (i:Int))else some (.inl ((i+1:Nat):Int)))(he:f (l.length:Int)=some (.inr (l.length:Int))):
  ∀(d i:Nat),i+d=l.length->dP f (i:Int)=some ((i+(di c (l.drop i)).length:Nat):Int)
 |0,i,h=>by
  obtain rfl:i=l.length:=by omega
  rw[eF he,List.drop_length];rfl
 |d+1,i,h=>by
  have hi:i<l.length:=by omega
  have hx:=hs i l[i] (ai hi);rw[cI hi];by_cases hc:l[i]=c
  .rw [if_pos hc]at hx;rw[eF hx,hc];unfold di;rw[List.takeWhile_cons_of_neg (by simp)];rfl
  .rw [if_neg hc]at hx;rw[gf hx,v6 hs he d (i+1) (by omega)];unfold di;rw[List.takeWhile_cons_of_pos (by simpa using hc)];simp only[List.length_cons];congr 2;omega
theorem wY{x c:UInt8}:((x.toNat:Int) !=(c.toNat:Int))=!decide (x=c):=by
 by_cases h:x=c
 .subst h;simp
 .rw [decide_eq_false h];simp only[Bool.not_false,bne_iff_ne,ne_eq];intro e;exact h (UInt8.toNat_inj.1 (by omega))
theorem EM(l:List UInt8)(hl:l.length<=100000):dP (iW (B l)) 0=some (((di 32 l).length:Nat):Int):=by
 have h:=v6 (f:=iW (B l)) (l:=l) (c:=32) (fun i x hx=>by
  obtain⟨hi,_⟩:=List.getElem?_eq_some_iff.1 hx;simp only[iW];rw[decide_eq_true (by rw[eR];omega),cond_true,zy hx];simp only[af];rw[show((x.toNat:Int) !=32)=!decide (x=32)from wY (c:=32),rS (by omega)];by_cases hc:x=32
  .rw [decide_eq_true hc,if_pos hc];rfl
  .rw [decide_eq_false hc,if_neg hc];rfl) (by
  simp only[iW];rw[decide_eq_false (by rw[eR];omega)];rfl) l.length 0 (by omega)
 rw[List.drop_zero,Nat.zero_add]at h;exact h
theorem EP{l:List UInt8}{m:Nat}(hm:m<=l.length):dP (iV (B l) (m:Int)) (1,(⟨0,0,0⟩:aE))=some ((kH 11 (l.take m),0,0):aE):=by
 have hsub:mY (B l) 0 (m:Int)=some (B (l.take m)):=by have:=Eu (l:=l) (a:=0) (b:=m) (by omega) hm;simpa using this
 obtain⟨b,h1,h2⟩:=AY (f:=iV (B l) (m:Int)) (fun i(_:Unit)=>(((i+1:Nat):Int),((kH i (l.take m),0,0):aE))) 11 (fun _ _=>True) (fun b=>b=((kH 11 (l.take m),0,0):aE)) (fun i s hi _=>by
  refine .inl ⟨(),?_,trivial⟩;simp only[iV];rw[decide_eq_true (by omega),cond_true,n_ (by omega)];simp only[af];rw[hsub];simp only[af];rw[xk,rS (by omega)];have e:kH (i+1) (l.take m)=if o7 ((i+1:Nat):Int)=l.take m then((i+1:Nat):Int)else kH i (l.take m):=rfl;rw[e];by_cases h:o7 ((i+1:Nat):Int)=l.take m
  .rw [decide_eq_true h,if_pos h];rfl
  .rw [decide_eq_false h,if_neg h];rfl) (fun s _=>by
  simp only[iV];exact⟨_,rfl,rfl⟩) 0 () (by omega) trivial
 rw[<-h2];exact h1
def rK:Nat->Nat->List UInt8->Nat×Nat
 |k+1,v,c::r=>if 48<=c.toNat/\c.toNat<=57 then((rK k (10*v+(c.toNat-48)) r).1,(rK k (10*v+(c.toNat-48)) r).2+1)else(v,0)
 |_,v,_=>(v,0)
theorem wP:∀(k v:Nat)(r:List UInt8),(rK k v r).2<=k/\(rK k v r).1+1<=(v+1)*10^k
 |0,v,r=>by simp[rK]
 |k+1,v,[]=>by simp only[rK];exact⟨by omega,Nat.le_mul_of_pos_right _ (Nat.pow_pos (by decide))⟩
 |k+1,v,c::r=>by
  simp only[rK];split
  .obtain ⟨h1,h2⟩:=wP k (10*v+(c.toNat-48)) r;refine⟨by simp only;omega,Nat.le_trans h2 ?_⟩;rw[Nat.pow_succ,Nat.mul_comm (10^k) 10,<-Nat.mul_assoc];exact Nat.mul_le_mul_right _ (by omega)
  .exact ⟨by simp,Nat.le_mul_of_pos_right _ (Nat.pow_pos (by decide))⟩
theorem wQ:∀(d:List UInt8)(k v:Nat)(q:List UInt8),(∀c∈d,48<=c.toNat/\c.toNat<=57)->d.length<=k->(∀c,q.head?=some c->¬(48<=c.toNat/\c.toNat<=57))->
  rK k v (d++q)=(d.foldl (fun v c=>10*v+(c.toNat-48)) v,d.length)
 |[],k,v,q,_,_,hq=>by
  cases q with
  |nil=>cases k<;>rfl
  |cons c q=>cases k with|zero=>rfl|succ k=>simp only[aY,rK];rw[if_neg (hq c rfl)];rfl
 |c::d,k,v,q,hd,hk,hq=>by cases k with|zero=>simp at hk|succ k=>have ih:=wQ d k (10*v+(c.toNat-48)) q (fun x hx=>hd x (List.mem_cons_of_mem _ hx)) (by simpa using hk) hq;simp only[aJ,rK];rw[if_pos (hd c (bG ..)),ih];rfl
theorem Cm(n:Nat):(Lib.decDigits n).foldl (fun v c=>10*v+(c.toNat-48)) 0=n:=by
 induction n using Nat.strongRecOn with
 |ind n ih=>
  by_cases h:n<10
  .rw [lF h];show 10*0+((jF (48+n)).toNat-48)=n;rw[oY h];omega
  .rw [oB h,List.foldl_append,ih (n/10) (by omega)];show 10*(n/10)+((jF (48+n %10)).toNat-48)=n;rw[oY (by omega)];omega
theorem u6{l:List UInt8}(hl:l.length<=100000):∀(k i v:Nat),k<=7->v+1<=10^(7-k)->
  dP (eH (B l)) ((i:Int),(v:Int),((7-k:Nat):Int))=some (((i+(rK k v (l.drop i)).2:Nat):Int),((rK k v (l.drop i)).1:Int))
 |0,i,v,hk,hv=>by rw[eF (b:=((i:Int),(v:Int))) (by simp only[eH];rw[decide_eq_false (by omega)];rfl)];rfl
 |k+1,i,v,hk,hv=>by
  by_cases hi:i<l.length
  .have hx:l[i]?=some l[i]:=ai hi;rw[cI hi];have hp:(10:Nat)^(7-(k+1))<=10^6:=Nat.pow_le_pow_right (by decide) (by omega);by_cases hd:48<=l[i].toNat/\l[i].toNat<=57
   .have e:((7-(k+1)+1:Nat):Int)=((7-k:Nat):Int):=by omega
    refine(gf (a':=(((i+1:Nat):Int),((10*v+(l[i].toNat-48):Nat):Int),((7-k:Nat):Int))) ?_).trans ?_
    .simp only[eH];rw[decide_eq_true (by omega),decide_eq_true (by rw[eR];omega),fI,cond_true,zy hx];simp only[af];rw[decide_eq_true (by omega),cond_true,decide_eq_true (by omega)];simp only[af,cond_true];rw[rS (by omega),rS (by omega),sq (n:=10*(v:Int)) (by omega) (by omega),sq (n:=(l[i].toNat:Int)) (by omega) (by omega),sq (n:=10*(v:Int)+_) (by omega) (by omega),sq (by omega) (by omega),e];congr 4;omega
    .have hv2:10*v+(l[i].toNat-48)+1<=10^(7-k):=by
      have:(10:Nat)^(7-k)=10^(7-(k+1))*10:=by rw[<-Nat.pow_succ];congr 1;omega
      omega
     rw[u6 hl k (i+1) _ (by omega) hv2];simp only[rK];rw[if_pos hd];simp only;congr 2;omega
   .rw [eF (b:=((i:Int),(v:Int))) (by
     simp only[eH];rw[decide_eq_true (by omega),decide_eq_true (by rw[eR];omega),fI,cond_true,zy hx];simp only[af];by_cases h48:(l[i].toNat:Int)>=48
     .rw [decide_eq_true h48,cond_true,decide_eq_false (by omega)];rfl
     .rw [decide_eq_false h48];rfl)]
    simp only[rK];rw[if_neg hd];rfl
  .rw [eF (b:=((i:Int),(v:Int))) (by simp only[eH];rw[decide_eq_true (by omega),decide_eq_false (by rw[eR];omega)];rfl),dR (by omega)];rfl
def rF(r:List UInt8):Int×Nat:=match r with|c::q=>if c=45 then(-((rK 7 0 q).1:Int),(rK 7 0 q).2+1)else(((rK 7 0 (c::q)).1:Int),(rK 7 0 (c::q)).2)|[]=>(0,0)
theorem AD(q:List UInt8):rF (45::q)=(-((rK 7 0 q).1:Int),(rK 7 0 q).2+1):=rfl
theorem AC{c:UInt8}(q:List UInt8)(h:c≠45):rF (c::q)=(((rK 7 0 (c::q)).1:Int),(rK 7 0 (c::q)).2):=by show(if c=45 then _ else _)=_;rw[if_neg h]
theorem HQ:∀(r:List UInt8),(rF r).2<=8
 |[]=>by decide
 |c::q=>by
  by_cases h:c=45
  .have:=(wP 7 0 q).1;rw[h,AD];simp only;omega
  .have:=(wP 7 0 (c::q)).1;rw[AC q h];simp only;omega
theorem B0{l:List UInt8}(hl:l.length<=100000){i:Nat}(hi:i<=200000):jQ (B l) (i:Int)=some ((rF (l.drop i)).1,((i+(rF (l.drop i)).2:Nat):Int)):=by
 have key:∀(j:Nat)(sg:Int),j<=200001->(sg=1\/sg=-1)->(dP (eH (B l)) ((j:Int),(0:Int),(0:Int))).bind (fun x=>match x with|(i15,i16)=>some (wr .i64 (sg*i16),i15))=some (sg*((rK 7 0 (l.drop j)).1:Int),((j+(rK 7 0 (l.drop j)).2:Nat):Int)):=fun j sg hj hs=>by
  have h:=u6 hl 7 j 0 (by omega) (by decide);have h:dP (eH (B l)) ((j:Int),(0:Int),(0:Int))=_:=h;rw[h];have h2:=(wP 7 0 (l.drop j)).2;simp only[af];rw[sq]
  .rcases hs with rfl|rfl<;>omega
  .rcases hs with rfl|rfl<;>omega
 unfold jQ;by_cases hlt:i<l.length
 .have hx:l[i]?=some l[i]:=ai hlt;rw[decide_eq_true (by rw[eR];omega),cond_true,zy hx];simp only[af];rw[cI hlt];by_cases hc:l[i]=45
  .rw [hc,AD];simp only[show(((45:UInt8).toNat:Int)==45)=true from rfl,cond_true,af];rw[rS (by omega)];have:=key (i+1) (-1) (by omega) (.inr rfl);rw[this];congr 2
   .omega
   .omega
  .rw [AC _ hc,show((l[i].toNat:Int)==45)=false by rw[beq_eq_false_iff_ne];intro e;exact hc (UInt8.toNat_inj.1 (by rw[show(45:UInt8).toNat=45 from rfl];omega))];simp only[cond_false,af];have:=key i 1 (by omega) (.inl rfl);rw[this,<-cI hlt];simp
 .rw [decide_eq_false (by rw[eR];omega)];simp only[cond_false,af];have:=key i 1 (by omega) (.inl rfl);rw[this,dR (by omega)];simp[rF,rK]
theorem qJ{n:Int}(h0:-9999999<=n)(h1:n<=9999999){q:List UInt8}(hq:∀c,q.head?=some c->¬(48<=c.toNat/\c.toNat<=57)):rF (Lib.itoa n++q)=(n,(Lib.itoa n).length):=by
 by_cases hn:n<0
 .obtain ⟨m,rfl⟩:∃m:Nat,n=-(m:Int):=⟨n.natAbs,by omega⟩
  rw[se (by omega)];rw[aJ,AD,wQ _ 7 0 q (oZ m) (l6 6 m (by omega)) hq,Cm];rfl
 .obtain ⟨m,rfl⟩:=Int.eq_ofNat_of_zero_le (show 0<=n by omega);rw[sd];have hd:=wQ (Lib.decDigits m) 7 0 q (oZ m) (l6 6 m (by omega)) hq;have hall:=oZ m;have hne:=A6 m;rw[Cm]at hd;cases he:Lib.decDigits m with|nil=>exact absurd he hne|cons c r=>rw[he]at hd hall;have hc:=hall c (bG ..);rw[aJ,AC _ (fun e=>by rw[e]at hc;exact absurd hc.1 (by decide)),show c::(r++q)=c::r++q from rfl,hd]
theorem EN(l:List UInt8)(hl:l.length<=100000):∃x ok,lp (B l)=some (x,ok)/\Rd l x ok:=by
 have hu:=su 32 l;have htk:l.take (di 32 l).length=di 32 l:=by unfold di;exact(List.prefix_iff_eq_take.1 (List.takeWhile_prefix _)).symm
 have hlast:∀(x:S3),(∀s,gG s->f_ s=l->x=s)->∃x' ok,(((jz x).bind fun r24=>bif r24 then((gw x).bind fun r25=>some ((r25.toList==(B l).toList),x))else(some (false,x)):Option (Bool×aE)).bind fun y=>match y with|(b26,x27)=>some (x27,b26))=some (x',ok)/\Rd l x' ok:=fun x hfin=>by
  rw[lm x];simp only[af];by_cases hx:gG x
  .rw [decide_eq_true hx,cond_true,oc hx];simp only[af];rw[xk];refine⟨x,_,rfl,fun e=>⟨hx,of_decide_eq_true e⟩,fun s hs e=>?_⟩;obtain rfl:=hfin s hs e;exact⟨decide_eq_true e,rfl⟩
  .rw [decide_eq_false hx,cond_false];refine⟨x,false,rfl,fun e=>(by cases e),fun s hs e=>?_⟩;obtain rfl:=hfin s hs e;exact absurd hs hx
 have hone:∀s,gG s->f_ s=l->di 32 l=o7 s.1/\l.drop ((o7 s.1).length+1)=(bif hI s.1 then Lib.itoa s.2.1++(bif hN s.1 then 32::Lib.itoa s.2.2 else[])else(bif hN s.1 then Lib.itoa s.2.2 else[])):=fun s hs e=>by
  have hw:(32:UInt8)∉o7 s.1:=fun hc=>(xp hs.1 _ hc).1 rfl;rw[<-e];unfold f_;cases hI s.1<;>cases hN s.1
  .simp only[cond_false,aW];exact⟨BA hw,dR (by omega)⟩
  .simp only[cond_false,cond_true,aY];exact⟨pW hw,by rw[iN];simp⟩
  .simp only[cond_false,cond_true,aW];exact⟨pW hw,by rw[iN];simp⟩
  .simp only[cond_true,aJ];exact⟨pW hw,by rw[iN];simp⟩
 unfold lp;rw[EM l hl];simp only[af];rw[EP hu,htk];simp only[af];have hkd:∀s,gG s->f_ s=l->kH 11 (di 32 l)=s.1:=fun s hs e=>by rw[(hone s hs e).1];exact B_ hs.1
 rcases qQ 11 (di 32 l)with hk|hk
 .rw [show(aE.j3 ((kH 11 (di 32 l),0,0):aE)==0)=true by rw[beq_iff_eq];exact hk,cond_true];refine⟨_,false,rfl,fun e=>(by cases e),fun s hs e=>?_⟩;have h1:=hkd s hs e;have h2:=hs.1;omega
 rw[show(aE.j3 ((kH 11 (di 32 l),0,0):aE)==0)=false by rw[beq_eq_false_iff_ne];show kH 11 (di 32 l)≠0;omega,cond_false];rw[show kg (aE.j3 ((kH 11 (di 32 l),0,0):aE))=some (hI (kH 11 (di 32 l)))from rfl];simp only[af];rw[rS (by omega)];have hn1:=B0 hl (i:=(di 32 l).length+1) (by omega);have hb:=HQ (l.drop ((di 32 l).length+1))
 -- the first number of a line that is one's
 have hv:∀s,gG s->f_ s=l->hI s.1=true->rF (l.drop ((di 32 l).length+1))=(s.2.1,(Lib.itoa s.2.1).length):=fun s hs e hi=>by
  obtain⟨h1,h2⟩:=hone s hs e;obtain⟨_,h3,h4,_⟩:=hs;rw[h1,h2,hi,cond_true];refine qJ (by omega) (by omega) fun c hc=>?_;revert hc;cases hN s.1
  .intro hc;cases hc
  .intro hc;obtain rfl:=aa (show some (32:UInt8)=some c from hc);decide
 cases hi:hI (kH 11 (di 32 l))with
 |true=>
  simp only[cond_true];rw[hn1];simp only[af];rw[show jq (aE.j3 ((⟨aE.j3 ((kH 11 (di 32 l),0,0):aE),(rF (l.drop ((di 32 l).length+1))).1,aE.N ((kH 11 (di 32 l),0,0):aE)⟩:aE)))=some (hN (kH 11 (di 32 l)))from rfl];simp only[af];cases hn:hN (kH 11 (di 32 l))with
  |true=>
   simp only[cond_true];rw[rS (by omega),B0 hl (i:=(di 32 l).length+1+(rF (l.drop ((di 32 l).length+1))).2+1) (by omega)];simp only[af];refine hlast _ fun s hs e=>?_;have h1:=hkd s hs e;have h2:=hone s hs e;rw[h1]at hi hn;have h3:=hv s hs e hi;rw[h3,h1]
   have h4:rF (l.drop ((di 32 l).length+1+(Lib.itoa s.2.1).length+1))=(s.2.2,(Lib.itoa s.2.2).length):=by
    have hd:l.drop ((di 32 l).length+1+(Lib.itoa s.2.1).length+1)=Lib.itoa s.2.2++[]:=by
     rw[show(di 32 l).length+1+(Lib.itoa s.2.1).length+1=(di 32 l).length+1+((Lib.itoa s.2.1).length+1)by omega,<-List.drop_drop,h2.1,h2.2,hi,hn,cond_true,cond_true,iN]
     try simp
    rw[hd];have h5:=hs.2.2.1;exact qJ (by omega) (by omega) fun c hc=>by simp at hc
   rw[h4]
  |false=>
   simp only[cond_false,af];refine hlast _ fun s hs e=>?_;have h1:=hkd s hs e;rw[h1]at hi hn;rw[hv s hs e hi,h1];have h5:=hs.2.2.2.2;rw[hn]at h5;have h5:s.2.2=0:=by simpa using h5
   show(s.1,s.2.1,(0:Int))=s;rw[<-h5]
 |false=>
  simp only[cond_false,af];rw[show jq (aE.j3 ((kH 11 (di 32 l),0,0):aE))=some (hN (kH 11 (di 32 l)))from rfl];simp only[af];cases hn:hN (kH 11 (di 32 l))with
  |true=>
   simp only[cond_true];rw[rS (by omega),hn1];simp only[af];refine hlast _ fun s hs e=>?_;have h1:=hkd s hs e;have h2:=hone s hs e;rw[h1]at hi hn;have h4:rF (l.drop ((di 32 l).length+1))=(s.2.2,(Lib.itoa s.2.2).length):=by rw[h2.1,h2.2,hi,hn,cond_false,cond_true,<-aW (Lib.itoa s.2.2)];have h5:=hs.2.2.1;rw[qJ (by omega) (by omega) fun c hc=>by simp at hc];simp
   rw[h4,h1];have h5:=hs.2.2.2.1;rw[hi]at h5;have h5:s.2.1=0:=by simpa using h5
   show(s.1,(0:Int),s.2.2)=s;rw[<-h5]
  |false=>
   simp only[cond_false,af];refine hlast _ fun s hs e=>?_;have h1:=hkd s hs e;rw[h1]at hi hn;have h5:=hs.2.2.2;rw[hi,hn]at h5;have h6:s.2.1=0:=by simpa using h5.1
   have h7:s.2.2=0:=by simpa using h5.2
   rw[h1];show(s.1,(0:Int),(0:Int))=s;rw[<-h6];show(s.1,s.2.1,s.2.1)=s;rw[show s=(s.1,s.2.1,s.2.2)from rfl,h6,h7]
end Go.Proofs.YtbcmbckpebpijaaDoor.C
