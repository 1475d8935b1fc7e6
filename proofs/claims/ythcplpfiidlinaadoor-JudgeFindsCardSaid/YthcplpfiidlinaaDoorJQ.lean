/- JudgeClean, JudgeFinds: what is found of plans that are made. Conditions: as stated. -/
import Derived.Test.YthcplpfiidlinaaDoorJP
open Bool renaming not_false->dV,not_true->bS,or_false->mo
open Int renaming toNat_natCast->eA
open List renaming flatMap_eq_nil_iff->dG,getElem_inj->lO,length_drop->fL,length_set->dP,length_take->b_,mem_flatMap->bU,mem_range'_1->ew,nil_append->bl,range'->dU
open List.Sublist renaming refl->bM
open Nat renaming le_refl->au,zero_le->cG
open Option renaming bind_some->af
open Prod.mk renaming inj->ad
open Go.Ev Go
namespace Go.Proofs.YthcplpfiidlinaaDoor.J
theorem Hw{n:Int}(h0:0<=n)(h1:n<=1125899906842624):mM n=n:=by unfold mM;rw[if_neg (by omega:¬-1125899906842624>n),if_neg (by omega)]
theorem Hy{n:Int}(h0:0<=n)(h1:n<=1048576):sU n=n:=by unfold sU;rw[if_neg (by omega:¬0>n),if_neg (by omega)]
section
variable{t:ah}{old now:Sl (Sl Int)}{R:List aj}{s h:Nat}
structure SX(t:ah)(old now:Sl (Sl Int))(at' miss lead:Int)(p:aK):Prop where
 mv:p.i_.l=cm t old now
 rd:Ns (cm t old now) (iY t at' miss lead) (mg t miss) p.eN.l
 ms:p.AD=miss
theorem Hz(hS1:ml t old)(hS2:ml t now){at' miss lead:Int}:∃p e,kH t old now at' miss lead=some (p,e)/\(e=0->(In at' miss lead/\gy t old/\gy t now)/\SX t old now at' miss lead p):=by
 by_cases hc:In at' miss lead/\gy t old/\gy t now
 .obtain ⟨p,e,h1,h2⟩:=Jc hc.2.1 hc.2.2 hc.1;refine⟨p,e,h1,fun he=>⟨hc,?_⟩⟩;by_cases hz:cm t old now=[]
  .have:=(h2.none hz).2;omega
  .obtain ⟨s,R,g1,g2,_,g4⟩:=h2.Qj hz;rcases g4 with⟨_,_,g5⟩|⟨_,g5,_⟩
   .omega
   .rw [g5];exact⟨g1,g2,rfl⟩
 .exact ⟨tR,2,Lt hS1 hS2 hc,fun he=>absurd he (by decide)⟩
theorem Fd(hN:gy t now){ms:List ae}(hms:∀m∈ms,m∈cm t old now)(hR:AC ms R):∀r∈R,r.2.2.l.length<=8:=by intro r hr;obtain⟨i,hi,rfl⟩:=F5 hr;have h1:=hR.RL i hi;refine CA h1.Nq fun x hx=>?_;obtain⟨m,hm,_,rfl⟩:=(h1.A6 x).1 hx;obtain⟨h,s,a,b,_,rfl⟩:=uO.1 (hms m hm);have:=hN.1.sM;show 0<=(s:Int)/\(s:Int)<8;omega
theorem vK(hV:lw t){at' miss lead:Int}(hI:In at' miss lead)(hR:Ns (cm t old now) (iY t at' miss lead) (mg t miss) R)(hl:R.length<=8){j:Nat}(h1:1<=j)(hj:j<R.length):oc (mg t miss) R j=false:=by
 unfold oc;have a:=hR.P7 j hj;have b:=hR.P7 (j-1) (by omega);have t1:=xM hV hI (show j<=8 by omega);have t2:=xM hV hI (show j-1<=8 by omega);rw[a,b,Hw t1.1 (by omega),Hw t2.1 (by omega),decide_eq_false_iff_not]
 have e:(j:Int)*mg t miss=((j-1:Nat):Int)*mg t miss+mg t miss:=by
  have:(j:Int)=((j-1:Nat):Int)+1:=by omega
  rw[this,Int.add_mul,Int.one_mul]
 omega
theorem zG{p:aK}(hO:gy t old)(hN:gy t now)(hm:p.i_.l.length<=64)(hR:p.eN.l.length<=8)(hw:∀r∈p.eN.l,r.2.2.l.length<=8)(hS1:ml t old)(hS2:ml t now):∃s,fB t old now p=some s/\s.l=zH t old now p:=by obtain⟨s,e1,e2⟩:=JR (t:=t) (old:=old) (now:=now) (p:=p) hS1 hS2 (by omega) (by omega) (fun r hr=>by have:=hw r hr;omega);rw[BL ⟨hO,hN⟩,cond_true]at e2;exact⟨s,e1,e2⟩
theorem RQ(t:ah)(old now:Sl (Sl Int))(at' miss lead:Int)(ho:old.l.length<9223372036854775808)(hn:now.l.length<9223372036854775808):nT t old now at' miss lead=some true:=by
 unfold nT;rw[rt ho];by_cases hS1:ml t old
 rotate_left
 .rw [decide_eq_false hS1];simp only[af,dV,cond_true,dN]
 rw[decide_eq_true hS1,rt hn];by_cases hS2:ml t now
 rotate_left
 .rw [decide_eq_false hS2];simp only[af,dV,bS,cond_false,cond_true,dN]
 rw[decide_eq_true hS2];simp only[af,bS,cond_false];obtain⟨p,e,m1,m2⟩:=Hz hS1 hS2 (at':=at') (miss:=miss) (lead:=lead);rw[m1];simp only[af];by_cases he:e=0
 rotate_left
 .rw [bne_iff_ne.2 he];simp only[cond_true,dN,af]
 obtain⟨⟨hI,hO,hN⟩,hM⟩:=m2 he;rw[he];have hl:=hM.rd.len hN;obtain⟨a,a1,a2⟩:=zG (p:=p) hO hN (by rw[hM.mv];exact B5 hN) hl (Fd hN (fun _ h=>h) hM.rd.w) hS1 hS2
 have hz:a.l=[]:=by
  rw[a2];unfold zH;have hI2:=hI;unfold In at hI2;rw[hM.mv,hM.ms,A4 hM.rd.w (fun s hs=>hN.1.dl hs),zt hM.rd.w hN.1.len,w_ hM.rd.w hO hN,Hy hI2.2.1.1 hI2.2.1.2];have:rS (2*miss+iA t+1) p.eN.l 1 (p.eN.l.length-1)=[]:=dG.2 fun j hj=>by rw[ew]at hj;have:=vK hO.1.sJ hI hM.rd hl (j:=j) (by omega) (by omega);have:oc (2*miss+iA t+1) p.eN.l j=false:=this;rw[this];rfl
  rw[this];rfl
 have hz2:((a.l.length:Int)==0)=true:=by rw[hz];rfl
 simp only[bne_self_eq_false,cond_false,a1,af,hz2,cond_true,dN]
theorem K8{α:Type}{P:Nat->Bool}{f:Nat->α}{k:Nat}:∀(n a:Nat),a<=k->k<a+n->(∀j,a<=j->j<a+n->P j=decide (j=k))->((dU a n).flatMap fun j=>bif P j then[f j]else[])=[f k]:=by
 intro n;induction n with
 |zero=>intro a h1 h2 _;omega
 |succ n ih=>
  intro a h1 h2 hP;rw[List.range'_succ,List.flatMap_cons,hP a (au _) (by omega)];by_cases e:a=k
  .subst e;rw[decide_eq_true rfl,cond_true];have:((dU (a+1) n).flatMap fun j=>bif P j then[f j]else[])=[]:=dG.2 fun j hj=>by rw[ew]at hj;rw[hP j (by omega) (by omega),decide_eq_false (by omega)];rfl
   rw[this];rfl
  .rw [decide_eq_false e,cond_false,bl];exact ih (a+1) (by omega) (by omega) fun j h3 h4=>hP j (by omega) (by omega)
theorem z7{α:Type}[Inhabited α]{l:List α}{k:Nat}{x:α}(hx:x∈l)(hne:x≠gt l k):x∈l.take k++l.drop (k+1):=by
 obtain⟨i,hi,rfl⟩:=F5 hx;by_cases h:i<k
 .exact List.mem_append_left _ (C0 h hi)
 .have h2:i≠k:=fun e=>hne (by rw[e]);refine List.mem_append_right _ ?_;rw[cR hi,List.mem_drop_iff_getElem];exact⟨i-(k+1),by omega,by congr 1;omega⟩
theorem D3{α:Type}{l:List α}{k:Nat}:(l.take k++l.drop (k+1)).Sublist l:=by
 have h:=List.take_append_drop k l;have h2:(l.drop (k+1)).Sublist (l.drop k):=by rw[<-List.drop_drop];exact List.drop_sublist _ _
 exact((bM _).append h2).trans (by rw[h];exact bM _)
theorem LB{α:Type}[Inhabited α]{l:List α}{k:Nat}(hnd:l.Nodup)(hk:k<l.length):gt l k∉l.take k++l.drop (k+1):=by
 intro h;rcases List.mem_append.1 h with h|h
 .obtain ⟨i,hik,hi,e⟩:=DW h;rw[cR hi,cR hk]at e;have:=(lO hnd).1 e;omega
 .rw [List.mem_drop_iff_getElem]at h;obtain⟨i,hi,e⟩:=h;rw[cR hk]at e;have:=(lO hnd).1 e;omega
theorem HU{α:Type}{l:List α}{i j:Nat}(h1:i<=j)(h2:j<=l.length):qE l (i:Int) (j:Int)=some ((l.drop i).take (j-i)):=n_.2 ⟨⟨by omega,by omega,by omega⟩,by rw[eA,eA]⟩
theorem Jf(hR:AC (cm t old now) R)(r2:∀s,s<now.l.length->(gt now.l s).l.length=t.bf.l.length){k:Nat}(hk:k<(cm t old now).length):
  xh old now ((cm t old now).take k++(cm t old now).drop (k+1)) R 0 now.l.length≠[]/\∀x∈xh old now ((cm t old now).take k++(cm t old now).drop (k+1)) R 0 now.l.length,x=((2,(gt (cm t old now) k).1,(gt (cm t old now) k).2.1):am):=by
 have hm:gt (cm t old now) k∈cm t old now:=Cy hk;have hnot:=LB yS hk;obtain⟨h0,s0,a,b,c,e⟩:=uO.1 hm;have hsub:∀x∈(cm t old now).take k++(cm t old now).drop (k+1),x∈cm t old now:=fun x hx=>D3.subset hx;have hnd:((cm t old now).take k++(cm t old now).drop (k+1)).Nodup:=D3.nodup yS;have hin:∀x,x∈cm t old now->x≠gt (cm t old now) k->x∈(cm t old now).take k++(cm t old now).drop (k+1):=fun x hx hne=>z7 hx hne;rw[e]at hnot hin|-;generalize(cm t old now).take k++(cm t old now).drop (k+1)=l at hsub hnd hin hnot|-;constructor
 .have hB:sd old now l R s0 h0=true:=by
   unfold sd;have e1:(gt (gt now.l s0).l h0 !=gt (gt old.l s0).l h0)=true:=bne_iff_ne.2 c;have e2:pN R (s0:Int) (h0:Int) (gt (gt now.l s0).l h0) l=0:=MO fun x hx=>by cases hq:Gl R (s0:Int) (h0:Int) (gt (gt now.l s0).l h0) x with|false=>rfl|true=>exact absurd ((Eb hR (hsub x hx)).1 hq▸hx) hnot
   rw[e1,e2];rfl
  intro hz;have h1:=dG.1 hz s0 (ew.2 ⟨cG _,by omega⟩);have h2:=dG.1 h1 h0 (ew.2 ⟨cG _,by rw[r2 s0 b];omega⟩);rw[hB]at h2;cases h2
 .intro x hx;obtain⟨s,hs,hx⟩:=bU.1 hx;obtain⟨h,hh,hx⟩:=bU.1 hx;rw[ew]at hs hh;have hsl:s<now.l.length:=by omega
  have hhl:h<t.bf.l.length:=by rw[<-r2 s hsl];omega
  cases hB:sd old now l R s h with
  |false=>rw[hB]at hx;cases hx
  |true=>
   rw[hB]at hx;have hx:x=((2,(s:Int),(h:Int)):am):=List.mem_singleton.1 hx;by_cases hse:s=s0/\h=h0
   .rw [hx,hse.1,hse.2]
   .exfalso;rw[Hx hR hsl hhl hsub hnd fun hne=>hin _ (uO.2 ⟨h,s,hhl,hsl,hne,rfl⟩) fun q=>by obtain⟨q1,q2⟩:=ad q;obtain⟨q2,_⟩:=ad q2;exact hse ⟨by omega,by omega⟩]at hB;cases hB
theorem Mn{α:Type}[Inhabited α]{a b:List α}{x:α}(h1:a≠[])(h2:∀y∈a,y=x):0<(a++b).length/\gt (a++b) 0=x:=by cases a with|nil=>exact absurd rfl h1|cons y a=>exact⟨by simp,h2 y List.mem_cons_self⟩
theorem R6(hR:AC (cm t old now) R){k:Nat}(hk:k<R.length){a:Int}:AC (cm t old now) (R.set k ((gt R k).1,a,(gt R k).2.2)):=by
 have e:(R.set k ((gt R k).1,a,(gt R k).2.2)).map (fun x=>x.1)=R.map fun x=>x.1:=by
  rw[List.map_set];refine List.ext_getElem (by simp) fun i h1 h2=>?_;rw[List.getElem_set];split
  .rename_i hi;subst hi;rw[List.getElem_map,cR hk]
  .rfl
 refine⟨by rw[e];exact hR.Nq,by rw[e];exact hR.A6,fun i hi=>?_⟩;rw[dP]at hi;rw[jS];split
 .exact hR.RL k hk
 .exact hR.RL i hi
theorem H3{α:Type}{l:List α}:(kR (Sl.nil:Sl α) l l).l=l:=by have:=PN (s:=(Sl.nil:Sl α)) (l:=l);rwa[Sl.LG,bl]at this
theorem Jr(t:ah)(old now:Sl (Sl Int))(at' miss lead k:Int)(ho:old.l.length<9223372036854775808)(hn:now.l.length<9223372036854775808):nR t old now at' miss lead k=some true:=by
 unfold nR;rw[rt ho];by_cases hS1:ml t old
 rotate_left
 .rw [decide_eq_false hS1];simp only[af,dV,cond_true,dN]
 rw[decide_eq_true hS1,rt hn];by_cases hS2:ml t now
 rotate_left
 .rw [decide_eq_false hS2];simp only[af,dV,bS,cond_false,cond_true,dN]
 rw[decide_eq_true hS2];simp only[af,bS,cond_false];obtain⟨p,e,m1,m2⟩:=Hz hS1 hS2 (at':=at') (miss:=miss) (lead:=lead);rw[m1];simp only[af];by_cases he:e=0
 rotate_left
 .rw [bne_iff_ne.2 he];simp only[Bool.true_or,cond_true,dN,af]
 obtain⟨⟨hI,hO,hN⟩,hM⟩:=m2 he;rw[he];obtain⟨M,Rd,ms',life,fr,to_⟩:=p;have hMv:M.l=cm t old now:=hM.mv;have hRd:Ns (cm t old now) (iY t at' miss lead) (mg t miss) Rd.l:=hM.rd;have hms:ms'=miss:=hM.ms;subst hms;have hI2:=hI;unfold In at hI2;have hV:=hO.1.sJ;have hmid:=Hy hI2.2.1.1 hI2.2.1.2;have z0:((0:Int) !=0)=false:=rfl;by_cases c1:k<0
 .simp only[decide_eq_true c1,Bool.or_true,Bool.true_or,cond_true,dN,af]
 by_cases c2:k>=(M.l.length:Int)
 .simp only[decide_eq_true c2,Bool.or_true,cond_true,dN,af]
 simp only[z0,decide_eq_false c1,decide_eq_false c2,mo,cond_false];obtain⟨k,rfl⟩:∃n:Nat,k=(n:Int):=⟨k.toNat,by omega⟩
 have hml:=B5 (old:=old) hN;have hRl:=hRd.len hN;have hk:k<(cm t old now).length:=by rw[<-hMv];omega
 cases M with
 |nil=>exact absurd hk (by rw[<-hMv];simp)
 |mk l=>
 have hMv:l=cm t old now:=hMv;subst hMv;have q1:qE (cm t old now) 0 (k:Int)=some ((cm t old now).take k):=HU (i:=0) (cG _) (by omega);have q2:iI ([]++(cm t old now).take k)=some ((cm t old now).take k):=il (by rw[bl,b_];omega);have q3:wr .i64 ((k:Int)+1)=((k+1:Nat):Int):=k_ (by omega);have q4:qE (cm t old now) ((k+1:Nat):Int) ((cm t old now).length:Int)=some ((cm t old now).drop (k+1)):=by rw[HU (by omega) (au _),List.take_of_length_le (by rw[fL];omega)]
 have q5:(kR (Sl.nil:Sl ae) ((cm t old now).take k) ((cm t old now).take k)).l=(cm t old now).take k:=H3;have hlen:((cm t old now).take k++(cm t old now).drop (k+1)).length<=64:=by rw[List.length_append,b_,fL];omega
 have q6:iI ((cm t old now).take k++(cm t old now).drop (k+1))=some ((cm t old now).take k++(cm t old now).drop (k+1)):=il (by omega);have q7:(kR (kR (Sl.nil:Sl ae) ((cm t old now).take k) ((cm t old now).take k)) ((cm t old now).drop (k+1)) ((cm t old now).take k++(cm t old now).drop (k+1))).l=(cm t old now).take k++(cm t old now).drop (k+1):=by have:=PN (s:=kR (Sl.nil:Sl ae) ((cm t old now).take k) ((cm t old now).take k)) (l:=(cm t old now).drop (k+1));rwa[q5]at this
 have hw:=Fd hN (fun _ h=>h) hRd.w;obtain⟨a,a1,a2⟩:=zG (p:=(kR (kR (Sl.nil:Sl ae) ((cm t old now).take k) ((cm t old now).take k)) ((cm t old now).drop (k+1)) ((cm t old now).take k++(cm t old now).drop (k+1)),Rd,ms',life,fr,to_)) hO hN (by show(kR _ _ _).l.length<=64;rw[q7];exact hlen) hRl hw hS1 hS2;obtain⟨f1,f2⟩:=Jf hRd.w (fun s hs=>hN.1.dl hs) hk;have ha:0<a.l.length/\gt a.l 0=((2,(gt (cm t old now) k).1,(gt (cm t old now) k).2.1):am):=by rw[a2];unfold zH;rw[show(aK.i_ (kR (kR (Sl.nil:Sl ae) ((cm t old now).take k) ((cm t old now).take k)) ((cm t old now).drop (k+1)) ((cm t old now).take k++(cm t old now).drop (k+1)),Rd,ms',life,fr,to_)).l=_ from q7];exact Mn f1 f2
 have z1:((a.l.length:Int)==0)=false:=beq_false_of_ne (by omega);have i0:fk 0 a.l.length=some 0:=bq (i:=0) ha.1;have z2:gt a.l 0=((2,ae.Sw (gt (cm t old now) k),ae.mI (gt (cm t old now) k)):am):=ha.2;have a1':fB t old now (kR (kR (Sl.nil:Sl ae) ((cm t old now).take k) ((cm t old now).take k)) ((cm t old now).drop (k+1)) ((cm t old now).take k++(cm t old now).drop (k+1)),Rd,ms',life,fr,to_)=some a:=a1;simp only[aK.i_,aK.eN,aK.AD,aK.G1,aK.pT,aK.To,Sl.iP,Sl.to];simp only[q1,q2,q3,q4,q5,q6,af,a1',z1,cond_false,i0,bq hk];simp only[z2,decide_true,bS,cond_false,af];by_cases c3:(k:Int)=0
 .rw [c3];simp only[beq_self_eq_true,Bool.true_or,cond_true,dN,af]
 by_cases c4:(k:Int)>=(Rd.l.length:Int)
 .simp only[decide_eq_true c4,Bool.or_true,cond_true,dN,af]
 have c5:((k:Int)==0)=false:=beq_false_of_ne c3;have hkR:k<Rd.l.length:=by omega
 have u1:iI ([]++Rd.l)=some Rd.l:=il (by rw[bl];omega);have u2:(kR (Sl.nil:Sl aj) Rd.l Rd.l).l=Rd.l:=H3;have u3:wr .i64 ((k:Int)-1)=((k-1:Nat):Int):=by rw[ii (by omega) (by omega)];omega
 have hR2:=R6 (old:=old) hRd.w hkR (a:=(gt Rd.l (k-1)).2.1);have hw2:=Fd hN (fun _ h=>h) hR2;obtain⟨b,b1,b2⟩:=zG (p:=(Sl.mk (cm t old now),Sl.mk (Rd.l.set k ((gt Rd.l k).1,(gt Rd.l (k-1)).2.1,(gt Rd.l k).2.2)),ms',life,fr,to_)) hO hN hml (by show(Rd.l.set _ _).length<=8;rw[dP];exact hRl) hw2 hS1 hS2
 have hc:rS (2*ms'+iA t+1) (Rd.l.set k ((gt Rd.l k).1,(gt Rd.l (k-1)).2.1,(gt Rd.l k).2.2)) 1 (Rd.l.length-1)=[((4,(k:Int),0):am)]:=by
  refine K8 (f:=fun j:Nat=>((4,(j:Int),0):am)) _ _ (by omega) (by omega) fun j j1 j2=>?_;have hjR:j<Rd.l.length:=by omega
  unfold oc;have hg:=Gp hV hI;have hgl:=hg.1;unfold mg at hgl;by_cases e:j=k
  .rw [e,decide_eq_true rfl,decide_eq_true_eq,jS,if_pos ⟨rfl,hkR⟩,jS,if_neg (by omega)];show mM (gt Rd.l (k-1)).2.1-mM (gt Rd.l (k-1)).2.1<_;omega
  .rw [decide_eq_false e,decide_eq_false_iff_not,jS,if_neg (by omega)];by_cases e2:j-1=k
   .rw [jS,if_pos ⟨e2.symm,by omega⟩];have x1:=vK hV hI hRd hRl j1 hjR;have x2:=vK hV hI hRd hRl (j:=k) (by omega) hkR;unfold oc mg at x1 x2;rw[decide_eq_false_iff_not]at x1 x2;rw[e2]at x1;show¬mM (gt Rd.l j).2.1-mM (gt Rd.l (k-1)).2.1<_;omega
   .rw [jS,if_neg (by omega)];have x1:=vK hV hI hRd hRl j1 hjR;unfold oc mg at x1;rwa[decide_eq_false_iff_not]at x1
 have hb:b.l=[((4,(k:Int),0):am)]:=by rw[b2];unfold zH;simp only[aK.i_,aK.eN,aK.AD,Sl.iP];have hrn:=w_ hR2 hO hN;rw[dP]at hrn|-;rw[A4 hR2 (fun s hs=>hN.1.dl hs),zt hR2 hN.1.len,hmid,hc,hrn];rfl
 have b1':fB t old now (Sl.mk (cm t old now),Sl.mk (Rd.l.set k (aj.No (gt Rd.l k),aj.At (gt Rd.l (k-1)),aj.RW (gt Rd.l k))),ms',life,fr,to_)=some b:=b1;have y1:((b.l.length:Int)==1)=true:=by rw[hb];rfl
 have y2:fk 0 b.l.length=some 0:=bq (i:=0) (by rw[hb];simp);have y3:gt b.l 0=((4,(k:Int),0):am):=by rw[hb];rfl
 simp only[c5,decide_eq_false c4,mo,cond_false,u1,u2,u3,bq (show k-1<Rd.l.length by omega),bq hkR,af,b1',y1,y2,cond_true];simp only[y3,decide_true,cond_true,dN,af]
end
end Go.Proofs.YthcplpfiidlinaaDoor.J
