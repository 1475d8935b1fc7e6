/- JudgeClean, JudgeFinds: what is found of plans that are made. Conditions: as stated. -/
import Derived.Test.YthcplpfiidlinaaDoorJP
open Go.Ev Go
open Bool renaming not_false->dQ,not_true->bS,or_false->mj
open Int renaming toNat_natCast->ei
open List renaming flatMap_eq_nil_iff->dD,getElem_inj->lL,length_drop->fI,length_set->dL,length_take->b_,mem_flatMap->bU,mem_range'_1->eg,nil_append->bk,range'->dP
open List.Sublist renaming refl->bL
open Nat renaming le_refl->au,zero_le->cG
open Option renaming bind_some->af
open Prod.mk renaming inj->ad
namespace Go.Proofs.YthcplpfiidlinaaDoor.J
theorem Hk{n:Int}(h0:0<=n)(h1:n<=1125899906842624):mG n=n:=by unfold mG;rw[if_neg (by omega:¬-1125899906842624>n),if_neg (by omega)]
theorem Hm{n:Int}(h0:0<=n)(h1:n<=1048576):sM n=n:=by unfold sM;rw[if_neg (by omega:¬0>n),if_neg (by omega)]
section
variable{t:ah}{old now:Sl (Sl Int)}{R:List aj}{s h:Nat}
structure SK(t:ah)(old now:Sl (Sl Int))(at' miss lead:Int)(p:aJ):Prop where
 mv:p.iZ.l=cm t old now
 rd:Nj (cm t old now) (iY t at' miss lead) (ma t miss) p.eI.l
 ms:p.Av=miss
theorem Hn(hS1:mg t old)(hS2:mg t now){at' miss lead:Int}:∃p e,kE t old now at' miss lead=some (p,e)/\(e=0->(In at' miss lead/\gx t old/\gx t now)/\SK t old now at' miss lead p):=by
 by_cases hc:In at' miss lead/\gx t old/\gx t now
 .obtain ⟨p,e,h1,h2⟩:=I3 hc.2.1 hc.2.2 hc.1;refine⟨p,e,h1,fun he=>⟨hc,?_⟩⟩;by_cases hz:cm t old now=[]
  .have:=(h2.none hz).2;omega
  .obtain ⟨s,R,g1,g2,_,g4⟩:=h2.P8 hz;rcases g4 with⟨_,_,g5⟩|⟨_,g5,_⟩
   .omega
   .rw [g5];exact⟨g1,g2,rfl⟩
 .exact ⟨tH,2,Lj hS1 hS2 hc,fun he=>absurd he (by decide)⟩
theorem EZ(hN:gx t now){ms:List ae}(hms:∀m∈ms,m∈cm t old now)(hR:Au ms R):∀r∈R,r.2.2.l.length<=8:=by intro r hr;obtain⟨i,hi,rfl⟩:=FR hr;have h1:=hR.Rv i hi;refine Cp h1.Nh fun x hx=>?_;obtain⟨m,hm,_,rfl⟩:=(h1.AX x).1 hx;obtain⟨h,s,a,b,_,rfl⟩:=uE.1 (hms m hm);have:=hN.1.sC;show 0<=(s:Int)/\(s:Int)<8;omega
theorem vB(hV:lr t){at' miss lead:Int}(hI:In at' miss lead)(hR:Nj (cm t old now) (iY t at' miss lead) (ma t miss) R)(hl:R.length<=8){j:Nat}(h1:1<=j)(hj:j<R.length):nY (ma t miss) R j=false:=by
 unfold nY;have a:=hR.PV j hj;have b:=hR.PV (j-1) (by omega);have t1:=xD hV hI (show j<=8 by omega);have t2:=xD hV hI (show j-1<=8 by omega);rw[a,b,Hk t1.1 (by omega),Hk t2.1 (by omega),decide_eq_false_iff_not]
 have e:(j:Int)*ma t miss=((j-1:Nat):Int)*ma t miss+ma t miss:=by
  have:(j:Int)=((j-1:Nat):Int)+1:=by omega
  rw[this,Int.add_mul,Int.one_mul]
 omega
theorem zu{p:aJ}(hO:gx t old)(hN:gx t now)(hm:p.iZ.l.length<=64)(hR:p.eI.l.length<=8)(hw:∀r∈p.eI.l,r.2.2.l.length<=8)(hS1:mg t old)(hS2:mg t now):∃s,fx t old now p=some s/\s.l=zw t old now p:=by obtain⟨s,e1,e2⟩:=JF (t:=t) (old:=old) (now:=now) (p:=p) hS1 hS2 (by omega) (by omega) (fun r hr=>by have:=hw r hr;omega);rw[BC ⟨hO,hN⟩,cond_true]at e2;exact⟨s,e1,e2⟩
theorem Rz(t:ah)(old now:Sl (Sl Int))(at' miss lead:Int)(ho:old.l.length<9223372036854775808)(hn:now.l.length<9223372036854775808):nO t old now at' miss lead=some true:=by
 unfold nO;rw[rh ho];by_cases hS1:mg t old
 rotate_left
 .rw [decide_eq_false hS1];simp only[af,dQ,cond_true,dJ]
 rw[decide_eq_true hS1,rh hn];by_cases hS2:mg t now
 rotate_left
 .rw [decide_eq_false hS2];simp only[af,dQ,bS,cond_false,cond_true,dJ]
 rw[decide_eq_true hS2];simp only[af,bS,cond_false];obtain⟨p,e,m1,m2⟩:=Hn hS1 hS2 (at':=at') (miss:=miss) (lead:=lead);rw[m1];simp only[af];by_cases he:e=0
 rotate_left
 .rw [bne_iff_ne.2 he];simp only[cond_true,dJ,af]
 obtain⟨⟨hI,hO,hN⟩,hM⟩:=m2 he;rw[he];have hl:=hM.rd.len hN;obtain⟨a,a1,a2⟩:=zu (p:=p) hO hN (by rw[hM.mv];exact BX hN) hl (EZ hN (fun _ h=>h) hM.rd.w) hS1 hS2
 have hz:a.l=[]:=by
  rw[a2];unfold zw;have hI2:=hI;unfold In at hI2;rw[hM.mv,hM.ms,AV hM.rd.w (fun s hs=>hN.1.dj hs),zh hM.rd.w hN.1.len,wX hM.rd.w hO hN,Hm hI2.2.1.1 hI2.2.1.2];have:rJ (2*miss+iw t+1) p.eI.l 1 (p.eI.l.length-1)=[]:=dD.2 fun j hj=>by rw[eg]at hj;have:=vB hO.1.sy hI hM.rd hl (j:=j) (by omega) (by omega);have:nY (2*miss+iw t+1) p.eI.l j=false:=this;rw[this];rfl
  rw[this];rfl
 have hz2:((a.l.length:Int)==0)=true:=by rw[hz];rfl
 simp only[bne_self_eq_false,cond_false,a1,af,hz2,cond_true,dJ]
theorem KX{α:Type}{P:Nat->Bool}{f:Nat->α}{k:Nat}:∀(n a:Nat),a<=k->k<a+n->(∀j,a<=j->j<a+n->P j=decide (j=k))->((dP a n).flatMap fun j=>bif P j then[f j]else[])=[f k]:=by
 intro n;induction n with
 |zero=>intro a h1 h2 _;omega
 |succ n ih=>
  intro a h1 h2 hP;rw[List.range'_succ,List.flatMap_cons,hP a (au _) (by omega)];by_cases e:a=k
  .subst e;rw[decide_eq_true rfl,cond_true];have:((dP (a+1) n).flatMap fun j=>bif P j then[f j]else[])=[]:=dD.2 fun j hj=>by rw[eg]at hj;rw[hP j (by omega) (by omega),decide_eq_false (by omega)];rfl
   rw[this];rfl
  .rw [decide_eq_false e,cond_false,bk];exact ih (a+1) (by omega) (by omega) fun j h3 h4=>hP j (by omega) (by omega)
theorem zS{α:Type}[Inhabited α]{l:List α}{k:Nat}{x:α}(hx:x∈l)(hne:x≠gt l k):x∈l.take k++l.drop (k+1):=by
 obtain⟨i,hi,rfl⟩:=FR hx;by_cases h:i<k
 .exact List.mem_append_left _ (CL h hi)
 .have h2:i≠k:=fun e=>hne (by rw[e]);refine List.mem_append_right _ ?_;rw[cR hi,List.mem_drop_iff_getElem];exact⟨i-(k+1),by omega,by congr 1;omega⟩
theorem DP{α:Type}{l:List α}{k:Nat}:(l.take k++l.drop (k+1)).Sublist l:=by
 have h:=List.take_append_drop k l;have h2:(l.drop (k+1)).Sublist (l.drop k):=by rw[<-List.drop_drop];exact List.drop_sublist _ _
 exact((bL _).append h2).trans (by rw[h];exact bL _)
theorem Lr{α:Type}[Inhabited α]{l:List α}{k:Nat}(hnd:l.Nodup)(hk:k<l.length):gt l k∉l.take k++l.drop (k+1):=by
 intro h;rcases List.mem_append.1 h with h|h
 .obtain ⟨i,hik,hi,e⟩:=DI h;rw[cR hi,cR hk]at e;have:=(lL hnd).1 e;omega
 .rw [List.mem_drop_iff_getElem]at h;obtain⟨i,hi,e⟩:=h;rw[cR hk]at e;have:=(lL hnd).1 e;omega
theorem HJ{α:Type}{l:List α}{i j:Nat}(h1:i<=j)(h2:j<=l.length):qu l (i:Int) (j:Int)=some ((l.drop i).take (j-i)):=nX.2 ⟨⟨by omega,by omega,by omega⟩,by rw[ei,ei]⟩
theorem I6(hR:Au (cm t old now) R)(r2:∀s,s<now.l.length->(gt now.l s).l.length=t.bd.l.length){k:Nat}(hk:k<(cm t old now).length):
  w8 old now ((cm t old now).take k++(cm t old now).drop (k+1)) R 0 now.l.length≠[]/\∀x∈w8 old now ((cm t old now).take k++(cm t old now).drop (k+1)) R 0 now.l.length,x=((2,(gt (cm t old now) k).1,(gt (cm t old now) k).2.1):am):=by
 have hm:gt (cm t old now) k∈cm t old now:=Cn hk;have hnot:=Lr yH hk;obtain⟨h0,s0,a,b,c,e⟩:=uE.1 hm;have hsub:∀x∈(cm t old now).take k++(cm t old now).drop (k+1),x∈cm t old now:=fun x hx=>DP.subset hx;have hnd:((cm t old now).take k++(cm t old now).drop (k+1)).Nodup:=DP.nodup yH;have hin:∀x,x∈cm t old now->x≠gt (cm t old now) k->x∈(cm t old now).take k++(cm t old now).drop (k+1):=fun x hx hne=>zS hx hne;rw[e]at hnot hin|-;generalize(cm t old now).take k++(cm t old now).drop (k+1)=l at hsub hnd hin hnot|-;constructor
 .have hB:rS old now l R s0 h0=true:=by
   unfold rS;have e1:(gt (gt now.l s0).l h0 !=gt (gt old.l s0).l h0)=true:=bne_iff_ne.2 c;have e2:pH R (s0:Int) (h0:Int) (gt (gt now.l s0).l h0) l=0:=MF fun x hx=>by cases hq:F9 R (s0:Int) (h0:Int) (gt (gt now.l s0).l h0) x with|false=>rfl|true=>exact absurd ((DY hR (hsub x hx)).1 hq▸hx) hnot
   rw[e1,e2];rfl
  intro hz;have h1:=dD.1 hz s0 (eg.2 ⟨cG _,by omega⟩);have h2:=dD.1 h1 h0 (eg.2 ⟨cG _,by rw[r2 s0 b];omega⟩);rw[hB]at h2;cases h2
 .intro x hx;obtain⟨s,hs,hx⟩:=bU.1 hx;obtain⟨h,hh,hx⟩:=bU.1 hx;rw[eg]at hs hh;have hsl:s<now.l.length:=by omega
  have hhl:h<t.bd.l.length:=by rw[<-r2 s hsl];omega
  cases hB:rS old now l R s h with
  |false=>rw[hB]at hx;cases hx
  |true=>
   rw[hB]at hx;have hx:x=((2,(s:Int),(h:Int)):am):=List.mem_singleton.1 hx;by_cases hse:s=s0/\h=h0
   .rw [hx,hse.1,hse.2]
   .exfalso;rw[Hl hR hsl hhl hsub hnd fun hne=>hin _ (uE.2 ⟨h,s,hhl,hsl,hne,rfl⟩) fun q=>by obtain⟨q1,q2⟩:=ad q;obtain⟨q2,_⟩:=ad q2;exact hse ⟨by omega,by omega⟩]at hB;cases hB
theorem Md{α:Type}[Inhabited α]{a b:List α}{x:α}(h1:a≠[])(h2:∀y∈a,y=x):0<(a++b).length/\gt (a++b) 0=x:=by cases a with|nil=>exact absurd rfl h1|cons y a=>exact⟨by simp,h2 y List.mem_cons_self⟩
theorem RQ(hR:Au (cm t old now) R){k:Nat}(hk:k<R.length){a:Int}:Au (cm t old now) (R.set k ((gt R k).1,a,(gt R k).2.2)):=by
 have e:(R.set k ((gt R k).1,a,(gt R k).2.2)).map (fun x=>x.1)=R.map fun x=>x.1:=by
  rw[List.map_set];refine List.ext_getElem (by simp) fun i h1 h2=>?_;rw[List.getElem_set];split
  .rename_i hi;subst hi;rw[List.getElem_map,cR hk]
  .rfl
 refine⟨by rw[e];exact hR.Nh,by rw[e];exact hR.AX,fun i hi=>?_⟩;rw[dL]at hi;rw[jP];split
 .exact hR.Rv k hk
 .exact hR.Rv i hi
theorem HP{α:Type}{l:List α}:(kO (Sl.nil:Sl α) l l).l=l:=by have:=PB (s:=(Sl.nil:Sl α)) (l:=l);rwa[Sl.Lv,bk]at this
theorem Jg(t:ah)(old now:Sl (Sl Int))(at' miss lead k:Int)(ho:old.l.length<9223372036854775808)(hn:now.l.length<9223372036854775808):nN t old now at' miss lead k=some true:=by
 unfold nN;rw[rh ho];by_cases hS1:mg t old
 rotate_left
 .rw [decide_eq_false hS1];simp only[af,dQ,cond_true,dJ]
 rw[decide_eq_true hS1,rh hn];by_cases hS2:mg t now
 rotate_left
 .rw [decide_eq_false hS2];simp only[af,dQ,bS,cond_false,cond_true,dJ]
 rw[decide_eq_true hS2];simp only[af,bS,cond_false];obtain⟨p,e,m1,m2⟩:=Hn hS1 hS2 (at':=at') (miss:=miss) (lead:=lead);rw[m1];simp only[af];by_cases he:e=0
 rotate_left
 .rw [bne_iff_ne.2 he];simp only[Bool.true_or,cond_true,dJ,af]
 obtain⟨⟨hI,hO,hN⟩,hM⟩:=m2 he;rw[he];obtain⟨M,Rd,ms',life,fr,to_⟩:=p;have hMv:M.l=cm t old now:=hM.mv;have hRd:Nj (cm t old now) (iY t at' miss lead) (ma t miss) Rd.l:=hM.rd;have hms:ms'=miss:=hM.ms;subst hms;have hI2:=hI;unfold In at hI2;have hV:=hO.1.sy;have hmid:=Hm hI2.2.1.1 hI2.2.1.2;have z0:((0:Int) !=0)=false:=rfl;by_cases c1:k<0
 .simp only[decide_eq_true c1,Bool.or_true,Bool.true_or,cond_true,dJ,af]
 by_cases c2:k>=(M.l.length:Int)
 .simp only[decide_eq_true c2,Bool.or_true,cond_true,dJ,af]
 simp only[z0,decide_eq_false c1,decide_eq_false c2,mj,cond_false];obtain⟨k,rfl⟩:∃n:Nat,k=(n:Int):=⟨k.toNat,by omega⟩
 have hml:=BX (old:=old) hN;have hRl:=hRd.len hN;have hk:k<(cm t old now).length:=by rw[<-hMv];omega
 cases M with
 |nil=>exact absurd hk (by rw[<-hMv];simp)
 |mk l=>
 have hMv:l=cm t old now:=hMv;subst hMv;have q1:qu (cm t old now) 0 (k:Int)=some ((cm t old now).take k):=HJ (i:=0) (cG _) (by omega);have q2:iH ([]++(cm t old now).take k)=some ((cm t old now).take k):=ik (by rw[bk,b_];omega);have q3:wr .i64 ((k:Int)+1)=((k+1:Nat):Int):=k9 (by omega);have q4:qu (cm t old now) ((k+1:Nat):Int) ((cm t old now).length:Int)=some ((cm t old now).drop (k+1)):=by rw[HJ (by omega) (au _),List.take_of_length_le (by rw[fI];omega)]
 have q5:(kO (Sl.nil:Sl ae) ((cm t old now).take k) ((cm t old now).take k)).l=(cm t old now).take k:=HP;have hlen:((cm t old now).take k++(cm t old now).drop (k+1)).length<=64:=by rw[List.length_append,b_,fI];omega
 have q6:iH ((cm t old now).take k++(cm t old now).drop (k+1))=some ((cm t old now).take k++(cm t old now).drop (k+1)):=ik (by omega);have q7:(kO (kO (Sl.nil:Sl ae) ((cm t old now).take k) ((cm t old now).take k)) ((cm t old now).drop (k+1)) ((cm t old now).take k++(cm t old now).drop (k+1))).l=(cm t old now).take k++(cm t old now).drop (k+1):=by have:=PB (s:=kO (Sl.nil:Sl ae) ((cm t old now).take k) ((cm t old now).take k)) (l:=(cm t old now).drop (k+1));rwa[q5]at this
 have hw:=EZ hN (fun _ h=>h) hRd.w;obtain⟨a,a1,a2⟩:=zu (p:=(kO (kO (Sl.nil:Sl ae) ((cm t old now).take k) ((cm t old now).take k)) ((cm t old now).drop (k+1)) ((cm t old now).take k++(cm t old now).drop (k+1)),Rd,ms',life,fr,to_)) hO hN (by show(kO _ _ _).l.length<=64;rw[q7];exact hlen) hRl hw hS1 hS2;obtain⟨f1,f2⟩:=I6 hRd.w (fun s hs=>hN.1.dj hs) hk;have ha:0<a.l.length/\gt a.l 0=((2,(gt (cm t old now) k).1,(gt (cm t old now) k).2.1):am):=by rw[a2];unfold zw;rw[show(aJ.iZ (kO (kO (Sl.nil:Sl ae) ((cm t old now).take k) ((cm t old now).take k)) ((cm t old now).drop (k+1)) ((cm t old now).take k++(cm t old now).drop (k+1)),Rd,ms',life,fr,to_)).l=_ from q7];exact Md f1 f2
 have z1:((a.l.length:Int)==0)=false:=beq_false_of_ne (by omega);have i0:e9 0 a.l.length=some 0:=bq (i:=0) ha.1;have z2:gt a.l 0=((2,ae.Sw (gt (cm t old now) k),ae.mC (gt (cm t old now) k)):am):=ha.2;have a1':fx t old now (kO (kO (Sl.nil:Sl ae) ((cm t old now).take k) ((cm t old now).take k)) ((cm t old now).drop (k+1)) ((cm t old now).take k++(cm t old now).drop (k+1)),Rd,ms',life,fr,to_)=some a:=a1;simp only[aJ.iZ,aJ.eI,aJ.Av,aJ.GM,aJ.pN,aJ.To,Sl.iO,Sl.to];simp only[q1,q2,q3,q4,q5,q6,af,a1',z1,cond_false,i0,bq hk];simp only[z2,decide_true,bS,cond_false,af];by_cases c3:(k:Int)=0
 .rw [c3];simp only[beq_self_eq_true,Bool.true_or,cond_true,dJ,af]
 by_cases c4:(k:Int)>=(Rd.l.length:Int)
 .simp only[decide_eq_true c4,Bool.or_true,cond_true,dJ,af]
 have c5:((k:Int)==0)=false:=beq_false_of_ne c3;have hkR:k<Rd.l.length:=by omega
 have u1:iH ([]++Rd.l)=some Rd.l:=ik (by rw[bk];omega);have u2:(kO (Sl.nil:Sl aj) Rd.l Rd.l).l=Rd.l:=HP;have u3:wr .i64 ((k:Int)-1)=((k-1:Nat):Int):=by rw[ig (by omega) (by omega)];omega
 have hR2:=RQ (old:=old) hRd.w hkR (a:=(gt Rd.l (k-1)).2.1);have hw2:=EZ hN (fun _ h=>h) hR2;obtain⟨b,b1,b2⟩:=zu (p:=(Sl.mk (cm t old now),Sl.mk (Rd.l.set k ((gt Rd.l k).1,(gt Rd.l (k-1)).2.1,(gt Rd.l k).2.2)),ms',life,fr,to_)) hO hN hml (by show(Rd.l.set _ _).length<=8;rw[dL];exact hRl) hw2 hS1 hS2
 have hc:rJ (2*ms'+iw t+1) (Rd.l.set k ((gt Rd.l k).1,(gt Rd.l (k-1)).2.1,(gt Rd.l k).2.2)) 1 (Rd.l.length-1)=[((4,(k:Int),0):am)]:=by
  refine KX (f:=fun j:Nat=>((4,(j:Int),0):am)) _ _ (by omega) (by omega) fun j j1 j2=>?_;have hjR:j<Rd.l.length:=by omega
  unfold nY;have hg:=Gb hV hI;have hgl:=hg.1;unfold ma at hgl;by_cases e:j=k
  .rw [e,decide_eq_true rfl,decide_eq_true_eq,jP,if_pos ⟨rfl,hkR⟩,jP,if_neg (by omega)];show mG (gt Rd.l (k-1)).2.1-mG (gt Rd.l (k-1)).2.1<_;omega
  .rw [decide_eq_false e,decide_eq_false_iff_not,jP,if_neg (by omega)];by_cases e2:j-1=k
   .rw [jP,if_pos ⟨e2.symm,by omega⟩];have x1:=vB hV hI hRd hRl j1 hjR;have x2:=vB hV hI hRd hRl (j:=k) (by omega) hkR;unfold nY ma at x1 x2;rw[decide_eq_false_iff_not]at x1 x2;rw[e2]at x1;show¬mG (gt Rd.l j).2.1-mG (gt Rd.l (k-1)).2.1<_;omega
   .rw [jP,if_neg (by omega)];have x1:=vB hV hI hRd hRl j1 hjR;unfold nY ma at x1;rwa[decide_eq_false_iff_not]at x1
 have hb:b.l=[((4,(k:Int),0):am)]:=by rw[b2];unfold zw;simp only[aJ.iZ,aJ.eI,aJ.Av,Sl.iO];have hrn:=wX hR2 hO hN;rw[dL]at hrn|-;rw[AV hR2 (fun s hs=>hN.1.dj hs),zh hR2 hN.1.len,hmid,hc,hrn];rfl
 have b1':fx t old now (Sl.mk (cm t old now),Sl.mk (Rd.l.set k (aj.No (gt Rd.l k),aj.At (gt Rd.l (k-1)),aj.RF (gt Rd.l k))),ms',life,fr,to_)=some b:=b1;have y1:((b.l.length:Int)==1)=true:=by rw[hb];rfl
 have y2:e9 0 b.l.length=some 0:=bq (i:=0) (by rw[hb];simp);have y3:gt b.l 0=((4,(k:Int),0):am):=by rw[hb];rfl
 simp only[c5,decide_eq_false c4,mj,cond_false,u1,u2,u3,bq (show k-1<Rd.l.length by omega),bq hkR,af,b1',y1,y2,cond_true];simp only[y3,decide_true,cond_true,dJ,af]
end
end Go.Proofs.YthcplpfiidlinaaDoor.J
