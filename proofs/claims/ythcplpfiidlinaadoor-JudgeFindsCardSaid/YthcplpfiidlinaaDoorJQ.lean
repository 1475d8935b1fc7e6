/- JudgeClean, JudgeFinds: what is found of plans that are made. Conditions: as stated. -/
import Derived.Test.YthcplpfiidlinaaDoorJP
open Go.Ev Go
open Bool renaming not_false->eI,not_true->ce,or_false->me
open Int renaming toNat_natCast->d_
open List renaming flatMap_eq_nil_iff->dU,getElem_inj->lH,length_drop->fG,length_set->dT,length_take->bY,mem_flatMap->bS,mem_range'_1->eZ,nil_append->bh,range'->dM
open List.Sublist renaming refl->bK
open Nat renaming le_refl->au,zero_le->cF
open Option renaming bind_some->af
open Prod.mk renaming inj->ad
namespace Go.Proofs.YthcplpfiidlinaaDoor.J
theorem Hg{n:Int}(h0:0<=n)(h1:n<=1125899906842624):mB n=n:=by unfold mB;rw[if_neg (by omega:¬-1125899906842624>n),if_neg (by omega)]
theorem N8{n:Int}(h0:0<=n)(h1:n<=1048576):sG n=n:=by unfold sG;rw[if_neg (by omega:¬0>n),if_neg (by omega)]
section
variable{t:ah}{old now:Sl (Sl Int)}{R:List aj}{s h:Nat}
structure SD(t:ah)(old now:Sl (Sl Int))(at' miss lead:Int)(p:aJ):Prop where
 mv:p.jf.l=ck t old now
 rd:Nf (ck t old now) (iX t at' miss lead) (lZ t miss) p.fo.l
 ms:p.Co=miss
theorem Oa(hS1:ng t old)(hS2:ng t now){at' miss lead:Int}:∃p e,lx t old now at' miss lead=some (p,e)/\(e=0->(In at' miss lead/\gx t old/\gx t now)/\SD t old now at' miss lead p):=by
 by_cases hc:In at' miss lead/\gx t old/\gx t now
 .obtain ⟨p,e,h1,h2⟩:=IY hc.2.1 hc.2.2 hc.1;refine⟨p,e,h1,fun he=>⟨hc,?_⟩⟩;by_cases hz:ck t old now=[]
  .have:=(h2.none hz).2;omega
  .obtain ⟨s,R,g1,g2,_,g4⟩:=h2.P6 hz;rcases g4 with⟨_,_,g5⟩|⟨_,g5,_⟩
   .omega
   .rw [g5];exact⟨g1,g2,rfl⟩
 .exact ⟨tC,2,Lg hS1 hS2 hc,fun he=>absurd he (by decide)⟩
theorem Kb(hN:gx t now){ms:List ae}(hms:∀m∈ms,m∈ck t old now)(hR:Ak ms R):∀r∈R,r.2.2.l.length<=8:=by intro r hr;obtain⟨i,hi,rfl⟩:=FN hr;have h1:=hR.Rr i hi;refine Cf h1.Nd fun x hx=>?_;obtain⟨m,hm,_,rfl⟩:=(h1.AM x).1 hx;obtain⟨h,s,a,b,_,rfl⟩:=uy.1 (hms m hm);have:=hN.1.su;show 0<=(s:Int)/\(s:Int)<8;omega
theorem zm(hV:lk t){at' miss lead:Int}(hI:In at' miss lead)(hR:Nf (ck t old now) (iX t at' miss lead) (lZ t miss) R)(hl:R.length<=8){j:Nat}(h1:1<=j)(hj:j<R.length):oL (lZ t miss) R j=false:=by
 unfold oL;have a:=hR.PT j hj;have b:=hR.PT (j-1) (by omega);have t1:=xw hV hI (show j<=8 by omega);have t2:=xw hV hI (show j-1<=8 by omega);rw[a,b,Hg t1.1 (by omega),Hg t2.1 (by omega),decide_eq_false_iff_not]
 have e:(j:Int)*lZ t miss=((j-1:Nat):Int)*lZ t miss+lZ t miss:=by
  have:(j:Int)=((j-1:Nat):Int)+1:=by omega
  rw[this,Int.add_mul,Int.one_mul]
 omega
theorem Ei{p:aJ}(hO:gx t old)(hN:gx t now)(hm:p.jf.l.length<=64)(hR:p.fo.l.length<=8)(hw:∀r∈p.fo.l,r.2.2.l.length<=8)(hS1:ng t old)(hS2:ng t now):∃s,fS t old now p=some s/\s.l=B8 t old now p:=by obtain⟨s,e1,e2⟩:=JA (t:=t) (old:=old) (now:=now) (p:=p) hS1 hS2 (by omega) (by omega) (fun r hr=>by have:=hw r hr;omega);rw[Bs ⟨hO,hN⟩,cond_true]at e2;exact⟨s,e1,e2⟩
theorem KU{α:Type}{P:Nat->Bool}{f:Nat->α}{k:Nat}:∀(n a:Nat),a<=k->k<a+n->(∀j,a<=j->j<a+n->P j=decide (j=k))->((dM a n).flatMap fun j=>bif P j then[f j]else[])=[f k]:=by
 intro n;induction n with
 |zero=>intro a h1 h2 _;omega
 |succ n ih=>
  intro a h1 h2 hP;rw[List.range'_succ,List.flatMap_cons,hP a (au _) (by omega)];by_cases e:a=k
  .subst e;rw[decide_eq_true rfl,cond_true];have:((dM (a+1) n).flatMap fun j=>bif P j then[f j]else[])=[]:=dU.2 fun j hj=>by rw[eZ]at hj;rw[hP j (by omega) (by omega),decide_eq_false (by omega)];rfl
   rw[this];rfl
  .rw [decide_eq_false e,cond_false,bh];exact ih (a+1) (by omega) (by omega) fun j h3 h4=>hP j (by omega) (by omega)
theorem zK{α:Type}[Inhabited α]{l:List α}{k:Nat}{x:α}(hx:x∈l)(hne:x≠gt l k):x∈l.take k++l.drop (k+1):=by
 obtain⟨i,hi,rfl⟩:=FN hx;by_cases h:i<k
 .exact List.mem_append_left _ (CD h hi)
 .have h2:i≠k:=fun e=>hne (by rw[e]);refine List.mem_append_right _ ?_;rw[cP hi,List.mem_drop_iff_getElem];exact⟨i-(k+1),by omega,by congr 1;omega⟩
theorem DJ{α:Type}{l:List α}{k:Nat}:(l.take k++l.drop (k+1)).Sublist l:=by
 have h:=List.take_append_drop k l;have h2:(l.drop (k+1)).Sublist (l.drop k):=by rw[<-List.drop_drop];exact List.drop_sublist _ _
 exact((bK _).append h2).trans (by rw[h];exact bK _)
theorem Lo{α:Type}[Inhabited α]{l:List α}{k:Nat}(hnd:l.Nodup)(hk:k<l.length):gt l k∉l.take k++l.drop (k+1):=by
 intro h;rcases List.mem_append.1 h with h|h
 .obtain ⟨i,hik,hi,e⟩:=DC h;rw[cP hi,cP hk]at e;have:=(lH hnd).1 e;omega
 .rw [List.mem_drop_iff_getElem]at h;obtain⟨i,hi,e⟩:=h;rw[cP hk]at e;have:=(lH hnd).1 e;omega
theorem HD{α:Type}{l:List α}{i j:Nat}(h1:i<=j)(h2:j<=l.length):qr l (i:Int) (j:Int)=some ((l.drop i).take (j-i)):=nT.2 ⟨⟨by omega,by omega,by omega⟩,by rw[d_,d_]⟩
theorem I1(hR:Ak (ck t old now) R)(r2:∀s,s<now.l.length->(gt now.l s).l.length=t.bd.l.length){k:Nat}(hk:k<(ck t old now).length):
  wV old now ((ck t old now).take k++(ck t old now).drop (k+1)) R 0 now.l.length≠[]/\∀x∈wV old now ((ck t old now).take k++(ck t old now).drop (k+1)) R 0 now.l.length,x=((2,(gt (ck t old now) k).1,(gt (ck t old now) k).2.1):am):=by
 have hm:gt (ck t old now) k∈ck t old now:=Cd hk;have hnot:=Lo yB hk;obtain⟨h0,s0,a,b,c,e⟩:=uy.1 hm;have hsub:∀x∈(ck t old now).take k++(ck t old now).drop (k+1),x∈ck t old now:=fun x hx=>DJ.subset hx;have hnd:((ck t old now).take k++(ck t old now).drop (k+1)).Nodup:=DJ.nodup yB;have hin:∀x,x∈ck t old now->x≠gt (ck t old now) k->x∈(ck t old now).take k++(ck t old now).drop (k+1):=fun x hx hne=>zK hx hne;rw[e]at hnot hin|-;generalize(ck t old now).take k++(ck t old now).drop (k+1)=l at hsub hnd hin hnot|-;constructor
 .have hB:rN old now l R s0 h0=true:=by
   unfold rN;have e1:(gt (gt now.l s0).l h0 !=gt (gt old.l s0).l h0)=true:=bne_iff_ne.2 c;have e2:pE R (s0:Int) (h0:Int) (gt (gt now.l s0).l h0) l=0:=MC fun x hx=>by cases hq:F5 R (s0:Int) (h0:Int) (gt (gt now.l s0).l h0) x with|false=>rfl|true=>exact absurd ((DS hR (hsub x hx)).1 hq▸hx) hnot
   rw[e1,e2];rfl
  intro hz;have h1:=dU.1 hz s0 (eZ.2 ⟨cF _,by omega⟩);have h2:=dU.1 h1 h0 (eZ.2 ⟨cF _,by rw[r2 s0 b];omega⟩);rw[hB]at h2;cases h2
 .intro x hx;obtain⟨s,hs,hx⟩:=bS.1 hx;obtain⟨h,hh,hx⟩:=bS.1 hx;rw[eZ]at hs hh;have hsl:s<now.l.length:=by omega
  have hhl:h<t.bd.l.length:=by rw[<-r2 s hsl];omega
  cases hB:rN old now l R s h with
  |false=>rw[hB]at hx;cases hx
  |true=>
   rw[hB]at hx;have hx:x=((2,(s:Int),(h:Int)):am):=List.mem_singleton.1 hx;by_cases hse:s=s0/\h=h0
   .rw [hx,hse.1,hse.2]
   .exfalso;rw[Hh hR hsl hhl hsub hnd fun hne=>hin _ (uy.2 ⟨h,s,hhl,hsl,hne,rfl⟩) fun q=>by obtain⟨q1,q2⟩:=ad q;obtain⟨q2,_⟩:=ad q2;exact hse ⟨by omega,by omega⟩]at hB;cases hB
theorem Ma{α:Type}[Inhabited α]{a b:List α}{x:α}(h1:a≠[])(h2:∀y∈a,y=x):0<(a++b).length/\gt (a++b) 0=x:=by cases a with|nil=>exact absurd rfl h1|cons y a=>exact⟨by simp,h2 y List.mem_cons_self⟩
theorem RJ(hR:Ak (ck t old now) R){k:Nat}(hk:k<R.length){a:Int}:Ak (ck t old now) (R.set k ((gt R k).1,a,(gt R k).2.2)):=by
 have e:(R.set k ((gt R k).1,a,(gt R k).2.2)).map (fun x=>x.1)=R.map fun x=>x.1:=by
  rw[List.map_set];refine List.ext_getElem (by simp) fun i h1 h2=>?_;rw[List.getElem_set];split
  .rename_i hi;subst hi;rw[List.getElem_map,cP hk]
  .rfl
 refine⟨by rw[e];exact hR.Nd,by rw[e];exact hR.AM,fun i hi=>?_⟩;rw[dT]at hi;rw[jM];split
 .exact hR.Rr k hk
 .exact hR.Rr i hi
theorem HJ{α:Type}{l:List α}:(kL (Sl.nil:Sl α) l l).l=l:=by have:=Py (s:=(Sl.nil:Sl α)) (l:=l);rwa[Sl.Ls,bh]at this
theorem Jb(t:ah)(old now:Sl (Sl Int))(at' miss lead k:Int)(ho:old.l.length<9223372036854775808)(hn:now.l.length<9223372036854775808):nJ t old now at' miss lead k=some true:=by
 unfold nJ;rw[xX ho];by_cases hS1:ng t old
 rotate_left
 .rw [decide_eq_false hS1];simp only[af,eI,cond_true,ga]
 rw[decide_eq_true hS1,xX hn];by_cases hS2:ng t now
 rotate_left
 .rw [decide_eq_false hS2];simp only[af,eI,ce,cond_false,cond_true,ga]
 rw[decide_eq_true hS2];simp only[af,ce,cond_false];obtain⟨p,e,m1,m2⟩:=Oa hS1 hS2 (at':=at') (miss:=miss) (lead:=lead);rw[m1];simp only[af];by_cases he:e=0
 rotate_left
 .rw [bne_iff_ne.2 he];simp only[Bool.true_or,cond_true,ga,af]
 obtain⟨⟨hI,hO,hN⟩,hM⟩:=m2 he;rw[he];obtain⟨M,Rd,ms',life,fr,to_⟩:=p;have hMv:M.l=ck t old now:=hM.mv;have hRd:Nf (ck t old now) (iX t at' miss lead) (lZ t miss) Rd.l:=hM.rd;have hms:ms'=miss:=hM.ms;subst hms;have hI2:=hI;unfold In at hI2;have hV:=hO.1.tR;have hmid:=N8 hI2.2.1.1 hI2.2.1.2;have z0:((0:Int) !=0)=false:=rfl;by_cases c1:k<0
 .simp only[decide_eq_true c1,Bool.or_true,Bool.true_or,cond_true,ga,af]
 by_cases c2:k>=(M.l.length:Int)
 .simp only[decide_eq_true c2,Bool.or_true,cond_true,ga,af]
 simp only[z0,decide_eq_false c1,decide_eq_false c2,me,cond_false];obtain⟨k,rfl⟩:∃n:Nat,k=(n:Int):=⟨k.toNat,by omega⟩
 have hml:=FJ (old:=old) hN;have hRl:=hRd.len hN;have hk:k<(ck t old now).length:=by rw[<-hMv];omega
 cases M with
 |nil=>exact absurd hk (by rw[<-hMv];simp)
 |mk l=>
 have hMv:l=ck t old now:=hMv;subst hMv;have q1:qr (ck t old now) 0 (k:Int)=some ((ck t old now).take k):=HD (i:=0) (cF _) (by omega);have q2:iF ([]++(ck t old now).take k)=some ((ck t old now).take k):=ij (by rw[bh,bY];omega);have q3:wr .i64 ((k:Int)+1)=((k+1:Nat):Int):=kY (by omega);have q4:qr (ck t old now) ((k+1:Nat):Int) ((ck t old now).length:Int)=some ((ck t old now).drop (k+1)):=by rw[HD (by omega) (au _),List.take_of_length_le (by rw[fG];omega)]
 have q5:(kL (Sl.nil:Sl ae) ((ck t old now).take k) ((ck t old now).take k)).l=(ck t old now).take k:=HJ;have hlen:((ck t old now).take k++(ck t old now).drop (k+1)).length<=64:=by rw[List.length_append,bY,fG];omega
 have q6:iF ((ck t old now).take k++(ck t old now).drop (k+1))=some ((ck t old now).take k++(ck t old now).drop (k+1)):=ij (by omega);have q7:(kL (kL (Sl.nil:Sl ae) ((ck t old now).take k) ((ck t old now).take k)) ((ck t old now).drop (k+1)) ((ck t old now).take k++(ck t old now).drop (k+1))).l=(ck t old now).take k++(ck t old now).drop (k+1):=by have:=Py (s:=kL (Sl.nil:Sl ae) ((ck t old now).take k) ((ck t old now).take k)) (l:=(ck t old now).drop (k+1));rwa[q5]at this
 have hw:=Kb hN (fun _ h=>h) hRd.w;obtain⟨a,a1,a2⟩:=Ei (p:=(kL (kL (Sl.nil:Sl ae) ((ck t old now).take k) ((ck t old now).take k)) ((ck t old now).drop (k+1)) ((ck t old now).take k++(ck t old now).drop (k+1)),Rd,ms',life,fr,to_)) hO hN (by show(kL _ _ _).l.length<=64;rw[q7];exact hlen) hRl hw hS1 hS2;obtain⟨f1,f2⟩:=I1 hRd.w (fun s hs=>hN.1.dj hs) hk;have ha:0<a.l.length/\gt a.l 0=((2,(gt (ck t old now) k).1,(gt (ck t old now) k).2.1):am):=by rw[a2];unfold B8;rw[show(aJ.jf (kL (kL (Sl.nil:Sl ae) ((ck t old now).take k) ((ck t old now).take k)) ((ck t old now).drop (k+1)) ((ck t old now).take k++(ck t old now).drop (k+1)),Rd,ms',life,fr,to_)).l=_ from q7];exact Ma f1 f2
 have z1:((a.l.length:Int)==0)=false:=beq_false_of_ne (by omega);have i0:eX 0 a.l.length=some 0:=bp (i:=0) ha.1;have z2:gt a.l 0=((2,ae.Sw (gt (ck t old now) k),ae.mL (gt (ck t old now) k)):am):=ha.2;have a1':fS t old now (kL (kL (Sl.nil:Sl ae) ((ck t old now).take k) ((ck t old now).take k)) ((ck t old now).drop (k+1)) ((ck t old now).take k++(ck t old now).drop (k+1)),Rd,ms',life,fr,to_)=some a:=a1;simp only[aJ.jf,aJ.fo,aJ.Co,aJ.JR,aJ.pT,aJ.To,Sl.iM,Sl.to];simp only[q1,q2,q3,q4,q5,q6,af,a1',z1,cond_false,i0,bp hk];simp only[z2,decide_true,ce,cond_false,af];by_cases c3:(k:Int)=0
 .rw [c3];simp only[beq_self_eq_true,Bool.true_or,cond_true,ga,af]
 by_cases c4:(k:Int)>=(Rd.l.length:Int)
 .simp only[decide_eq_true c4,Bool.or_true,cond_true,ga,af]
 have c5:((k:Int)==0)=false:=beq_false_of_ne c3;have hkR:k<Rd.l.length:=by omega
 have u1:iF ([]++Rd.l)=some Rd.l:=ij (by rw[bh];omega);have u2:(kL (Sl.nil:Sl aj) Rd.l Rd.l).l=Rd.l:=HJ;have u3:wr .i64 ((k:Int)-1)=((k-1:Nat):Int):=by rw[ie (by omega) (by omega)];omega
 have hR2:=RJ (old:=old) hRd.w hkR (a:=(gt Rd.l (k-1)).2.1);have hw2:=Kb hN (fun _ h=>h) hR2;obtain⟨b,b1,b2⟩:=Ei (p:=(Sl.mk (ck t old now),Sl.mk (Rd.l.set k ((gt Rd.l k).1,(gt Rd.l (k-1)).2.1,(gt Rd.l k).2.2)),ms',life,fr,to_)) hO hN hml (by show(Rd.l.set _ _).length<=8;rw[dT];exact hRl) hw2 hS1 hS2
 have hc:sR (2*ms'+iU t+1) (Rd.l.set k ((gt Rd.l k).1,(gt Rd.l (k-1)).2.1,(gt Rd.l k).2.2)) 1 (Rd.l.length-1)=[((4,(k:Int),0):am)]:=by
  refine KU (f:=fun j:Nat=>((4,(j:Int),0):am)) _ _ (by omega) (by omega) fun j j1 j2=>?_;have hjR:j<Rd.l.length:=by omega
  unfold oL;have hg:=F8 hV hI;have hgl:=hg.1;unfold lZ at hgl;by_cases e:j=k
  .rw [e,decide_eq_true rfl,decide_eq_true_eq,jM,if_pos ⟨rfl,hkR⟩,jM,if_neg (by omega)];show mB (gt Rd.l (k-1)).2.1-mB (gt Rd.l (k-1)).2.1<_;omega
  .rw [decide_eq_false e,decide_eq_false_iff_not,jM,if_neg (by omega)];by_cases e2:j-1=k
   .rw [jM,if_pos ⟨e2.symm,by omega⟩];have x1:=zm hV hI hRd hRl j1 hjR;have x2:=zm hV hI hRd hRl (j:=k) (by omega) hkR;unfold oL lZ at x1 x2;rw[decide_eq_false_iff_not]at x1 x2;rw[e2]at x1;show¬mB (gt Rd.l j).2.1-mB (gt Rd.l (k-1)).2.1<_;omega
   .rw [jM,if_neg (by omega)];have x1:=zm hV hI hRd hRl j1 hjR;unfold oL lZ at x1;rwa[decide_eq_false_iff_not]at x1
 have hb:b.l=[((4,(k:Int),0):am)]:=by rw[b2];unfold B8;simp only[aJ.jf,aJ.fo,aJ.Co,Sl.iM];have hrn:=CX hR2 hO hN;rw[dT]at hrn|-;rw[IT hR2 (fun s hs=>hN.1.dj hs),Gd hR2 hN.1.len,hmid,hc,hrn];rfl
 have b1':fS t old now (Sl.mk (ck t old now),Sl.mk (Rd.l.set k (aj.No (gt Rd.l k),aj.At (gt Rd.l (k-1)),aj.SC (gt Rd.l k))),ms',life,fr,to_)=some b:=b1;have y1:((b.l.length:Int)==1)=true:=by rw[hb];rfl
 have y2:eX 0 b.l.length=some 0:=bp (i:=0) (by rw[hb];simp);have y3:gt b.l 0=((4,(k:Int),0):am):=by rw[hb];rfl
 simp only[c5,decide_eq_false c4,me,cond_false,u1,u2,u3,bp (show k-1<Rd.l.length by omega),bp hkR,af,b1',y1,y2,cond_true];simp only[y3,decide_true,cond_true,ga,af]
end
end Go.Proofs.YthcplpfiidlinaaDoor.J
