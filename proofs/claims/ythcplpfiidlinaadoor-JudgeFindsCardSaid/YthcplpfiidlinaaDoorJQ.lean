/- JudgeClean, JudgeFinds: what is found of plans that are made. Conditions: as stated. -/
import Derived.Test.YthcplpfiidlinaaDoorJP
open Go.Ev Go
open Bool renaming not_false->eO,not_true->ce,or_false->mj
open Int renaming toNat_natCast->eu
open List renaming flatMap_eq_nil_iff->d_,getElem_inj->lL,length_drop->fI,length_set->dM,length_take->bY,mem_flatMap->bS,mem_range'_1->fm,nil_append->bk,range'->dR
open List.Sublist renaming refl->bL
open Nat renaming le_refl->au,zero_le->cF
open Option renaming bind_some->af
open Prod.mk renaming inj->ad
namespace Go.Proofs.YthcplpfiidlinaaDoor.J
theorem Hq{n:Int}(h0:0<=n)(h1:n<=1125899906842624):mH n=n:=by unfold mH;rw[if_neg (by omega:¬-1125899906842624>n),if_neg (by omega)]
theorem Oj{n:Int}(h0:0<=n)(h1:n<=1048576):sO n=n:=by unfold sO;rw[if_neg (by omega:¬0>n),if_neg (by omega)]
section
variable{t:ah}{old now:Sl (Sl Int)}{R:List aj}{s h:Nat}
structure SR(t:ah)(old now:Sl (Sl Int))(at' miss lead:Int)(p:aK):Prop where
 mv:p.jx.l=ck t old now
 rd:Nm (ck t old now) (iX t at' miss lead) (mb t miss) p.fS.l
 ms:p.CB=miss
theorem On(hS1:oE t old)(hS2:oE t now){at' miss lead:Int}:∃p e,lB t old now at' miss lead=some (p,e)/\(e=0->(In at' miss lead/\gy t old/\gy t now)/\SR t old now at' miss lead p):=by
 by_cases hc:In at' miss lead/\gy t old/\gy t now
 .obtain ⟨p,e,h1,h2⟩:=I6 hc.2.1 hc.2.2 hc.1;refine⟨p,e,h1,fun he=>⟨hc,?_⟩⟩;by_cases hz:ck t old now=[]
  .have:=(h2.none hz).2;omega
  .obtain ⟨s,R,g1,g2,_,g4⟩:=h2.Qi hz;rcases g4 with⟨_,_,g5⟩|⟨_,g5,_⟩
   .omega
   .rw [g5];exact⟨g1,g2,rfl⟩
 .exact ⟨tM,2,Lo hS1 hS2 hc,fun he=>absurd he (by decide)⟩
theorem Kk(hN:gy t now){ms:List ae}(hms:∀m∈ms,m∈ck t old now)(hR:Av ms R):∀r∈R,r.2.2.l.length<=8:=by intro r hr;obtain⟨i,hi,rfl⟩:=FY hr;have h1:=hR.RI i hi;refine Cq h1.Nk fun x hx=>?_;obtain⟨m,hm,_,rfl⟩:=(h1.AX x).1 hx;obtain⟨h,s,a,b,_,rfl⟩:=uJ.1 (hms m hm);have:=hN.1.sG;show 0<=(s:Int)/\(s:Int)<8;omega
theorem zA(hV:lp t){at' miss lead:Int}(hI:In at' miss lead)(hR:Nm (ck t old now) (iX t at' miss lead) (mb t miss) R)(hl:R.length<=8){j:Nat}(h1:1<=j)(hj:j<R.length):oQ (mb t miss) R j=false:=by
 unfold oQ;have a:=hR.P5 j hj;have b:=hR.P5 (j-1) (by omega);have t1:=xG hV hI (show j<=8 by omega);have t2:=xG hV hI (show j-1<=8 by omega);rw[a,b,Hq t1.1 (by omega),Hq t2.1 (by omega),decide_eq_false_iff_not]
 have e:(j:Int)*mb t miss=((j-1:Nat):Int)*mb t miss+mb t miss:=by
  have:(j:Int)=((j-1:Nat):Int)+1:=by omega
  rw[this,Int.add_mul,Int.one_mul]
 omega
theorem Ez{p:aK}(hO:gy t old)(hN:gy t now)(hm:p.jx.l.length<=64)(hR:p.fS.l.length<=8)(hw:∀r∈p.fS.l,r.2.2.l.length<=8)(hS1:oE t old)(hS2:oE t now):∃s,fT t old now p=some s/\s.l=Ci t old now p:=by obtain⟨s,e1,e2⟩:=JJ (t:=t) (old:=old) (now:=now) (p:=p) hS1 hS2 (by omega) (by omega) (fun r hr=>by have:=hw r hr;omega);rw[BC ⟨hO,hN⟩,cond_true]at e2;exact⟨s,e1,e2⟩
theorem K3{α:Type}{P:Nat->Bool}{f:Nat->α}{k:Nat}:∀(n a:Nat),a<=k->k<a+n->(∀j,a<=j->j<a+n->P j=decide (j=k))->((dR a n).flatMap fun j=>bif P j then[f j]else[])=[f k]:=by
 intro n;induction n with
 |zero=>intro a h1 h2 _;omega
 |succ n ih=>
  intro a h1 h2 hP;rw[List.range'_succ,List.flatMap_cons,hP a (au _) (by omega)];by_cases e:a=k
  .subst e;rw[decide_eq_true rfl,cond_true];have:((dR (a+1) n).flatMap fun j=>bif P j then[f j]else[])=[]:=d_.2 fun j hj=>by rw[fm]at hj;rw[hP j (by omega) (by omega),decide_eq_false (by omega)];rfl
   rw[this];rfl
  .rw [decide_eq_false e,cond_false,bk];exact ih (a+1) (by omega) (by omega) fun j h3 h4=>hP j (by omega) (by omega)
theorem zU{α:Type}[Inhabited α]{l:List α}{k:Nat}{x:α}(hx:x∈l)(hne:x≠gt l k):x∈l.take k++l.drop (k+1):=by
 obtain⟨i,hi,rfl⟩:=FY hx;by_cases h:i<k
 .exact List.mem_append_left _ (CS h hi)
 .have h2:i≠k:=fun e=>hne (by rw[e]);refine List.mem_append_right _ ?_;rw[cQ hi,List.mem_drop_iff_getElem];exact⟨i-(k+1),by omega,by congr 1;omega⟩
theorem DW{α:Type}{l:List α}{k:Nat}:(l.take k++l.drop (k+1)).Sublist l:=by
 have h:=List.take_append_drop k l;have h2:(l.drop (k+1)).Sublist (l.drop k):=by rw[<-List.drop_drop];exact List.drop_sublist _ _
 exact((bL _).append h2).trans (by rw[h];exact bL _)
theorem Lw{α:Type}[Inhabited α]{l:List α}{k:Nat}(hnd:l.Nodup)(hk:k<l.length):gt l k∉l.take k++l.drop (k+1):=by
 intro h;rcases List.mem_append.1 h with h|h
 .obtain ⟨i,hik,hi,e⟩:=DP h;rw[cQ hi,cQ hk]at e;have:=(lL hnd).1 e;omega
 .rw [List.mem_drop_iff_getElem]at h;obtain⟨i,hi,e⟩:=h;rw[cQ hk]at e;have:=(lL hnd).1 e;omega
theorem HL{α:Type}{l:List α}{i j:Nat}(h1:i<=j)(h2:j<=l.length):qB l (i:Int) (j:Int)=some ((l.drop i).take (j-i)):=nV.2 ⟨⟨by omega,by omega,by omega⟩,by rw[eu,eu]⟩
theorem I9(hR:Av (ck t old now) R)(r2:∀s,s<now.l.length->(gt now.l s).l.length=t.bf.l.length){k:Nat}(hk:k<(ck t old now).length):
  w9 old now ((ck t old now).take k++(ck t old now).drop (k+1)) R 0 now.l.length≠[]/\∀x∈w9 old now ((ck t old now).take k++(ck t old now).drop (k+1)) R 0 now.l.length,x=((2,(gt (ck t old now) k).1,(gt (ck t old now) k).2.1):ao):=by
 have hm:gt (ck t old now) k∈ck t old now:=Co hk;have hnot:=Lw yN hk;obtain⟨h0,s0,a,b,c,e⟩:=uJ.1 hm;have hsub:∀x∈(ck t old now).take k++(ck t old now).drop (k+1),x∈ck t old now:=fun x hx=>DW.subset hx;have hnd:((ck t old now).take k++(ck t old now).drop (k+1)).Nodup:=DW.nodup yN;have hin:∀x,x∈ck t old now->x≠gt (ck t old now) k->x∈(ck t old now).take k++(ck t old now).drop (k+1):=fun x hx hne=>zU hx hne;rw[e]at hnot hin|-;generalize(ck t old now).take k++(ck t old now).drop (k+1)=l at hsub hnd hin hnot|-;constructor
 .have hB:rW old now l R s0 h0=true:=by
   unfold rW;have e1:(gt (gt now.l s0).l h0 !=gt (gt old.l s0).l h0)=true:=bne_iff_ne.2 c;have e2:pK R (s0:Int) (h0:Int) (gt (gt now.l s0).l h0) l=0:=MJ fun x hx=>by cases hq:Gf R (s0:Int) (h0:Int) (gt (gt now.l s0).l h0) x with|false=>rfl|true=>exact absurd ((D5 hR (hsub x hx)).1 hq▸hx) hnot
   rw[e1,e2];rfl
  intro hz;have h1:=d_.1 hz s0 (fm.2 ⟨cF _,by omega⟩);have h2:=d_.1 h1 h0 (fm.2 ⟨cF _,by rw[r2 s0 b];omega⟩);rw[hB]at h2;cases h2
 .intro x hx;obtain⟨s,hs,hx⟩:=bS.1 hx;obtain⟨h,hh,hx⟩:=bS.1 hx;rw[fm]at hs hh;have hsl:s<now.l.length:=by omega
  have hhl:h<t.bf.l.length:=by rw[<-r2 s hsl];omega
  cases hB:rW old now l R s h with
  |false=>rw[hB]at hx;cases hx
  |true=>
   rw[hB]at hx;have hx:x=((2,(s:Int),(h:Int)):ao):=List.mem_singleton.1 hx;by_cases hse:s=s0/\h=h0
   .rw [hx,hse.1,hse.2]
   .exfalso;rw[Hr hR hsl hhl hsub hnd fun hne=>hin _ (uJ.2 ⟨h,s,hhl,hsl,hne,rfl⟩) fun q=>by obtain⟨q1,q2⟩:=ad q;obtain⟨q2,_⟩:=ad q2;exact hse ⟨by omega,by omega⟩]at hB;cases hB
theorem Mh{α:Type}[Inhabited α]{a b:List α}{x:α}(h1:a≠[])(h2:∀y∈a,y=x):0<(a++b).length/\gt (a++b) 0=x:=by cases a with|nil=>exact absurd rfl h1|cons y a=>exact⟨by simp,h2 y List.mem_cons_self⟩
theorem R0(hR:Av (ck t old now) R){k:Nat}(hk:k<R.length){a:Int}:Av (ck t old now) (R.set k ((gt R k).1,a,(gt R k).2.2)):=by
 have e:(R.set k ((gt R k).1,a,(gt R k).2.2)).map (fun x=>x.1)=R.map fun x=>x.1:=by
  rw[List.map_set];refine List.ext_getElem (by simp) fun i h1 h2=>?_;rw[List.getElem_set];split
  .rename_i hi;subst hi;rw[List.getElem_map,cQ hk]
  .rfl
 refine⟨by rw[e];exact hR.Nk,by rw[e];exact hR.AX,fun i hi=>?_⟩;rw[dM]at hi;rw[jR];split
 .exact hR.RI k hk
 .exact hR.RI i hi
theorem HS{α:Type}{l:List α}:(kO (Sl.nil:Sl α) l l).l=l:=by have:=PL (s:=(Sl.nil:Sl α)) (l:=l);rwa[Sl.LA,bk]at this
theorem Jk(t:ah)(old now:Sl (Sl Int))(at' miss lead k:Int)(ho:old.l.length<9223372036854775808)(hn:now.l.length<9223372036854775808):nN t old now at' miss lead k=some true:=by
 unfold nN;rw[yf ho];by_cases hS1:oE t old
 rotate_left
 .rw [decide_eq_false hS1];simp only[af,eO,cond_true,gf]
 rw[decide_eq_true hS1,yf hn];by_cases hS2:oE t now
 rotate_left
 .rw [decide_eq_false hS2];simp only[af,eO,ce,cond_false,cond_true,gf]
 rw[decide_eq_true hS2];simp only[af,ce,cond_false];obtain⟨p,e,m1,m2⟩:=On hS1 hS2 (at':=at') (miss:=miss) (lead:=lead);rw[m1];simp only[af];by_cases he:e=0
 rotate_left
 .rw [bne_iff_ne.2 he];simp only[Bool.true_or,cond_true,gf,af]
 obtain⟨⟨hI,hO,hN⟩,hM⟩:=m2 he;rw[he];obtain⟨M,Rd,ms',life,fr,to_⟩:=p;have hMv:M.l=ck t old now:=hM.mv;have hRd:Nm (ck t old now) (iX t at' miss lead) (mb t miss) Rd.l:=hM.rd;have hms:ms'=miss:=hM.ms;subst hms;have hI2:=hI;unfold In at hI2;have hV:=hO.1.t7;have hmid:=Oj hI2.2.1.1 hI2.2.1.2;have z0:((0:Int) !=0)=false:=rfl;by_cases c1:k<0
 .simp only[decide_eq_true c1,Bool.or_true,Bool.true_or,cond_true,gf,af]
 by_cases c2:k>=(M.l.length:Int)
 .simp only[decide_eq_true c2,Bool.or_true,cond_true,gf,af]
 simp only[z0,decide_eq_false c1,decide_eq_false c2,mj,cond_false];obtain⟨k,rfl⟩:∃n:Nat,k=(n:Int):=⟨k.toNat,by omega⟩
 have hml:=FU (old:=old) hN;have hRl:=hRd.len hN;have hk:k<(ck t old now).length:=by rw[<-hMv];omega
 cases M with
 |nil=>exact absurd hk (by rw[<-hMv];simp)
 |mk l=>
 have hMv:l=ck t old now:=hMv;subst hMv;have q1:qB (ck t old now) 0 (k:Int)=some ((ck t old now).take k):=HL (i:=0) (cF _) (by omega);have q2:iG ([]++(ck t old now).take k)=some ((ck t old now).take k):=ik (by rw[bk,bY];omega);have q3:wr .i64 ((k:Int)+1)=((k+1:Nat):Int):=k7 (by omega);have q4:qB (ck t old now) ((k+1:Nat):Int) ((ck t old now).length:Int)=some ((ck t old now).drop (k+1)):=by rw[HL (by omega) (au _),List.take_of_length_le (by rw[fI];omega)]
 have q5:(kO (Sl.nil:Sl ae) ((ck t old now).take k) ((ck t old now).take k)).l=(ck t old now).take k:=HS;have hlen:((ck t old now).take k++(ck t old now).drop (k+1)).length<=64:=by rw[List.length_append,bY,fI];omega
 have q6:iG ((ck t old now).take k++(ck t old now).drop (k+1))=some ((ck t old now).take k++(ck t old now).drop (k+1)):=ik (by omega);have q7:(kO (kO (Sl.nil:Sl ae) ((ck t old now).take k) ((ck t old now).take k)) ((ck t old now).drop (k+1)) ((ck t old now).take k++(ck t old now).drop (k+1))).l=(ck t old now).take k++(ck t old now).drop (k+1):=by have:=PL (s:=kO (Sl.nil:Sl ae) ((ck t old now).take k) ((ck t old now).take k)) (l:=(ck t old now).drop (k+1));rwa[q5]at this
 have hw:=Kk hN (fun _ h=>h) hRd.w;obtain⟨a,a1,a2⟩:=Ez (p:=(kO (kO (Sl.nil:Sl ae) ((ck t old now).take k) ((ck t old now).take k)) ((ck t old now).drop (k+1)) ((ck t old now).take k++(ck t old now).drop (k+1)),Rd,ms',life,fr,to_)) hO hN (by show(kO _ _ _).l.length<=64;rw[q7];exact hlen) hRl hw hS1 hS2;obtain⟨f1,f2⟩:=I9 hRd.w (fun s hs=>hN.1.dj hs) hk;have ha:0<a.l.length/\gt a.l 0=((2,(gt (ck t old now) k).1,(gt (ck t old now) k).2.1):ao):=by rw[a2];unfold Ci;rw[show(aK.jx (kO (kO (Sl.nil:Sl ae) ((ck t old now).take k) ((ck t old now).take k)) ((ck t old now).drop (k+1)) ((ck t old now).take k++(ck t old now).drop (k+1)),Rd,ms',life,fr,to_)).l=_ from q7];exact Mh f1 f2
 have z1:((a.l.length:Int)==0)=false:=beq_false_of_ne (by omega);have i0:ff 0 a.l.length=some 0:=bp (i:=0) ha.1;have z2:gt a.l 0=((2,ae.Sw (gt (ck t old now) k),ae.mS (gt (ck t old now) k)):ao):=ha.2;have a1':fT t old now (kO (kO (Sl.nil:Sl ae) ((ck t old now).take k) ((ck t old now).take k)) ((ck t old now).drop (k+1)) ((ck t old now).take k++(ck t old now).drop (k+1)),Rd,ms',life,fr,to_)=some a:=a1;simp only[aK.jx,aK.fS,aK.CB,aK.J1,aK.pZ,aK.To,Sl.iN,Sl.to];simp only[q1,q2,q3,q4,q5,q6,af,a1',z1,cond_false,i0,bp hk];simp only[z2,decide_true,ce,cond_false,af];by_cases c3:(k:Int)=0
 .rw [c3];simp only[beq_self_eq_true,Bool.true_or,cond_true,gf,af]
 by_cases c4:(k:Int)>=(Rd.l.length:Int)
 .simp only[decide_eq_true c4,Bool.or_true,cond_true,gf,af]
 have c5:((k:Int)==0)=false:=beq_false_of_ne c3;have hkR:k<Rd.l.length:=by omega
 have u1:iG ([]++Rd.l)=some Rd.l:=ik (by rw[bk];omega);have u2:(kO (Sl.nil:Sl aj) Rd.l Rd.l).l=Rd.l:=HS;have u3:wr .i64 ((k:Int)-1)=((k-1:Nat):Int):=by rw[ig (by omega) (by omega)];omega
 have hR2:=R0 (old:=old) hRd.w hkR (a:=(gt Rd.l (k-1)).2.1);have hw2:=Kk hN (fun _ h=>h) hR2;obtain⟨b,b1,b2⟩:=Ez (p:=(Sl.mk (ck t old now),Sl.mk (Rd.l.set k ((gt Rd.l k).1,(gt Rd.l (k-1)).2.1,(gt Rd.l k).2.2)),ms',life,fr,to_)) hO hN hml (by show(Rd.l.set _ _).length<=8;rw[dM];exact hRl) hw2 hS1 hS2
 have hc:s_ (2*ms'+iV t+1) (Rd.l.set k ((gt Rd.l k).1,(gt Rd.l (k-1)).2.1,(gt Rd.l k).2.2)) 1 (Rd.l.length-1)=[((4,(k:Int),0):ao)]:=by
  refine K3 (f:=fun j:Nat=>((4,(j:Int),0):ao)) _ _ (by omega) (by omega) fun j j1 j2=>?_;have hjR:j<Rd.l.length:=by omega
  unfold oQ;have hg:=Gi hV hI;have hgl:=hg.1;unfold mb at hgl;by_cases e:j=k
  .rw [e,decide_eq_true rfl,decide_eq_true_eq,jR,if_pos ⟨rfl,hkR⟩,jR,if_neg (by omega)];show mH (gt Rd.l (k-1)).2.1-mH (gt Rd.l (k-1)).2.1<_;omega
  .rw [decide_eq_false e,decide_eq_false_iff_not,jR,if_neg (by omega)];by_cases e2:j-1=k
   .rw [jR,if_pos ⟨e2.symm,by omega⟩];have x1:=zA hV hI hRd hRl j1 hjR;have x2:=zA hV hI hRd hRl (j:=k) (by omega) hkR;unfold oQ mb at x1 x2;rw[decide_eq_false_iff_not]at x1 x2;rw[e2]at x1;show¬mH (gt Rd.l j).2.1-mH (gt Rd.l (k-1)).2.1<_;omega
   .rw [jR,if_neg (by omega)];have x1:=zA hV hI hRd hRl j1 hjR;unfold oQ mb at x1;rwa[decide_eq_false_iff_not]at x1
 have hb:b.l=[((4,(k:Int),0):ao)]:=by rw[b2];unfold Ci;simp only[aK.jx,aK.fS,aK.CB,Sl.iN];have hrn:=Db hR2 hO hN;rw[dM]at hrn|-;rw[I1 hR2 (fun s hs=>hN.1.dj hs),Gr hR2 hN.1.len,hmid,hc,hrn];rfl
 have b1':fT t old now (Sl.mk (ck t old now),Sl.mk (Rd.l.set k (aj.No (gt Rd.l k),aj.At (gt Rd.l (k-1)),aj.SQ (gt Rd.l k))),ms',life,fr,to_)=some b:=b1;have y1:((b.l.length:Int)==1)=true:=by rw[hb];rfl
 have y2:ff 0 b.l.length=some 0:=bp (i:=0) (by rw[hb];simp);have y3:gt b.l 0=((4,(k:Int),0):ao):=by rw[hb];rfl
 simp only[c5,decide_eq_false c4,mj,cond_false,u1,u2,u3,bp (show k-1<Rd.l.length by omega),bp hkR,af,b1',y1,y2,cond_true];simp only[y3,decide_true,cond_true,gf,af]
end
end Go.Proofs.YthcplpfiidlinaaDoor.J
