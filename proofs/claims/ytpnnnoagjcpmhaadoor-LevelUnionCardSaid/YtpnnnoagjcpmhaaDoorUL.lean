/- LevelUnion: the ports that a packet may meet while a round is done. Conditions: as stated. -/
import Derived.Test.YtpnnnoagjcpmhaaDoorUP
import Derived.Test.YtpnnnoagjcpmhaaDoorUC
import Derived.Test.YtpnnnoagjcpmhaaDoorUt
open Bool renaming and_eq_true->af,not_false->dG,not_true->cg
open List renaming drop_eq_getElem_cons->eT,drop_length->fm,drop_zero->cA,flatMap_cons->bf,length_append->aG,length_map->aI,length_singleton->bK,mem_flatMap->bT,mem_singleton->am,range'->kX
open Nat renaming blt->gH,blt_eq->gr,le_refl->ao
open Option renaming bind_some->ae
open Go.Ev Go
namespace Go.Proofs.YtpnnnoagjcpmhaaDoor.U
theorem MC{α:Type}(l:List α)(x y:α):(l++[x]).set l.length y=l++[y]:=by rw[List.set_append_right _ _ (ao _)];simp
theorem IF{A:List (Sl Int)}{h:Nat}(hrow:∀s,s<A.length->h<(gt A s).l.length)(hn:A.length<=1000000):
  ∀(n i:Nat)(S:Sl (Sl Int)),i+n=A.length->S.l=(A.take i).map (fun r=>Sl.mk [gt r.l h])->∃S',bL (jJ (h:Int) (.mk A)) ((i:Int),S)=some S'/\S'.l=A.map fun r=>Sl.mk [gt r.l h]:=by
 intro n;induction n with
 |zero=>
  intro i S hi hS;obtain rfl:i=A.length:=by omega
  have hlt:decide ((A.length:Int)<((Sl.mk A).l.length:Int))=false:=lI;exact⟨S,cS (by simp only[jJ,hlt,cond_false]),by rw[hS,List.take_length]⟩
 |succ n ih=>
  intro i S hi hS;have hil:i<A.length:=by omega
  have hlt:decide ((i:Int)<((Sl.mk A).l.length:Int))=true:=j4 hil;have hl:S.l.length=i:=by rw[hS,aI,List.length_take];omega
  obtain⟨S',h1,h2⟩:=ih (i+1) (Sl.mk (S.l++[Sl.mk [gt (gt A i).l h]])) (by omega) (by show S.l++_=_;rw[List.take_add_one,List.getElem?_eq_getElem hil,List.map_append,hS,eu hil];rfl);refine⟨S',(dV ?_).trans h1,h2⟩;simp only[jJ,hlt,cond_true];simp only[Sl.m8,bP hil,ae,bP (hrow i hil),jt (show(S.l++[Sl.mk [gt (gt A i).l h]]).length<=2147483648 by rw[aG,hl,bK];omega),MC,oE (show i<9223372036854775807 by omega)]
def zV(round:Int)(h:Nat)(n:Nat)(m:ap):Bool:=(((m.2.2.2==round)&&(m.2.1==(h:Int)))&&decide (m.1>=0))&&decide (m.1<(n:Int))
def uD(round:Int)(h:Nat)(P:List (Sl Int))(m:ap):List (Sl Int):=bif zV round h P.length m then P.set m.1.toNat (.mk ((gt P m.1.toNat).l++[m.2.2.1]))else P
theorem xx{round:Int}{h:Nat}{P:List (Sl Int)}{m:ap}:(uD round h P m).length=P.length:=by unfold uD;cases zV round h P.length m<;>simp
def KS(round:Int)(h s:Nat)(m:ap):Bool:=decide (m.2.2.2=round/\m.2.1=(h:Int)/\m.1=(s:Int))
theorem FB{round:Int}{h s:Nat}{P:List (Sl Int)}{m:ap}(hs:s<P.length):(gt (uD round h P m) s).l=(gt P s).l++(bif KS round h s m then[m.2.2.1]else[]):=by
 unfold uD KS;by_cases hc:m.2.2.2=round/\m.2.1=(h:Int)/\m.1=(s:Int)
 .rw [decide_eq_true hc,cond_true];obtain⟨h1,h2,h3⟩:=hc;have:zV round h P.length m=true:=by unfold zV;rw[h1,h2,h3,beq_self_eq_true,beq_self_eq_true,decide_eq_true (show(s:Int)>=0 by omega),decide_eq_true (show(s:Int)<(P.length:Int)by omega)];rfl
  rw[this,cond_true,mb,if_pos ⟨by omega,hs⟩,Sl.m8];have e:m.1.toNat=s:=by omega
  rw[e]
 .rw [decide_eq_false hc,cond_false,List.append_nil];cases hh:zV round h P.length m with|false=>rfl|true=>unfold zV at hh;simp only[af,beq_iff_eq,decide_eq_true_eq]at hh;rw[cond_true,mb,if_neg fun q=>hc ⟨hh.1.1.1,hh.1.1.2,by omega⟩]
theorem KC{ms:Sl ap}{round:Int}{h:Nat}(hm:ms.l.length<=1000000):
  ∀(n j:Nat)(S:Sl (Sl Int)),j+n=ms.l.length->(∀s,s<S.l.length->(gt S.l s).l.length+n<=2000000)->
   ∃S',bL (iL ms round (h:Int)) ((j:Int),S)=some S'/\S'.l=(ms.l.drop j).foldl (uD round h) S.l:=by
 intro n;induction n with
 |zero=>
  intro j S hj hr;obtain rfl:j=ms.l.length:=by omega
  exact⟨S,cS (by simp only[iL,lI,cond_false]),by rw[fm];rfl⟩
 |succ n ih=>
  intro j S hj hr;have hjl:j<ms.l.length:=by omega
  have e:ms.l.drop j=gt ms.l j::ms.l.drop (j+1):=by rw[eu hjl];exact eT hjl
  have hrow:∀(X:Sl (Sl Int)),X.l=uD round h S.l (gt ms.l j)->∀s,s<X.l.length->(gt X.l s).l.length+n<=2000000:=by
   intro X hX s hs;rw[hX,xx]at hs;have:=hr s hs;rw[hX,FB hs,aG];have:(bif KS round h s (gt ms.l j)then[(gt ms.l j).2.2.1]else[]).length<=1:=by cases KS round h s (gt ms.l j)<;>simp
   omega
  rw[e,List.foldl_cons];have hc:(((((ap.uZ (gt ms.l j))==round)&&((ap.uG (gt ms.l j))==(h:Int)))&&(decide ((ap.Sw (gt ms.l j))>=0)))&&(decide ((ap.Sw (gt ms.l j))<(S.l.length:Int))))=zV round h S.l.length (gt ms.l j):=rfl;cases hh:zV round h S.l.length (gt ms.l j)with
  |false=>
   have ha:uD round h S.l (gt ms.l j)=S.l:=by unfold uD;rw[hh,cond_false]
   obtain⟨S',h1,h2⟩:=ih (j+1) S (by omega) (hrow S ha.symm);refine⟨S',(dV ?_).trans h1,by rw[h2,ha]⟩;simp only[iL,j4 hjl,cond_true,bP hjl,ae];rw[hc,hh];simp only[cond_false,ae,oE (show j<9223372036854775807 by omega)]
  |true=>
   have ha:uD round h S.l (gt ms.l j)=S.l.set (gt ms.l j).1.toNat (.mk ((gt S.l (gt ms.l j).1.toNat).l++[(gt ms.l j).2.2.1])):=by unfold uD;rw[hh,cond_true]
   obtain⟨S',h1,h2⟩:=ih (j+1) (.mk (uD round h S.l (gt ms.l j))) (by omega) (hrow _ rfl);refine⟨S',(dV ?_).trans h1,h2⟩;have hb:=hh;unfold zV at hb;simp only[af,beq_iff_eq,decide_eq_true_eq]at hb;obtain⟨⟨⟨b1,b2⟩,b3⟩,b4⟩:=hb;have s1:(gt ms.l j).1.toNat<S.l.length:=by omega
   have i1:fD (ap.Sw (gt ms.l j)) S.l.length=some (gt ms.l j).1.toNat:=gV.2 ⟨by show(gt ms.l j).1=_;omega,s1⟩;have hcap:((gt S.l (gt ms.l j).1.toNat).l++[ap.mN (gt ms.l j)]).length<=2147483648:=by have:=hr _ s1;rw[aG,bK];omega
   simp only[iL,j4 hjl,cond_true,bP hjl,ae];rw[hc,hh];simp only[cond_true,i1,ae,jt hcap,Nat.beq_refl,oE (show j<9223372036854775807 by omega),ha]
theorem JE{round:Int}{h:Nat}:∀(ms:List ap)(P:List (Sl Int)),(ms.foldl (uD round h) P).length=P.length:=by intro ms;induction ms with|nil=>intro P;rfl|cons m ms ih=>intro P;rw[List.foldl_cons,ih,xx]
theorem L6{round:Int}{h s:Nat}:∀(ms:List ap)(P:List (Sl Int)),s<P.length->(gt (ms.foldl (uD round h) P) s).l=(gt P s).l++(ms.filter (KS round h s)).map (fun m=>m.2.2.1):=by intro ms;induction ms with|nil=>intro P _;simp|cons m ms ih=>intro P hs;rw[List.foldl_cons,ih _ (by rw[xx];exact hs),FB hs,List.filter_cons];cases KS round h s m<;>simp
theorem Lo(s:Sl Int)(hl:s.l.length<=1000):∃a b:Sl Int,ny pJ s=some a/\su a s=some ()/\Ce pw a=some b/\b.l.length<=s.l.length/\∀x,x∈b.l<->x∈s.l:=by
 have hsz:(pJ s.l.toArray).toList.length=s.l.length:=by simp[pJ]
 have htl:(s.to (pJ s.l.toArray).toList).l=s.l.mergeSort MV:=by cases s with|nil=>exact List.mergeSort_nil.symm|mk l=>rfl
 have hfin:((s.to (pJ s.l.toArray).toList).to (pw (s.l.mergeSort MV))).l=pw (s.l.mergeSort MV):=by cases s with|nil=>show[]=pw ([].mergeSort MV);rw[List.mergeSort_nil];rfl|mk l=>rfl
 refine⟨s.to (pJ s.l.toArray).toList,(s.to (pJ s.l.toArray).toList).to (pw (s.l.mergeSort MV)),?_,?_,?_,?_,fun x=>?_⟩
 .unfold ny;rw[show gH s.l.length 4611686018427387904=true by rw[gr];omega];rfl
 .cases s with|nil=>rfl|mk l=>have hsz:(pJ l.toArray).toList.length=l.length:=hsz;show DM (pJ l.toArray).toList l=some ();unfold DM;rw[if_pos hsz]
 .unfold Ce;rw[htl,show gH (s.l.mergeSort MV).length 4611686018427387904=true by rw[gr,List.length_mergeSort];omega];rfl
 .rw [hfin];have:=Lib.compact_length_le (s.l.mergeSort MV);rw[List.length_mergeSort]at this;exact this
 .rw [hfin,J_];exact List.mem_mergeSort
theorem HS{n:Nat}{R:Nat->Sl Int->Prop}(hR:∀i a b,R i a->b.l.length<=a.l.length->(∀x,x∈b.l<->x∈a.l)->R i b){s0:Sl (Sl Int)}(h0:s0.l.length=n)(hn:n<=1000000):
  ∀(k i:Nat)(S:Sl (Sl Int)),i+k=n->S.l.length=n->(∀j,j<n->R j (gt S.l j)/\(gt S.l j).l.length<=1000)->∃S',bL (jI s0) ((i:Int),S)=some S'/\S'.l.length=n/\∀j,j<n->R j (gt S'.l j):=by
 intro k;induction k with
 |zero=>
  intro i S hi hS hj;have hlt:decide ((i:Int)<(s0.l.length:Int))=false:=by rw[decide_eq_false_iff_not];omega
  exact⟨S,cS (by simp only[jI,hlt,cond_false]),hS,fun j h=>(hj j h).1⟩
 |succ k ih=>
  intro i S hi hS hj;have hil:i<S.l.length:=by omega
  have hlt:decide ((i:Int)<(s0.l.length:Int))=true:=by rw[decide_eq_true_eq];omega
  obtain⟨hRi,hli⟩:=hj i (by omega);obtain⟨a,b,h1,h2,h3,h4,h5⟩:=Lo (gt S.l i) hli
  obtain⟨S',g1,g2,g3⟩:=ih (i+1) (.mk ((S.l.set i a).set i b)) (by omega) (by simp[hS]) (fun j hjn=>by
   show R j (gt ((S.l.set i a).set i b) j)/\(gt ((S.l.set i a).set i b) j).l.length<=1000;rw[List.set_set,mb];split
   .rename_i hc;obtain⟨rfl,_⟩:=hc;exact⟨hR _ _ _ hRi h4 h5,by omega⟩
   .exact hj j hjn)
  refine⟨S',(dV ?_).trans g1,g2,g3⟩;have e1:i<(S.l.set i a).length:=by rw[List.length_set];exact hil
  have e2:gt (S.l.set i a) i=a:=by rw[mb,if_pos ⟨rfl,hil⟩]
  simp only[jI,hlt,cond_true,bP hil,ae,h1,h2,bP e1,e2,h3,Nat.beq_refl,oE (show i<9223372036854775807 by omega)]
section
variable{t:ah}{old now:Sl (Sl Int)}{round:Int}{h:Nat}
def RW(t:ah)(old now:Sl (Sl Int))(round:Int)(h s:Nat)(x:Int):Prop:=(x=cK old h s/\round<=(ei t now h s:Int))\/(x=cK now h s/\(ei t now h s:Int)<=round)
def P7(t:ah)(old now:Sl (Sl Int))(round:Int)(h s:Nat)(r:Sl Int):Prop:=r.l.length<=2/\∀x∈r.l,RW t old now round h s x
theorem IL:(u_ t old now).Nodup:=(vQ _).nodup_iff.2 Gw
theorem Gt{α:Type}{l:List α}{a:α}(hn:l.Nodup)(h:∀x∈l,x=a):l.length<=1:=by
 match l,hn,h with|[],_,_=>exact Nat.zero_le _|[_],_,_=>exact ao _|x::y::r,hn,h=>exfalso;have h1:=h x (by simp);have h2:=h y (by simp);simp[h1,h2]at hn
theorem FG(hO:gk t old)(hN:gk t now)(hh:h<t.aR.l.length){l:Sl ap}(hl:l.l=u_ t old now):
  ∃u,oz t old l round (h:Int)=some u/\u.l.length=old.l.length/\∀s,s<old.l.length->P7 t old now round h s (gt u.l s):=by
 have h8:=hO.1.o5;have h64:=IM (old:=old) hN;have hlen:=qJ hO hN;have d1:lY old l round Sl.nil=some (ud t old now round []):=G6 (round:=round) hO hN hl (so:=.nil) (by show(0:Nat)<_;omega);have hA:(ud t old now round []).l.length=old.l.length:=by show(oC round [] _ _).length=_;rw[w_]
 obtain⟨A,hAe⟩:∃A,ud t old now round []=.mk A:=⟨_,rfl⟩
 have hport:∀s,cK (ud t old now round []) h s=gt (gt A s).l h:=fun s=>by rw[hAe];rfl
 rw[hAe]at d1 hA;have hA:A.length=old.l.length:=hA;have hrow:∀s,s<A.length->h<(gt A s).l.length:=fun s hs=>by have hm:=GE (round:=round) (so:=[]) hO hN;rw[hAe]at hm;have:=hm.cC (s:=s) hs;have:(gt A s).l.length=t.aR.l.length:=this;omega
 obtain⟨S1,e1,e2⟩:=IF hrow (by omega) A.length 0 .nil (by omega) rfl;have n1:S1.l.length=A.length:=by rw[e2,aI]
 have r1:∀s,s<A.length->(gt S1.l s).l=[gt (gt A s).l h]:=fun s hs=>by rw[e2,eu (by rw[aI];exact hs),List.getElem_map,eu hs];rfl
 obtain⟨S2,f1,f2⟩:=KC (ms:=l) (round:=round) (h:=h) (by rw[hl];omega) l.l.length 0 S1 (by omega) (fun s hs=>by rw[r1 s (by omega),hl];simp;omega);rw[cA]at f2;have n2:S2.l.length=A.length:=by rw[f2,JE,n1]
 have r2:∀s,s<A.length->P7 t old now round h s (gt S2.l s):=fun s hs=>by
  have hsn:s<now.l.length:=by omega
  have e:(gt S2.l s).l=[gt (gt A s).l h]++(l.l.filter (KS round h s)).map (fun m=>m.2.2.1):=by rw[f2,L6 _ _ (by omega),r1 s hs]
  have hf:∀m∈l.l.filter (KS round h s),m=((s:Int),(h:Int),cK now h s,(ei t now h s:Int))/\(ei t now h s:Int)=round:=fun m hm=>by obtain⟨m1,m2⟩:=List.mem_filter.1 hm;unfold KS at m2;rw[decide_eq_true_eq]at m2;obtain⟨q1,q2,q3⟩:=m2;rw[hl]at m1;have:=(PF m1 q3 q2).1;exact⟨this,by rw[this]at q1;exact q1⟩
  have hlen1:(l.l.filter (KS round h s)).length<=1:=Gt (by rw[hl];exact List.Pairwise.filter _ IL) fun m hm=>(hf m hm).1;refine⟨by rw[e,aG,aI];simp;omega,fun x hx=>?_⟩;rw[e]at hx;rcases List.mem_append.1 hx with hx|hx
  .obtain rfl:=am.1 hx;obtain⟨m1,m2⟩:=yG (round:=round) (so:=[]) hO hN (s:=s) (by omega) hh;by_cases hd:(ei t now h s:Int)<round
   .exact .inr ⟨by rw[<-hport,m1 (.inl hd)],by omega⟩
   .exact .inl ⟨by rw[<-hport,m2 fun q=>q.elim hd fun q=>by simp at q],by omega⟩
  .obtain ⟨m,hm,rfl⟩:=List.mem_map.1 hx;obtain⟨q1,q2⟩:=hf m hm;exact .inr ⟨by rw[q1],by omega⟩
 obtain⟨S3,g1,g2,g3⟩:=HS (n:=A.length) (R:=P7 t old now round h) (fun i a b ha hb hx=>⟨Nat.le_trans hb ha.1,fun x hxb=>ha.2 x ((hx x).1 hxb)⟩) (s0:=S2) n2 (by omega) A.length 0 S2 (by omega) n2 (fun j hj=>⟨r2 j hj,by have:=(r2 j hj).1;omega⟩);refine⟨S3,?_,by omega,fun s hs=>g3 s (by omega)⟩;have hc:((!true||decide ((h:Int)<0))||decide ((h:Int)>=(((ah.aR t).l).length:Int)))=false:=Fk hh;simp only[oz,pM hO.1,ae,hc,cond_false,d1];have e1:bL (jJ (h:Int) (.mk A)) (0,Sl.nil)=some S1:=e1;have f1:bL (iL l round (h:Int)) (0,S1)=some S2:=f1;have g1:bL (jI S2) (0,S2)=some S3:=g1;simp only[e1,f1,g1,ae]
theorem IX(hO:gk t old)(hN:gk t now)(hh:h<t.aR.l.length){s:Nat}(hs:s<old.l.length){x:Int}(hx:RW t old now round h s x):Fb t h (s:Int) x=false:=by
 have:=qJ hO hN;rcases hx with⟨rfl,_⟩|⟨rfl,_⟩
 .exact yK hO hh hs
 .exact yK hN hh (by omega)
theorem G4(hO:gk t old)(hN:gk t now)(hh:h<t.aR.l.length){u:Sl (Sl Int)}{s:Nat}(hs:s<u.l.length)(hso:s<old.l.length)(hR:P7 t old now round h s (gt u.l s)):
  ∀(n k:Nat)(S:Sl bc),k+n=(gt u.l s).l.length->S.l.length+n<=1000000->∃S',bL (fC t (h:Int) u (s:Int)) ((k:Int),S)=some (.inr S')/\S'.l=S.l++((gt u.l s).l.drop k).flatMap (nQ t (s:Int)):=by
 have h3:=hO.1.rZ.BK;have hb:t.aW.l.length<9223372036854775808:=by omega
 intro n;induction n with
 |zero=>
  intro k S hk _;obtain rfl:k=(gt u.l s).l.length:=by omega
  exact⟨S,cS (by simp only[fC,bP hs,ae,lI,cond_false]),by rw[fm];simp⟩
 |succ n ih=>
  intro k S hk hS;have hkl:k<(gt u.l s).l.length:=by omega
  have e:(gt u.l s).l.drop k=gt (gt u.l s).l k::(gt u.l s).l.drop (k+1):=by rw[eu hkl];exact eT hkl
  have hmay:=hR.2 (gt (gt u.l s).l k) (Kv hkl);have hhole:=IX hO hN hh hso hmay;have h2:decide (((gt u.l s).l.length:Int)>2)=false:=by rw[decide_eq_false_iff_not];have:=hR.1;omega
  have hp:=sN (t:=t) (s:Int) (gt (gt u.l s).l k) hb;unfold Fb at hhole;generalize hq:kV t (s:Int) (gt (gt u.l s).l k)=q at hp hhole;obtain⟨a,b,c,d⟩:=q;rw[e,bf];cases d with
  |false=>
   have he:nQ t (s:Int) (gt (gt u.l s).l k)=[]:=by unfold nQ;rw[hq];rfl
   have hd:gt t.aR.l h=(((s:Int),gt (gt u.l s).l k):dl):=by simpa using hhole
   have q1:((dl.At (gt (ah.aR t).l h)) !=(s:Int))=false:=by rw[show gt (ah.aR t).l h=_ from hd];simp
   have q2:((dl.mN (gt (ah.aR t).l h)) !=gt (gt u.l s).l k)=false:=by rw[show gt (ah.aR t).l h=_ from hd];simp
   obtain⟨S',g1,g2⟩:=ih (k+1) S (by omega) (by omega);refine⟨S',(dV ?_).trans g1,by rw[g2,he];rfl⟩;simp only[fC,bP hs,ae,j4 hkl,cond_true,bP hkl,hp,dG,bP (show h<(ah.aR t).l.length from hh),q1,q2,cond_false,h2,oE (show k<9223372036854775807 by have:=hR.1;omega)]
  |true=>
   have he:nQ t (s:Int) (gt (gt u.l s).l k)=[((s:Int),a)]:=by unfold nQ;rw[hq];rfl
   obtain⟨S',g1,g2⟩:=ih (k+1) (.mk (S.l++[((s:Int),a)])) (by omega) (by simp;omega);refine⟨S',(dV ?_).trans g1,by rw[g2,he];simp⟩;simp only[fC,bP hs,ae,j4 hkl,cond_true,bP hkl,hp,cg,cond_false,h2,jt (show(S.l++[(((s:Int),a):bc)]).length<=2147483648 by simp;omega),oE (show k<9223372036854775807 by have:=hR.1;omega)]
theorem G5(hO:gk t old)(hN:gk t now)(hh:h<t.aR.l.length){u:Sl (Sl Int)}(hu:u.l.length=old.l.length)(hR:∀s,s<old.l.length->P7 t old now round h s (gt u.l s)):
  ∀(n s:Nat)(S:Sl bc),s+n=u.l.length->S.l.length+2*n<=1000000->∃S',bL (gw t (h:Int) u) ((s:Int),S)=some (.inr S')/\S'.l=S.l++(kX s n).flatMap fun(s:Nat)=>(gt u.l s).l.flatMap (nQ t (s:Int)):=by
 have h8:=hO.1.o5;intro n;induction n with
 |zero=>
  intro s S hs _;obtain rfl:s=u.l.length:=by omega
  exact⟨S,cS (by simp only[gw,lI,cond_false]),by simp⟩
 |succ n ih=>
  intro s S hs hS;have hsl:s<u.l.length:=by omega
  have hr:=hR s (by omega);obtain⟨S1,e1,e2⟩:=G4 hO hN hh hsl (by omega) hr (gt u.l s).l.length 0 S (by omega) (by have:=hr.1;omega);rw[cA]at e2;have hle:((gt u.l s).l.flatMap (nQ t (s:Int))).length<=2:=by have:=jR (m:=1) (f:=nQ t (s:Int)) (fun x=>by unfold nQ;cases(kV t (s:Int) x).2.2.2<;>simp) (gt u.l s).l;have:=hr.1;omega
  obtain⟨S',g1,g2⟩:=ih (s+1) S1 (by omega) (by rw[e2,aG];omega);refine⟨S',(dV ?_).trans g1,by rw[g2,e2,List.range'_succ,bf,List.append_assoc]⟩;have e1:bL (fC t (h:Int) u (s:Int)) (0,S)=some (.inr S1):=e1;simp only[gw,j4 hsl,cond_true,e1,ae,oE (show s<9223372036854775807 by omega)]
theorem FH(t:ah)(old now:Sl (Sl Int))(round hi:Int)(ho:old.l.length<9223372036854775808)(hn:now.l.length<9223372036854775808):lZ t old now round hi=some true:=by
 unfold lZ;rw[vT ho];by_cases hS1:rS t old
 rotate_left
 .rw [decide_eq_false hS1];simp only[ae,dG,cond_true,gP]
 rw[decide_eq_true hS1,vT hn];by_cases hS2:rS t now
 rotate_left
 .rw [decide_eq_false hS2];simp only[ae,cg,cond_false,dG,cond_true,gP]
 rw[decide_eq_true hS2,uQ hS1,uQ hS2];by_cases hO:gk t old
 rotate_left
 .rw [zm hO];simp only[ae,cg,cond_false,dG,cond_true,gP]
 by_cases hN:gk t now
 rotate_left
 .rw [CQ hO,zm hN];simp only[ae,cg,cond_false,dG,Bool.true_or,cond_true,gP]
 rw[CQ hO,CQ hN];by_cases hh:((!true||decide (hi<0))||decide (hi>=(((ah.aR t).l).length:Int)))=true
 .simp only[ae,cg,cond_false]at hh|-;rw[hh];simp only[cond_true,gP,ae]
 rw[Bool.not_eq_true]at hh;obtain⟨h,rfl,hhl⟩:∃h:Nat,hi=(h:Int)/\h<t.aR.l.length:=by simp only[cg,Bool.false_or,Bool.or_eq_false_iff,decide_eq_false_iff_not]at hh;obtain⟨a,b⟩:=hh;have b:¬hi>=(t.aR.l.length:Int):=b;exact⟨hi.toNat,by omega,by omega⟩
 obtain⟨l,h1,h2⟩:=Gy hO hN;obtain⟨u,u1,u2,u3⟩:=FG (round:=round) hO hN hhl (l:=l) h2;have h8:=hO.1.o5;have hlen:=qJ hO hN;have hsw:=hO.1.len;obtain⟨S,e1,e2⟩:=G5 hO hN hhl u2 u3 u.l.length 0 .nil (by omega) (by show 0+_<=_;omega);have e1:bL (gw t (h:Int) u) (0,Sl.nil)=some (.inr S):=e1;have e2:S.l=(kX 0 u.l.length).flatMap fun(s:Nat)=>(gt u.l s).l.flatMap (nQ t (s:Int)):=by rw[e2];rfl
 -- each edge leads from a switch to a nearer one
 have hE:∀e∈S.l,∃s:Nat,s<old.l.length/\e.1=(s:Int)/\∃x b c,RW t old now round h s x/\kV t (s:Int) x=(e.2,b,c,true):=by
  intro e he;rw[e2]at he;obtain⟨s,q1,q2⟩:=bT.1 he;obtain⟨x,q3,q4⟩:=bT.1 q2;rw[List.mem_range'_1]at q1;have hs:s<old.l.length:=by omega
  unfold nQ at q4;generalize hq:kV t (s:Int) x=q at q4;obtain⟨a,b,c,d⟩:=q;cases d with|false=>cases q4|true=>obtain rfl:=am.1 q4;exact⟨s,hs,rfl,x,b,c,(u3 s hs).2 x q3,hq⟩
 have hnr:¬Qg old.l.length S.l:=LN (f:=fun s=>if(ei t now h s:Int)<round then ei t now h s else 8+ei t old h s) (fun i j he=>by
  obtain⟨e,he,g1,g2⟩:=he;obtain⟨s,hs,q1,x,b,c,hm,hq⟩:=hE e he;have g1:e.1=(i:Int):=g1;have g2:e.2=(j:Int):=g2;obtain rfl:s=i:=by omega
  rcases hm with⟨rfl,hd⟩|⟨rfl,hd⟩
  .obtain ⟨s',k1,k2,k3⟩:=rj hO hhl hs hq;obtain rfl:s'=j:=by omega
   have hl:=hN.lt (h:=h) (s:=s') (by omega) hhl;rw[if_neg (by omega:¬(ei t now h s:Int)<round)];split<;>omega
  .obtain ⟨s',k1,k2,k3⟩:=rj hN hhl (show s<now.l.length by omega) hq;obtain rfl:s'=j:=by omega
   have hl:=hN.lt (h:=h) (s:=s) (by omega) hhl;rw[if_pos (by omega:(ei t now h s':Int)<round)];split<;>omega) _
 have hF:xz (old.l.length:Nat) S.l:=⟨by omega,fun e he=>by
  obtain⟨s,hs,q1,x,b,c,hm,hq⟩:=hE e he;have q1:e.tK=(s:Int):=q1;refine⟨by omega,?_⟩;rcases hm with⟨rfl,_⟩|⟨rfl,_⟩
  .obtain ⟨s',k1,k2,k3⟩:=rj hO hhl hs hq;have k1:e.To=(s':Int):=k1;omega
  .obtain ⟨s',k1,k2,k3⟩:=rj hN hhl (show s<now.l.length by omega) hq;have k1:e.To=(s':Int):=k1;omega⟩
 have hSl:S.l.length<1000000:=by
  have:=jR (m:=2) (f:=fun(s:Nat)=>bif gH s old.l.length then(gt u.l s).l.flatMap (nQ t (s:Int))else[]) (fun s=>by
   cases hb:gH s old.l.length with
   |false=>simp
   |true=>
    have hs:s<old.l.length:=by simpa using hb
    have:=jR (m:=1) (f:=nQ t (s:Int)) (fun x=>by unfold nQ;cases(kV t (s:Int) x).2.2.2<;>simp) (gt u.l s).l;have:=(u3 s hs).1;rw[cond_true];omega) (kX 0 u.l.length)
  have e3:S.l=(kX 0 u.l.length).flatMap fun(s:Nat)=>bif gH s old.l.length then(gt u.l s).l.flatMap (nQ t (s:Int))else[]:=by rw[e2];rw[List.flatMap_def,List.flatMap_def];congr 1;refine List.map_congr_left fun s hs=>?_;rw[List.mem_range'_1]at hs;rw[show gH s old.l.length=true by rw[gr];omega];rfl
  rw[e3];rw[List.length_range']at this;omega
 obtain⟨s,b,o1,o2⟩:=Gg hSl hF;have hb:b=true:=by cases b with|true=>rfl|false=>exact absurd (o2.1 rfl) hnr
 subst hb;have o1:iT (ah.bF t) S=some (s,true):=by rw[show ah.bF t=(old.l.length:Int)from hsw.symm];exact o1
 have n1:((u.l.length:Int) !=(ah.bF t))=false:=by rw[bne_eq_false_iff_eq,u2];exact hsw
 simp only[ae,cg,cond_false]at hh|-;rw[hh];simp only[cond_false,h1,ae,u1,n1,e1,o1,cond_true,gP]
end
end Go.Proofs.YtpnnnoagjcpmhaaDoor.U
