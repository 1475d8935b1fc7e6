/- Findings: what Check notes, as lists. Conditions: lengths as stated. -/
import Derived.Test.YthcplpfiidlinaaDoorJK
import Derived.Test.YthcplpfiidlinaaDoorJB
open Go.Ev Go
noncomputable section
open Bool renaming not_false->fg,not_true->cF
open List renaming append_assoc->aJ,drop_zero->cq,flatMap_cons->bl,length_append->aF,length_range'->iI,mem_flatMap->da,range->bi,range'->dX,replicate->av
open Nat renaming zero_le->cI
open Option renaming bind_some->ae
namespace Go.Proofs.YthcplpfiidlinaaDoor.J
def xH(t:ah)(P:List (Sl Int)):Bool:=tt (PH t.bh.toNat (rR t P 0 P.length))
def sW(t:ah)(k h:Nat)(P:List (Sl Int)):List ap:=(bif mP t h P 0 P.length then[(5,(k:Int),(h:Int))]else[])++(bif xH t P then[(6,(k:Int),(h:Int))]else[])
theorem JA{P:List (Sl Int)}{s:Nat}(h:¬s<P.length):gt P s=(default:Sl Int):=Es (by omega)
theorem Ip{P:List (Sl Int)}{m:Nat}(h:∀s,s<P.length->(gt P s).l.length<=m)(s:Nat):(gt P s).l.length<=m:=by
 by_cases hs:s<P.length
 .exact h s hs
 .rw [JA hs];exact cI _
theorem Hn{t:ah}{P:List (Sl Int)}{m n:Nat}(h:∀s,s<P.length->(gt P s).l.length<=m):(rR t P 0 n).length<=m*n:=by have:=j5 (m:=m) (f:=fun s:Nat=>(gt P s).l.flatMap (qm t (s:Int))) (fun s=>by have:=j5 (m:=1) (f:=qm t (s:Int)) (fun p=>CK) (gt P s).l;have:=Ip h s;omega) (dX 0 n);rw[iI]at this;exact this
theorem Ho{t:ah}(hV:mn t){P:List (Sl Int)}(hP:(P.length:Int)=t.bh):wy (t.bh.toNat:Int) (rR t P 0 P.length):=by
 have hs:=hV.sw;refine⟨by omega,fun e he=>?_⟩;obtain⟨s,h1,h2⟩:=da.1 he;obtain⟨p,_,h3⟩:=da.1 h2;rw[List.mem_range'_1]at h1;unfold qm at h3;cases hk:(jA t (s:Int) p).2.2.2 with
 |false=>rw[hk]at h3;cases h3
 |true=>
  rw[hk,cond_true,List.mem_singleton]at h3;subst h3;unfold jA at hk;have hto:0<=(jA t (s:Int) p).1/\(jA t (s:Int) p).1<t.bh:=by unfold jA;cases hc:kw (nh (s:Int) p) t.bT.l 0 with|none=>rw[hc]at hk;cases hk|some q=>obtain⟨a,b,c⟩:=q;exact Fo hV hc
  show((0:Int)<=(s:Int)/\(s:Int)<_)/\0<=(jA t (s:Int) p).1/\(jA t (s:Int) p).1<_;omega
section
variable{t:ah}{old now:Sl (Sl Int)}{mv:Sl af}{rd R:Sl aj}{a b c d:Int}{dO:Sl ap}
theorem IN{k:Bool}{x y z:Int}:(py dO k x y z).l.length<=dO.l.length+1:=by rw[qK];cases k<;>simp
theorem Jx(hV:mn t){P:List (Sl Int)}{k h:Nat}(hP:(P.length:Int)=t.bh)(hr:∀s,s<P.length->(gt P s).l.length<=1000)(hh:h<t.a_.l.length)(ho:dO.l.length<1000000000):
  ∃out',gN t old now mv rd a b c d dO (.mk P) (k:Int) (h:Int)=some (t,old,now,mv,rd,a,b,c,d,out')/\out'.l=dO.l++sW t k h P:=by
 have hs:=hV.sw;have hlk:=hV.FD;have hPl:P.length<=8:=by omega
 obtain⟨es,e1,e2⟩:=Ep (t:=t) (P:=.mk P) (h:=h) (by omega) hh hr (show P.length<=1000 by omega) P.length 0 false .nil (Nat.zero_add _) (by simp;omega);have e1:br (fc t (.mk P) (h:Int)) (false,0,Sl.nil)=some (false||mP t h P 0 P.length,es):=e1;have e2:es.l=rR t P 0 P.length:=e2;have hel:=Hn (t:=t) (P:=P) (n:=P.length) hr;have hF:wy (t.bh.toNat:Int) es.l:=by rw[e2];exact Ho hV hP
 obtain⟨s,ok,g1,g2⟩:=GD (l:=es) (by rw[e2];omega) hF;have hsw:((t.bh.toNat:Nat):Int)=t.bh:=by omega
 rw[hsw]at g1;have g1:ig (ah.bh t) es=some (s,ok):=g1;have hok:(!ok)=xH t P:=by unfold xH;rw[Bool.eq_iff_iff,Bool.not_eq_true',wB,<-e2];exact g2
 have f1:bG t old now mv rd a b c d dO (mP t h P 0 P.length) 5 (k:Int) (h:Int)=_:=nz (by omega);have hl:=IN (dO:=dO) (k:=mP t h P 0 P.length) (x:=5) (y:=(k:Int)) (z:=(h:Int));have f2:bG t old now mv rd a b c d (py dO (mP t h P 0 P.length) 5 (k:Int) (h:Int)) (xH t P) 6 (k:Int) (h:Int)=_:=nz (by omega);refine⟨py (py dO (mP t h P 0 P.length) 5 (k:Int) (h:Int)) (xH t P) 6 (k:Int) (h:Int),?_,?_⟩
 .simp only[gN,e1,ae,Bool.false_or,g1,hok,f1,f2]
 .rw [qK,qK,aJ];rfl
def kj(t:ah)(r:aj)(h:Nat)(mv:List af)(A:List (Sl Int)):List (Sl Int):=tH t r h mv ((bi A.length).map fun s=>Sl.mk [gt (gt A s).l h])
theorem Gu{r:aj}{h:Nat}:∀(mv:List af)(P:List (Sl Int)),(tH t r h mv P).length=P.length:=by intro mv;induction mv with|nil=>intro P;rfl|cons m mv ih=>intro P;exact(ih _).trans r_
theorem Gt{r:aj}{h:Nat}(s:Nat):∀(mv:List af)(P:List (Sl Int)),(gt (tH t r h mv P) s).l.length<=(gt P s).l.length+mv.length:=by intro mv;induction mv with|nil=>intro P;exact Nat.le_refl _|cons m mv ih=>intro P;have h1:=ih (vN t r h P m);have h2:=C7 (t:=t) (r:=r) (h:=h) (P:=P) (m:=m) s;have e:tH t r h (m::mv) P=tH t r h mv (vN t r h P m):=rfl;rw[e,List.length_cons];omega
theorem zN{A:List (Sl Int)}{h:Nat}(s:Nat):(gt ((bi A.length).map fun s=>Sl.mk [gt (gt A s).l h]) s).l.length<=1:=by
 by_cases hs:s<A.length
 .rw [eA (by simpa using hs)];simp
 .rw [JA (by simpa using hs)];exact cI _
theorem vX{r:aj}{h:Nat}{mv:List af}{A:List (Sl Int)}:(kj t r h mv A).length=A.length:=by unfold kj;rw[Gu];simp
theorem BO{r:aj}{h:Nat}{mv:List af}{A:List (Sl Int)}(s:Nat):(gt (kj t r h mv A) s).l.length<=mv.length+1:=by have h1:=Gt (t:=t) (r:=r) (h:=h) s mv ((bi A.length).map fun s=>Sl.mk [gt (gt A s).l h]);have h2:=zN (A:=A) (h:=h) s;unfold kj;omega
theorem Ov{r:aj}:∀(mv:List af)(A:List (Sl Int)),(HL t r mv A).length=A.length:=by intro mv;induction mv with|nil=>intro P;rfl|cons m mv ih=>intro P;exact(ih _).trans oS
theorem Ou{r:aj}(s:Nat):∀(mv:List af)(A:List (Sl Int)),(gt (HL t r mv A) s).l.length=(gt A s).l.length:=by intro mv;induction mv with|nil=>intro P;rfl|cons m mv ih=>intro P;exact(ih _).trans (ux s)
def uQ(t:ah)(rd:List aj)(mv:List af)(A:List (Sl Int))(k:Nat):List (Sl Int):=(rd.take k).foldl (fun A r=>HL t r mv A) A
theorem uI{rd:List aj}{mv:List af}{A:List (Sl Int)}{k:Nat}(h:k<rd.length):uQ t rd mv A (k+1)=HL t (gt rd k) mv (uQ t rd mv A k):=by unfold uQ;rw[eA h,<-List.take_append_getElem h,List.foldl_append];rfl
theorem Ha(mv:List af):∀(rd:List aj)(A:List (Sl Int)),(rd.foldl (fun A r=>HL t r mv A) A).length=A.length:=by intro rd;induction rd with|nil=>intro A;rfl|cons r rd ih=>intro A;exact(ih _).trans (Ov _ _)
theorem G_(mv:List af)(s:Nat):∀(rd:List aj)(A:List (Sl Int)),(gt (rd.foldl (fun A r=>HL t r mv A) A) s).l.length=(gt A s).l.length:=by intro rd;induction rd with|nil=>intro A;rfl|cons r rd ih=>intro A;exact(ih _).trans (Ou _ _ _)
theorem ml{rd:List aj}{mv:List af}{A:List (Sl Int)}{k:Nat}:(uQ t rd mv A k).length=A.length:=Ha mv _ _
theorem uJ{rd:List aj}{mv:List af}{A:List (Sl Int)}{k:Nat}(s:Nat):(gt (uQ t rd mv A k) s).l.length=(gt A s).l.length:=G_ mv s _ _
theorem zH{P:List (Sl Int)}{k h:Nat}:(sW t k h P).length<=2:=by unfold sW;rw[aF];cases mP t h P 0 P.length<;>cases xH t P<;>simp
theorem Eo(hV:mn t){A:List (Sl Int)}{k:Nat}(hA:(A.length:Int)=t.bh)(hrow:∀s,s<A.length->(gt A s).l.length=t.a_.l.length)(hb:(gt R.l k).2.2.l.length<9223372036854775808)(hm:mv.l.length<=100):
  ∀(n h:Nat)(dO:Sl ap),h+n=t.a_.l.length->dO.l.length+2*n<100000000->∃out',br (eg R k (k:Int) t) ((h:Int),t,old,now,mv,rd,a,b,c,d,.mk A,dO)=some (t,old,now,mv,rd,a,b,c,d,.mk A,out')/\
   out'.l=dO.l++(dX h n).flatMap fun h=>sW t k h (kj t (gt R.l k) h mv.l A):=by
 have hs:=hV.sw;have hho:=hV.rM;intro n;induction n with
 |zero=>
  intro h dO hh ho;obtain rfl:h=t.a_.l.length:=by omega
  exact⟨dO,ci (by simp only[eg,j4,cond_false]),by simp⟩
 |succ n ih=>
  intro h dO hh ho;have hhl:h<t.a_.l.length:=by omega
  have hmk:Bf (Sl.nil:Sl Int) (((Sl.mk A).l.length:Nat):Int) (((Sl.mk A).l.length:Nat):Int)=some (av A.length .nil):=by rw[Sl.kT,Bf,if_pos (by omega)];simp
  have k1:=BQ (A:=A) (h:=h) (fun s hs=>by rw[hrow s hs];exact hhl) (by omega) A.length 0 (av A.length .nil) (by omega) (by simp) (fun j hj=>by omega);have k1:br (fq (h:Int) (.mk A)) (0,.mk A,.mk (av A.length .nil))=_:=k1;have k2:=DU (t:=t) (old:=old) (now:=now) (mv:=mv) (rd:=rd) (R:=R) (a:=a) (b:=b) (c:=c) (d:=d) (dO:=dO) (k:=k) (h:=h) hb (by omega) mv.l.length 0 ((bi A.length).map fun s=>Sl.mk [gt (gt A s).l h]) (by omega) (by simpa using hA) (fun s _=>by have:=zN (A:=A) (h:=h) s;omega);rw[cq]at k2;have k2:br (eh R k old now dO rd mv (h:Int) t a b c d) (0,.mk ((bi A.length).map fun s=>Sl.mk [gt (gt A s).l h]))=some (.mk (kj t (gt R.l k) h mv.l A)):=k2;obtain⟨o1,f1,f2⟩:=Jx (old:=old) (now:=now) (mv:=mv) (rd:=rd) (a:=a) (b:=b) (c:=c) (d:=d) (dO:=dO) hV (P:=kj t (gt R.l k) h mv.l A) (k:=k) (h:=h) (by rw[vX];exact hA) (fun s _=>by have:=BO (t:=t) (r:=gt R.l k) (h:=h) (mv:=mv.l) (A:=A) s;omega) hhl (by omega);have hl:o1.l.length<=dO.l.length+2:=by rw[f2,aF];have:=zH (t:=t) (P:=kj t (gt R.l k) h mv.l A) (k:=k) (h:=h);omega
  obtain⟨o',e1,e2⟩:=ih (h+1) o1 (by omega) (by omega);refine⟨o',(cG ?_).trans e1,?_⟩
  .simp only[eg,jm hhl,cond_true,hmk,ae,k1,k2,f1,kz (show h<9223372036854775807 by omega)]
  .rw [e2,f2,aJ,List.range'_succ,bl]
def qD(t:ah)(rd:List aj)(mv:List af)(A:List (Sl Int))(k n:Nat):List ap:=(dX k n).flatMap fun k=>(dX 0 t.a_.l.length).flatMap fun h=>sW t k h (kj t (gt rd k) h mv (uQ t rd mv A k))
theorem BJ(hV:mn t){A:List (Sl Int)}(hA:(A.length:Int)=t.bh)(hrow:∀s,s<A.length->(gt A s).l.length=t.a_.l.length)(hb:∀r∈R.l,r.2.2.l.length<9223372036854775808)(hm:mv.l.length<=100)(hR:R.l.length<=1000):
  ∀(n k:Nat)(dO:Sl ap),k+n=R.l.length->dO.l.length+16*n<1000000->∃out',br (d_ R) ((k:Int),t,old,now,mv,rd,a,b,c,d,.mk (uQ t R.l mv.l A k),dO)=some (t,old,now,mv,rd,a,b,c,d,out')/\
   out'.l=dO.l++qD t R.l mv.l A k n:=by
 have hho:=hV.rM;intro n;induction n with
 |zero=>
  intro k dO hk ho;obtain rfl:k=R.l.length:=by omega
  exact⟨dO,ci (by simp only[d_,j4,cond_false]),by simp[qD]⟩
 |succ n ih=>
  intro k dO hk ho;have hkl:k<R.l.length:=by omega
  have hbk:(gt R.l k).2.2.l.length<9223372036854775808:=hb _ (by rw[eA hkl];exact List.getElem_mem _);obtain⟨o1,f1,f2⟩:=Eo (old:=old) (now:=now) (mv:=mv) (rd:=rd) (R:=R) (a:=a) (b:=b) (c:=c) (d:=d) hV (A:=uQ t R.l mv.l A k) (k:=k) (by rw[ml];exact hA) (fun s hs=>by rw[uJ];exact hrow s (by rwa[ml]at hs)) hbk hm t.a_.l.length 0 dO (by omega) (by omega);have f1:br (eg R k (k:Int) t) (0,t,old,now,mv,rd,a,b,c,d,.mk (uQ t R.l mv.l A k),dO)=_:=f1;have hl:o1.l.length<=dO.l.length+16:=by rw[f2,aF];have:=j5 (m:=2) (f:=fun h=>sW t k h (kj t (gt R.l k) h mv.l (uQ t R.l mv.l A k))) (fun h=>zH) (dX 0 t.a_.l.length);rw[iI]at this;omega
  have k2:=Jc (t:=t) (old:=old) (now:=now) (mv:=mv) (rd:=rd) (R:=R) (a:=a) (b:=b) (c:=c) (d:=d) (dO:=o1) (k:=k) hbk (by omega) mv.l.length 0 (uQ t R.l mv.l A k) (by omega) (by rw[ml];exact hA) (fun s hs=>by rw[uJ];exact hrow s (by rwa[ml]at hs));rw[cq,<-uI hkl]at k2;have k2:br (ed R k old mv o1 t now rd a b c d) (0,.mk (uQ t R.l mv.l A k))=_:=k2;obtain⟨o',e1,e2⟩:=ih (k+1) o1 (by omega) (by omega);refine⟨o',(cG ?_).trans e1,?_⟩
  .simp only[d_,jm hkl,cond_true,bI hkl,ae,f1,k2,kz (show k<9223372036854775807 by omega)]
  .rw [e2,f2,aJ];unfold qD;rw[List.range'_succ,bl]
theorem ER(hr:∀s,s<old.l.length->(gt old.l s).l.length<=1000)(hn:old.l.length<=1000):∀(n i:Nat)(S:List (Sl Int)),i+n=old.l.length->S.length=old.l.length->(∀j,j<i->gt S j=gt old.l j)->br (fr old) ((i:Int),.mk S)=some (.mk old.l):=by
 intro n;induction n with
 |zero=>
  intro i S hi hS hj;obtain rfl:i=old.l.length:=by omega
  have e:S=old.l:=JB hS hj;exact ci (by simp only[fr,j4,cond_false,e])
 |succ n ih=>
  intro i S hi hS hj;have hil:i<old.l.length:=by omega
  have:=hr i hil;refine(cG ?_).trans (ih (i+1) (S.set i (gt old.l i)) (by omega) (by rw[List.length_set];exact hS) fun j hj2=>?_)
  .simp only[fr,jm hil,cond_true,bI hil,ae,Hy (show(gt old.l i).l.length<=2147483648 by omega),Sl.kT,bI (show i<S.length by omega),kz (show i<9223372036854775807 by omega)]
  .rw [m7];split
   .rename_i hc;rw[hc.1]
   .exact hj j (by omega)
theorem DN(hV:mn t)(hA:(old.l.length:Int)=t.bh)(hrow:∀s,s<old.l.length->(gt old.l s).l.length=t.a_.l.length)(hb:∀r∈rd.l,r.2.2.l.length<9223372036854775808)(hm:mv.l.length<=100)(hR:rd.l.length<=1000)(ho:dO.l.length<100000):
  ∃out',gi t old now mv rd a b c d dO=some (t,old,now,mv,rd,a,b,c,d,out')/\out'.l=dO.l++qD t rd.l mv.l old.l 0 rd.l.length:=by
 have hs:=hV.sw;have hho:=hV.rM;have hmk:Bf (Sl.nil:Sl Int) (old.l.length:Int) (old.l.length:Int)=some (av old.l.length .nil):=by rw[Bf,if_pos (by omega)];simp
 have k1:=ER (old:=old) (fun s hs=>by rw[hrow s hs];omega) (by omega) old.l.length 0 (av old.l.length .nil) (by omega) (by simp) (fun j hj=>by omega);have k1:br (fr old) (0,.mk (av old.l.length .nil))=_:=k1;obtain⟨o',e1,e2⟩:=BJ (old:=old) (now:=now) (mv:=mv) (rd:=rd) (R:=rd) (a:=a) (b:=b) (c:=c) (d:=d) hV (A:=old.l) hA hrow hb hm hR rd.l.length 0 dO (by omega) (by omega);have e1:br (d_ rd) (0,t,old,now,mv,rd,a,b,c,d,.mk old.l,dO)=_:=e1;exact⟨o',by simp only[gi,hmk,ae,k1,e1],e2⟩
def yi(t:ah)(old now:Sl (Sl Int))(p:bn):List ap:=xF old now p.cZ.l p.bc.l 0 now.l.length++(tO t old now p.cZ.l p.bc.l 0 p.cZ.l.length++(tU (2*ut p.tZ+qb t+1) p.bc.l 1 (p.bc.l.length-1)++qD t p.bc.l p.cZ.l old.l 0 p.bc.l.length))
theorem Hf{k n:Nat}:(tO t old now mv.l rd.l k n).length<=n:=by unfold tO;have:=j5 (m:=1) (f:=fun(k:Nat)=>bif mU t old now rd.l (gt mv.l k)then[((3,(k:Int),(gt mv.l k).2.1):ap)]else[]) (fun k=>by cases mU t old now rd.l (gt mv.l k)<;>simp) (dX k n);rw[iI]at this;omega
theorem Hx{gap:Int}{k n:Nat}:(tU gap rd.l k n).length<=n:=by unfold tU;have:=j5 (m:=1) (f:=fun(j:Nat)=>bif tV gap rd.l j then[((4,(j:Int),0):ap)]else[]) (fun j=>by cases tV gap rd.l j<;>simp) (dX k n);rw[iI]at this;omega
theorem GU(hn:∀s,s<now.l.length->(gt now.l s).l.length<=8){n:Nat}:(xF old now mv.l rd.l 0 n).length<=8*n:=by unfold xF;have:=j5 (m:=8) (f:=fun s:Nat=>xE old now mv.l rd.l s 0 (gt now.l s).l.length) (fun s=>by have h1:=Ch (old:=old) (now:=now) (mv:=mv) (rd:=rd) (s:=s) (h:=0) (n:=(gt now.l s).l.length);have h2:=Ip hn s;omega) (dX 0 n);rw[iI]at this;exact this
theorem Hz{p:bn}(hS1:rg t old)(hS2:rg t now)(hm:p.cZ.l.length<=40)(hR:p.bc.l.length<=12)(hb:∀r∈p.bc.l,r.2.2.l.length<=20):
  ∃s,ie t old now p=some s/\s.l=bif tt (mE t old/\mE t now)then yi t old now p else[(1,0,0)]:=by
 have g1:=xU hS1;have g2:=xU hS2;by_cases hG1:mE t old
 .by_cases hG2:mE t now
  .rw [Ag hG1]at g1;rw[Ag hG2]at g2;obtain⟨mv,rd,miss,life,from_,to_⟩:=p;have hm:mv.l.length<=40:=hm;have hR:rd.l.length<=12:=hR;have hb:∀r∈rd.l,r.2.2.l.length<=20:=hb;have hV:=hG1.1.wg;have hsw:=hV.sw;have hho:=hV.rM;have l1:=hG1.1.len;have l2:=hG2.1.len;have r1:∀s,s<old.l.length->(gt old.l s).l.length=t.a_.l.length:=fun s hs=>hG1.1.cY hs;have r2:∀s,s<now.l.length->(gt now.l s).l.length=t.a_.l.length:=fun s hs=>hG2.1.cY hs;have hb':∀r∈rd.l,r.2.2.l.length<9223372036854775808:=fun r hr=>by have:=hb r hr;omega
   obtain⟨o1,e1,e2⟩:=IZ (t:=t) (old:=old) (now:=now) (mv:=mv) (rd:=rd) (a:=miss) (b:=life) (c:=from_) (d:=to_) (by omega) hb' (by omega) (by omega) (fun s hs=>⟨by rw[r1 s (by omega),r2 s hs],by rw[r2 s hs];omega⟩) (by omega) now.l.length 0 .nil (by omega) (by simp;omega);have e1:br (eO now) (0,t,old,now,mv,rd,miss,life,from_,to_,Sl.nil)=_:=e1;have n1:=GU (old:=old) (now:=now) (mv:=mv) (rd:=rd) (fun s hs=>by rw[r2 s hs];exact hho) (n:=now.l.length);have ho1:o1.l.length<=64:=by rw[e2];simp;omega
   obtain⟨o2,f1,f2⟩:=EF (t:=t) (old:=old) (now:=now) (mv:=mv) (rd:=rd) (a:=miss) (b:=life) (c:=from_) (d:=to_) (by omega) hb' (by omega) l2 l1 r2 r1 mv.l.length 0 o1 (by omega) (by omega);have f1:br (eN mv) (0,t,old,now,mv,rd,miss,life,from_,to_,o1)=_:=f1;have n2:=Hf (t:=t) (old:=old) (now:=now) (mv:=mv) (rd:=rd) (k:=0) (n:=mv.l.length);have ho2:o2.l.length<=104:=by rw[f2,aF];omega
   obtain⟨o3,q1,q2⟩:=F_ (t:=t) (old:=old) (now:=now) (mv:=mv) (rd:=rd) (miss:=miss) (b:=life) (c:=from_) (d:=to_) (dO:=o2) hV (by omega) (by omega);have n3:=Hx (rd:=rd) (gap:=2*ut miss+qb t+1) (k:=1) (n:=rd.l.length-1);have ho3:o3.l.length<=116:=by rw[q2,aF];omega
   obtain⟨o4,u1,u2⟩:=DN (t:=t) (old:=old) (now:=now) (mv:=mv) (rd:=rd) (a:=miss) (b:=life) (c:=from_) (d:=to_) (dO:=o3) hV l1 r1 hb' (by omega) (by omega) (by omega);refine⟨o4,?_,?_⟩
   .have em:fK t old now mv rd miss life from_ to_ .nil=some (t,old,now,mv,rd,miss,life,from_,to_,o2):=by simp only[fK,e1,ae,f1]
    have em:fK t old now (bn.cZ (mv,rd,miss,life,from_,to_)) (bn.bc (mv,rd,miss,life,from_,to_)) (bn.tZ (mv,rd,miss,life,from_,to_)) (bn.Dd (mv,rd,miss,life,from_,to_)) (bn.oz (mv,rd,miss,life,from_,to_)) (bn.To (mv,rd,miss,life,from_,to_)) .nil=_:=em;simp only[ie,g1,g2,ae,cF,cond_false,em,q1,u1]
   .rw [u2,q2,f2,e2,Ag ⟨hG1,hG2⟩,cond_true];simp only[Sl.Jf,List.nil_append,aJ];rfl
  .rw [Ag hG1]at g1;rw[Ah hG2]at g2;exact⟨.mk [(1,0,0)],by simp only[ie,g1,g2,ae,cF,fg,cond_false,cond_true],by rw[Ah (fun h=>hG2 h.2)];rfl⟩
 .rw [Ah hG1]at g1;exact⟨.mk [(1,0,0)],by simp only[ie,g1,ae,fg,cond_true],by rw[Ah (fun h=>hG1 h.1)];rfl⟩
end
end Go.Proofs.YthcplpfiidlinaaDoor.J
