/- Findings: what Check notes, as lists. Conditions: lengths as stated. -/
import Derived.Test.YthcplpfiidlinaaDoorJK
import Derived.Test.YthcplpfiidlinaaDoorJB
open Go.Ev Go
noncomputable section
open Bool renaming not_false->eK,not_true->cm
open List renaming append_assoc->aJ,drop_zero->cP,flatMap_cons->bi,length_append->az,length_range'->iU,mem_flatMap->cn,range->aK,range'->eu,replicate->aw
open Nat renaming zero_le->cX
open Option renaming bind_some->af
namespace Go.Proofs.YthcplpfiidlinaaDoor.J
def yH(t:ah)(P:List (Sl Int)):Bool:=tt (SJ t.bo.toNat (wv t P 0 P.length))
def yS(t:ah)(k h:Nat)(P:List (Sl Int)):List aq:=(bif nF t h P 0 P.length then[(5,(k:Int),(h:Int))]else[])++(bif yH t P then[(6,(k:Int),(h:Int))]else[])
theorem LA{P:List (Sl Int)}{s:Nat}(h:¬s<P.length):gt P s=(default:Sl Int):=FY (by omega)
theorem Kj{P:List (Sl Int)}{m:Nat}(h:∀s,s<P.length->(gt P s).l.length<=m)(s:Nat):(gt P s).l.length<=m:=by
 by_cases hs:s<P.length
 .exact h s hs
 .rw [LA hs];exact cX _
theorem Jc{t:ah}{P:List (Sl Int)}{m n:Nat}(h:∀s,s<P.length->(gt P s).l.length<=m):(wv t P 0 n).length<=m*n:=by have:=gK (m:=m) (f:=fun s:Nat=>(gt P s).l.flatMap (qN t (s:Int))) (fun s=>by have:=gK (m:=1) (f:=qN t (s:Int)) (fun p=>D2) (gt P s).l;have:=Kj h s;omega) (eu 0 n);rw[iU]at this;exact this
theorem Jd{t:ah}(hV:lh t){P:List (Sl Int)}(hP:(P.length:Int)=t.bo):xu (t.bo.toNat:Int) (wv t P 0 P.length):=by
 have hs:=hV.sw;refine⟨by omega,fun e he=>?_⟩;obtain⟨s,h1,h2⟩:=cn.1 he;obtain⟨p,_,h3⟩:=cn.1 h2;rw[List.mem_range'_1]at h1;unfold qN at h3;cases hk:(kL t (s:Int) p).2.2.2 with
 |false=>rw[hk]at h3;cases h3
 |true=>
  rw[hk,cond_true,List.mem_singleton]at h3;subst h3;unfold kL at hk;have hto:0<=(kL t (s:Int) p).1/\(kL t (s:Int) p).1<t.bo:=by unfold kL;cases hc:lQ (oM (s:Int) p) t.bS.l 0 with|none=>rw[hc]at hk;cases hk|some q=>obtain⟨a,b,c⟩:=q;exact GW hV hc
  show((0:Int)<=(s:Int)/\(s:Int)<_)/\0<=(kL t (s:Int) p).1/\(kL t (s:Int) p).1<_;omega
section
variable{t:ah}{old now:Sl (Sl Int)}{mv:Sl ae}{rd R:Sl aj}{a b c d:Int}{dX:Sl aq}
theorem KL{k:Bool}{x y z:Int}:(pY dX k x y z).l.length<=dX.l.length+1:=by rw[rm];cases k<;>simp
theorem Lx(hV:lh t){P:List (Sl Int)}{k h:Nat}(hP:(P.length:Int)=t.bo)(hr:∀s,s<P.length->(gt P s).l.length<=1000)(hh:h<t.bf.l.length)(ho:dX.l.length<1000000000):
  ∃out',ia t old now mv rd a b c d dX (.mk P) (k:Int) (h:Int)=some (t,old,now,mv,rd,a,b,c,d,out')/\out'.l=dX.l++yS t k h P:=by
 have hs:=hV.sw;have hlk:=hV.Hc;have hPl:P.length<=8:=by omega
 obtain⟨es,e1,e2⟩:=FV (t:=t) (P:=.mk P) (h:=h) (by omega) hh hr (show P.length<=1000 by omega) P.length 0 false .nil (Nat.zero_add _) (by simp;omega);have e1:bE (fm t (.mk P) (h:Int)) (false,0,Sl.nil)=some (false||nF t h P 0 P.length,es):=e1;have e2:es.l=wv t P 0 P.length:=e2;have hel:=Jc (t:=t) (P:=P) (n:=P.length) hr;have hF:xu (t.bo.toNat:Int) es.l:=by rw[e2];exact Jd hV hP
 obtain⟨s,ok,g1,g2⟩:=Il (l:=es) (by rw[e2];omega) hF;have hsw:((t.bo.toNat:Nat):Int)=t.bo:=by omega
 rw[hsw]at g1;have g1:iG (ah.bo t) es=some (s,ok):=g1;have hok:(!ok)=yH t P:=by unfold yH;rw[Bool.eq_iff_iff,Bool.not_eq_true',Bp,<-e2];exact g2
 have f1:bG t old now mv rd a b c d dX (nF t h P 0 P.length) 5 (k:Int) (h:Int)=_:=og (by omega);have hl:=KL (dX:=dX) (k:=nF t h P 0 P.length) (x:=5) (y:=(k:Int)) (z:=(h:Int));have f2:bG t old now mv rd a b c d (pY dX (nF t h P 0 P.length) 5 (k:Int) (h:Int)) (yH t P) 6 (k:Int) (h:Int)=_:=og (by omega);refine⟨pY (pY dX (nF t h P 0 P.length) 5 (k:Int) (h:Int)) (yH t P) 6 (k:Int) (h:Int),?_,?_⟩
 .simp only[ia,e1,af,Bool.false_or,g1,hok,f1,f2]
 .rw [rm,rm,aJ];rfl
def kK(t:ah)(r:aj)(h:Nat)(mv:List ae)(A:List (Sl Int)):List (Sl Int):=uy t r h mv ((aK A.length).map fun s=>Sl.mk [gt (gt A s).l h])
theorem Ib{r:aj}{h:Nat}:∀(mv:List ae)(P:List (Sl Int)),(uy t r h mv P).length=P.length:=by intro mv;induction mv with|nil=>intro P;rfl|cons m mv ih=>intro P;exact(ih _).trans sX
theorem Ia{r:aj}{h:Nat}(s:Nat):∀(mv:List ae)(P:List (Sl Int)),(gt (uy t r h mv P) s).l.length<=(gt P s).l.length+mv.length:=by intro mv;induction mv with|nil=>intro P;exact Nat.le_refl _|cons m mv ih=>intro P;have h1:=ih (wJ t r h P m);have h2:=Es (t:=t) (r:=r) (h:=h) (P:=P) (m:=m) s;have e:uy t r h (m::mv) P=uy t r h mv (wJ t r h P m):=rfl;rw[e,List.length_cons];omega
theorem AW{A:List (Sl Int)}{h:Nat}(s:Nat):(gt ((aK A.length).map fun s=>Sl.mk [gt (gt A s).l h]) s).l.length<=1:=by
 by_cases hs:s<A.length
 .rw [cY (by simpa using hs)];simp
 .rw [LA (by simpa using hs)];exact cX _
theorem wU{r:aj}{h:Nat}{mv:List ae}{A:List (Sl Int)}:(kK t r h mv A).length=A.length:=by unfold kK;rw[Ib];simp
theorem C5{r:aj}{h:Nat}{mv:List ae}{A:List (Sl Int)}(s:Nat):(gt (kK t r h mv A) s).l.length<=mv.length+1:=by have h1:=Ia (t:=t) (r:=r) (h:=h) s mv ((aK A.length).map fun s=>Sl.mk [gt (gt A s).l h]);have h2:=AW (A:=A) (h:=h) s;unfold kK;omega
theorem Q5{r:aj}:∀(mv:List ae)(A:List (Sl Int)),(MH t r mv A).length=A.length:=by intro mv;induction mv with|nil=>intro P;rfl|cons m mv ih=>intro P;exact(ih _).trans sI
theorem Q4{r:aj}(s:Nat):∀(mv:List ae)(A:List (Sl Int)),(gt (MH t r mv A) s).l.length=(gt A s).l.length:=by intro mv;induction mv with|nil=>intro P;rfl|cons m mv ih=>intro P;exact(ih _).trans (yN s)
def Ae(t:ah)(rd:List aj)(mv:List ae)(A:List (Sl Int))(k:Nat):List (Sl Int):=(rd.take k).foldl (fun A r=>MH t r mv A) A
theorem Em{rd:List aj}{mv:List ae}{A:List (Sl Int)}{k:Nat}(h:k<rd.length):Ae t rd mv A (k+1)=MH t (gt rd k) mv (Ae t rd mv A k):=by unfold Ae;rw[cY h,<-List.take_append_getElem h,List.foldl_append];rfl
theorem I0(mv:List ae):∀(rd:List aj)(A:List (Sl Int)),(rd.foldl (fun A r=>MH t r mv A) A).length=A.length:=by intro rd;induction rd with|nil=>intro A;rfl|cons r rd ih=>intro A;exact(ih _).trans (Q5 _ _)
theorem IZ(mv:List ae)(s:Nat):∀(rd:List aj)(A:List (Sl Int)),(gt (rd.foldl (fun A r=>MH t r mv A) A) s).l.length=(gt A s).l.length:=by intro rd;induction rd with|nil=>intro A;rfl|cons r rd ih=>intro A;exact(ih _).trans (Q4 _ _ _)
theorem o6{rd:List aj}{mv:List ae}{A:List (Sl Int)}{k:Nat}:(Ae t rd mv A k).length=A.length:=I0 mv _ _
theorem Cc{rd:List aj}{mv:List ae}{A:List (Sl Int)}{k:Nat}(s:Nat):(gt (Ae t rd mv A k) s).l.length=(gt A s).l.length:=IZ mv s _ _
theorem AN{P:List (Sl Int)}{k h:Nat}:(yS t k h P).length<=2:=by unfold yS;rw[az];cases nF t h P 0 P.length<;>cases yH t P<;>simp
theorem FU(hV:lh t){A:List (Sl Int)}{k:Nat}(hA:(A.length:Int)=t.bo)(hrow:∀s,s<A.length->(gt A s).l.length=t.bf.l.length)(hb:(gt R.l k).2.2.l.length<9223372036854775808)(hm:mv.l.length<=100):
  ∀(n h:Nat)(dX:Sl aq),h+n=t.bf.l.length->dX.l.length+2*n<100000000->∃out',bE (eC R k (k:Int) t) ((h:Int),t,old,now,mv,rd,a,b,c,d,.mk A,dX)=some (t,old,now,mv,rd,a,b,c,d,.mk A,out')/\
   out'.l=dX.l++(eu h n).flatMap fun h=>yS t k h (kK t (gt R.l k) h mv.l A):=by
 have hs:=hV.sw;have hho:=hV.rO;intro n;induction n with
 |zero=>
  intro h dX hh ho;obtain rfl:h=t.bf.l.length:=by omega
  exact⟨dX,ct (by simp only[eC,kG,cond_false]),by simp⟩
 |succ n ih=>
  intro h dX hh ho;have hhl:h<t.bf.l.length:=by omega
  have hmk:zE (Sl.nil:Sl Int) (((Sl.mk A).l.length:Nat):Int) (((Sl.mk A).l.length:Nat):Int)=some (aw A.length .nil):=by rw[Sl.iZ,zE,if_pos (by omega)];simp
  have k1:=C6 (A:=A) (h:=h) (fun s hs=>by rw[hrow s hs];exact hhl) (by omega) A.length 0 (aw A.length .nil) (by omega) (by simp) (fun j hj=>by omega);have k1:bE (fy (h:Int) (.mk A)) (0,.mk A,.mk (aw A.length .nil))=_:=k1;have k2:=Fl (t:=t) (old:=old) (now:=now) (mv:=mv) (rd:=rd) (R:=R) (a:=a) (b:=b) (c:=c) (d:=d) (dX:=dX) (k:=k) (h:=h) hb (by omega) mv.l.length 0 ((aK A.length).map fun s=>Sl.mk [gt (gt A s).l h]) (by omega) (by simpa using hA) (fun s _=>by have:=AW (A:=A) (h:=h) s;omega);rw[cP]at k2;have k2:bE (eD R k old now dX rd mv (h:Int) t a b c d) (0,.mk ((aK A.length).map fun s=>Sl.mk [gt (gt A s).l h]))=some (.mk (kK t (gt R.l k) h mv.l A)):=k2;obtain⟨o1,f1,f2⟩:=Lx (old:=old) (now:=now) (mv:=mv) (rd:=rd) (a:=a) (b:=b) (c:=c) (d:=d) (dX:=dX) hV (P:=kK t (gt R.l k) h mv.l A) (k:=k) (h:=h) (by rw[wU];exact hA) (fun s _=>by have:=C5 (t:=t) (r:=gt R.l k) (h:=h) (mv:=mv.l) (A:=A) s;omega) hhl (by omega);have hl:o1.l.length<=dX.l.length+2:=by rw[f2,az];have:=AN (t:=t) (P:=kK t (gt R.l k) h mv.l A) (k:=k) (h:=h);omega
  obtain⟨o',e1,e2⟩:=ih (h+1) o1 (by omega) (by omega);refine⟨o',(dh ?_).trans e1,?_⟩
  .simp only[eC,jo hhl,cond_true,hmk,af,k1,k2,f1,lp (show h<9223372036854775807 by omega)]
  .rw [e2,f2,aJ,List.range'_succ,bi]
def tq(t:ah)(rd:List aj)(mv:List ae)(A:List (Sl Int))(k n:Nat):List aq:=(eu k n).flatMap fun k=>(eu 0 t.bf.l.length).flatMap fun h=>yS t k h (kK t (gt rd k) h mv (Ae t rd mv A k))
theorem CY(hV:lh t){A:List (Sl Int)}(hA:(A.length:Int)=t.bo)(hrow:∀s,s<A.length->(gt A s).l.length=t.bf.l.length)(hb:∀r∈R.l,r.2.2.l.length<9223372036854775808)(hm:mv.l.length<=100)(hR:R.l.length<=1000):
  ∀(n k:Nat)(dX:Sl aq),k+n=R.l.length->dX.l.length+16*n<1000000->∃out',bE (eA R) ((k:Int),t,old,now,mv,rd,a,b,c,d,.mk (Ae t R.l mv.l A k),dX)=some (t,old,now,mv,rd,a,b,c,d,out')/\
   out'.l=dX.l++tq t R.l mv.l A k n:=by
 have hho:=hV.rO;intro n;induction n with
 |zero=>
  intro k dX hk ho;obtain rfl:k=R.l.length:=by omega
  exact⟨dX,ct (by simp only[eA,kG,cond_false]),by simp[tq]⟩
 |succ n ih=>
  intro k dX hk ho;have hkl:k<R.l.length:=by omega
  have hbk:(gt R.l k).2.2.l.length<9223372036854775808:=hb _ (by rw[cY hkl];exact List.getElem_mem _);obtain⟨o1,f1,f2⟩:=FU (old:=old) (now:=now) (mv:=mv) (rd:=rd) (R:=R) (a:=a) (b:=b) (c:=c) (d:=d) hV (A:=Ae t R.l mv.l A k) (k:=k) (by rw[o6];exact hA) (fun s hs=>by rw[Cc];exact hrow s (by rwa[o6]at hs)) hbk hm t.bf.l.length 0 dX (by omega) (by omega);have f1:bE (eC R k (k:Int) t) (0,t,old,now,mv,rd,a,b,c,d,.mk (Ae t R.l mv.l A k),dX)=_:=f1;have hl:o1.l.length<=dX.l.length+16:=by rw[f2,az];have:=gK (m:=2) (f:=fun h=>yS t k h (kK t (gt R.l k) h mv.l (Ae t R.l mv.l A k))) (fun h=>AN) (eu 0 t.bf.l.length);rw[iU]at this;omega
  have k2:=Le (t:=t) (old:=old) (now:=now) (mv:=mv) (rd:=rd) (R:=R) (a:=a) (b:=b) (c:=c) (d:=d) (dX:=o1) (k:=k) hbk (by omega) mv.l.length 0 (Ae t R.l mv.l A k) (by omega) (by rw[o6];exact hA) (fun s hs=>by rw[Cc];exact hrow s (by rwa[o6]at hs));rw[cP,<-Em hkl]at k2;have k2:bE (eB R k old mv o1 t now rd a b c d) (0,.mk (Ae t R.l mv.l A k))=_:=k2;obtain⟨o',e1,e2⟩:=ih (k+1) o1 (by omega) (by omega);refine⟨o',(dh ?_).trans e1,?_⟩
  .simp only[eA,jo hkl,cond_true,bA hkl,af,f1,k2,lp (show k<9223372036854775807 by omega)]
  .rw [e2,f2,aJ];unfold tq;rw[List.range'_succ,bi]
theorem Gl(hr:∀s,s<old.l.length->(gt old.l s).l.length<=1000)(hn:old.l.length<=1000):∀(n i:Nat)(S:List (Sl Int)),i+n=old.l.length->S.length=old.l.length->(∀j,j<i->gt S j=gt old.l j)->bE (fz old) ((i:Int),.mk S)=some (.mk old.l):=by
 intro n;induction n with
 |zero=>
  intro i S hi hS hj;obtain rfl:i=old.l.length:=by omega
  have e:S=old.l:=LB hS hj;exact ct (by simp only[fz,kG,cond_false,e])
 |succ n ih=>
  intro i S hi hS hj;have hil:i<old.l.length:=by omega
  have:=hr i hil;refine(dh ?_).trans (ih (i+1) (S.set i (gt old.l i)) (by omega) (by rw[List.length_set];exact hS) fun j hj2=>?_)
  .simp only[fz,jo hil,cond_true,bA hil,af,Jn (show(gt old.l i).l.length<=2147483648 by omega),Sl.iZ,bA (show i<S.length by omega),lp (show i<9223372036854775807 by omega)]
  .rw [nO];split
   .rename_i hc;rw[hc.1]
   .exact hj j (by omega)
theorem Fd(hV:lh t)(hA:(old.l.length:Int)=t.bo)(hrow:∀s,s<old.l.length->(gt old.l s).l.length=t.bf.l.length)(hb:∀r∈rd.l,r.2.2.l.length<9223372036854775808)(hm:mv.l.length<=100)(hR:rd.l.length<=1000)(ho:dX.l.length<100000):
  ∃out',gz t old now mv rd a b c d dX=some (t,old,now,mv,rd,a,b,c,d,out')/\out'.l=dX.l++tq t rd.l mv.l old.l 0 rd.l.length:=by
 have hs:=hV.sw;have hho:=hV.rO;have hmk:zE (Sl.nil:Sl Int) (old.l.length:Int) (old.l.length:Int)=some (aw old.l.length .nil):=by rw[zE,if_pos (by omega)];simp
 have k1:=Gl (old:=old) (fun s hs=>by rw[hrow s hs];omega) (by omega) old.l.length 0 (aw old.l.length .nil) (by omega) (by simp) (fun j hj=>by omega);have k1:bE (fz old) (0,.mk (aw old.l.length .nil))=_:=k1;obtain⟨o',e1,e2⟩:=CY (old:=old) (now:=now) (mv:=mv) (rd:=rd) (R:=rd) (a:=a) (b:=b) (c:=c) (d:=d) hV (A:=old.l) hA hrow hb hm hR rd.l.length 0 dX (by omega) (by omega);have e1:bE (eA rd) (0,t,old,now,mv,rd,a,b,c,d,.mk old.l,dX)=_:=e1;exact⟨o',by simp only[gz,hmk,af,k1,e1],e2⟩
def Gq(t:ah)(old now:Sl (Sl Int))(p:bh):List aq:=AK old now p.qR.l p.gO.l 0 now.l.length++(wt t old now p.qR.l p.gO.l 0 p.qR.l.length++(sR (2*sF p.MT+iF t+1) p.gO.l 1 (p.gO.l.length-1)++tq t p.gO.l p.qR.l old.l 0 p.gO.l.length))
theorem I5{k n:Nat}:(wt t old now mv.l rd.l k n).length<=n:=by unfold wt;have:=gK (m:=1) (f:=fun(k:Nat)=>bif oF t old now rd.l (gt mv.l k)then[((3,(k:Int),(gt mv.l k).2.1):aq)]else[]) (fun k=>by cases oF t old now rd.l (gt mv.l k)<;>simp) (eu k n);rw[iU]at this;omega
theorem Jm{gap:Int}{k n:Nat}:(sR gap rd.l k n).length<=n:=by unfold sR;have:=gK (m:=1) (f:=fun(j:Nat)=>bif qs gap rd.l j then[((4,(j:Int),0):aq)]else[]) (fun j=>by cases qs gap rd.l j<;>simp) (eu k n);rw[iU]at this;omega
theorem II(hn:∀s,s<now.l.length->(gt now.l s).l.length<=8){n:Nat}:(AK old now mv.l rd.l 0 n).length<=8*n:=by unfold AK;have:=gK (m:=8) (f:=fun s:Nat=>AJ old now mv.l rd.l s 0 (gt now.l s).l.length) (fun s=>by have h1:=DA (old:=old) (now:=now) (mv:=mv) (rd:=rd) (s:=s) (h:=0) (n:=(gt now.l s).l.length);have h2:=Kj hn s;omega) (eu 0 n);rw[iU]at this;exact this
theorem Jp{p:bh}(hS1:m7 t old)(hS2:m7 t now)(hm:p.qR.l.length<=100)(hR:p.gO.l.length<=12)(hb:∀r∈p.gO.l,r.2.2.l.length<=20):
  ∃s,hZ t old now p=some s/\s.l=bif tt (gk t old/\gk t now)then Gq t old now p else[(1,0,0)]:=by
 have g1:=vu hS1;have g2:=vu hS2;by_cases hG1:gk t old
 .by_cases hG2:gk t now
  .rw [Bq hG1]at g1;rw[Bq hG2]at g2;obtain⟨mv,rd,miss,life,from_,to_⟩:=p;have hm:mv.l.length<=100:=hm;have hR:rd.l.length<=12:=hR;have hb:∀r∈rd.l,r.2.2.l.length<=20:=hb;have hV:=hG1.1.tR;have hsw:=hV.sw;have hho:=hV.rO;have l1:=hG1.1.len;have l2:=hG2.1.len;have r1:∀s,s<old.l.length->(gt old.l s).l.length=t.bf.l.length:=fun s hs=>hG1.1.di hs;have r2:∀s,s<now.l.length->(gt now.l s).l.length=t.bf.l.length:=fun s hs=>hG2.1.di hs;have hb':∀r∈rd.l,r.2.2.l.length<9223372036854775808:=fun r hr=>by have:=hb r hr;omega
   obtain⟨o1,e1,e2⟩:=KZ (t:=t) (old:=old) (now:=now) (mv:=mv) (rd:=rd) (a:=miss) (b:=life) (c:=from_) (d:=to_) (by omega) hb' (by omega) (by omega) (fun s hs=>⟨by rw[r1 s (by omega),r2 s hs],by rw[r2 s hs];omega⟩) (by omega) now.l.length 0 .nil (by omega) (by simp;omega);have e1:bE (eT now) (0,t,old,now,mv,rd,miss,life,from_,to_,Sl.nil)=_:=e1;have n1:=II (old:=old) (now:=now) (mv:=mv) (rd:=rd) (fun s hs=>by rw[r2 s hs];exact hho) (n:=now.l.length);have ho1:o1.l.length<=64:=by rw[e2];simp;omega
   obtain⟨o2,f1,f2⟩:=F9 (t:=t) (old:=old) (now:=now) (mv:=mv) (rd:=rd) (a:=miss) (b:=life) (c:=from_) (d:=to_) (by omega) hb' (by omega) l2 l1 r2 r1 mv.l.length 0 o1 (by omega) (by omega);have f1:bE (eS mv) (0,t,old,now,mv,rd,miss,life,from_,to_,o1)=_:=f1;have n2:=I5 (t:=t) (old:=old) (now:=now) (mv:=mv) (rd:=rd) (k:=0) (n:=mv.l.length);have ho2:o2.l.length<=164:=by rw[f2,az];omega
   obtain⟨o3,q1,q2⟩:=HL (t:=t) (old:=old) (now:=now) (mv:=mv) (rd:=rd) (miss:=miss) (b:=life) (c:=from_) (d:=to_) (dX:=o2) hV (by omega) (by omega);have n3:=Jm (rd:=rd) (gap:=2*sF miss+iF t+1) (k:=1) (n:=rd.l.length-1);have ho3:o3.l.length<=176:=by rw[q2,az];omega
   obtain⟨o4,u1,u2⟩:=Fd (t:=t) (old:=old) (now:=now) (mv:=mv) (rd:=rd) (a:=miss) (b:=life) (c:=from_) (d:=to_) (dX:=o3) hV l1 r1 hb' (by omega) (by omega) (by omega);refine⟨o4,?_,?_⟩
   .have em:fU t old now mv rd miss life from_ to_ .nil=some (t,old,now,mv,rd,miss,life,from_,to_,o2):=by simp only[fU,e1,af,f1]
    have em:fU t old now (bh.qR (mv,rd,miss,life,from_,to_)) (bh.gO (mv,rd,miss,life,from_,to_)) (bh.MT (mv,rd,miss,life,from_,to_)) (bh.Rf (mv,rd,miss,life,from_,to_)) (bh.rJ (mv,rd,miss,life,from_,to_)) (bh.To (mv,rd,miss,life,from_,to_)) .nil=_:=em;simp only[hZ,g1,g2,af,cm,cond_false,em,q1,u1]
   .rw [u2,q2,f2,e2,Bq ⟨hG1,hG2⟩,cond_true];simp only[Sl.Pc,List.nil_append,aJ];rfl
  .rw [Bq hG1]at g1;rw[xT hG2]at g2;exact⟨.mk [(1,0,0)],by simp only[hZ,g1,g2,af,cm,eK,cond_false,cond_true],by rw[xT (fun h=>hG2 h.2)];rfl⟩
 .rw [xT hG1]at g1;exact⟨.mk [(1,0,0)],by simp only[hZ,g1,af,eK,cond_true],by rw[xT (fun h=>hG1 h.1)];rfl⟩
end
end Go.Proofs.YthcplpfiidlinaaDoor.J
