/- Findings: what Check notes, as lists. Conditions: lengths as stated. -/
import Derived.Test.YthcplpfiidlinaaDoorJK
import Derived.Test.YthcplpfiidlinaaDoorJB
open Go.Ev Go
noncomputable section
open Bool renaming not_false->dQ,not_true->bS
open List renaming append_assoc->aL,drop_zero->cT,flatMap_cons->bi,length_append->av,length_range'->ja,mem_flatMap->bU,range->aK,range'->dP,range'_succ->lJ,replicate->az
open Nat renaming zero_le->cG
open Option renaming bind_some->af
namespace Go.Proofs.YthcplpfiidlinaaDoor.J
def yK(t:ah)(P:List (Sl Int)):Bool:=tt (SX t.br.toNat (wD t P 0 P.length))
def yV(t:ah)(k h:Nat)(P:List (Sl Int)):List am:=(bif nP t h P 0 P.length then[(5,(k:Int),(h:Int))]else[])++(bif yK t P then[(6,(k:Int),(h:Int))]else[])
theorem LQ{P:List (Sl Int)}{s:Nat}(h:¬s<P.length):gt P s=(default:Sl Int):=F_ (by omega)
theorem KA{P:List (Sl Int)}{m:Nat}(h:∀s,s<P.length->(gt P s).l.length<=m)(s:Nat):(gt P s).l.length<=m:=by
 by_cases hs:s<P.length
 .exact h s hs
 .rw [LQ hs];exact cG _
theorem Jt{t:ah}{P:List (Sl Int)}{m n:Nat}(h:∀s,s<P.length->(gt P s).l.length<=m):(wD t P 0 n).length<=m*n:=by have:=gT (m:=m) (f:=fun s:Nat=>(gt P s).l.flatMap (qS t (s:Int))) (fun s=>by have:=gT (m:=1) (f:=qS t (s:Int)) (fun p=>Ea) (gt P s).l;have:=KA h s;omega) (dP 0 n);rw[ja]at this;exact this
theorem Ju{t:ah}(hV:lr t){P:List (Sl Int)}(hP:(P.length:Int)=t.br):xC (t.br.toNat:Int) (wD t P 0 P.length):=by
 have hs:=hV.sw;refine⟨by omega,fun e he=>?_⟩;obtain⟨s,h1,h2⟩:=bU.1 he;obtain⟨p,_,h3⟩:=bU.1 h2;rw[List.mem_range'_1]at h1;unfold qS at h3;cases hk:(kQ t (s:Int) p).2.2.2 with
 |false=>rw[hk]at h3;cases h3
 |true=>
  rw[hk,cond_true,List.mem_singleton]at h3;subst h3;unfold kQ at hk;have hto:0<=(kQ t (s:Int) p).1/\(kQ t (s:Int) p).1<t.br:=by unfold kQ;cases hc:lW (oT (s:Int) p) t.bW.l 0 with|none=>rw[hc]at hk;cases hk|some q=>obtain⟨a,b,c⟩:=q;exact G7 hV hc
  show((0:Int)<=(s:Int)/\(s:Int)<_)/\0<=(kQ t (s:Int) p).1/\(kQ t (s:Int) p).1<_;omega
section
variable{t:ah}{old now:Sl (Sl Int)}{mv:Sl ae}{rd R:Sl aj}{a b c d:Int}{dY:Sl am}
theorem K3{k:Bool}{x y z:Int}:(qa dY k x y z).l.length<=dY.l.length+1:=by rw[rt];cases k<;>simp
theorem LO(hV:lr t){P:List (Sl Int)}{k h:Nat}(hP:(P.length:Int)=t.br)(hr:∀s,s<P.length->(gt P s).l.length<=1000)(hh:h<t.bd.l.length)(ho:dY.l.length<1000000000):
  ∃out',ii t old now mv rd a b c d dY (.mk P) (k:Int) (h:Int)=some (t,old,now,mv,rd,a,b,c,d,out')/\out'.l=dY.l++yV t k h P:=by
 have hs:=hV.sw;have hlk:=hV.Hs;have hPl:P.length<=8:=by omega
 obtain⟨es,e1,e2⟩:=F6 (t:=t) (P:=.mk P) (h:=h) (by omega) hh hr (show P.length<=1000 by omega) P.length 0 false .nil (Nat.zero_add _) (by simp;omega);have e1:bD (fw t (.mk P) (h:Int)) (false,0,Sl.nil)=some (false||nP t h P 0 P.length,es):=e1;have e2:es.l=wD t P 0 P.length:=e2;have hel:=Jt (t:=t) (P:=P) (n:=P.length) hr;have hF:xC (t.br.toNat:Int) es.l:=by rw[e2];exact Ju hV hP
 obtain⟨s,ok,g1,g2⟩:=IF (l:=es) (by rw[e2];omega) hF;have hsw:((t.br.toNat:Nat):Int)=t.br:=by omega
 rw[hsw]at g1;have g1:iK (ah.br t) es=some (s,ok):=g1;have hok:(!ok)=yK t P:=by unfold yK;rw[Bool.eq_iff_iff,Bool.not_eq_true',BB,<-e2];exact g2
 have f1:bF t old now mv rd a b c d dY (nP t h P 0 P.length) 5 (k:Int) (h:Int)=_:=oB (by omega);have hl:=K3 (dY:=dY) (k:=nP t h P 0 P.length) (x:=5) (y:=(k:Int)) (z:=(h:Int));have f2:bF t old now mv rd a b c d (qa dY (nP t h P 0 P.length) 5 (k:Int) (h:Int)) (yK t P) 6 (k:Int) (h:Int)=_:=oB (by omega);refine⟨qa (qa dY (nP t h P 0 P.length) 5 (k:Int) (h:Int)) (yK t P) 6 (k:Int) (h:Int),?_,?_⟩
 .simp only[ii,e1,af,Bool.false_or,g1,hok,f1,f2]
 .rw [rt,rt,aL];rfl
def kP(t:ah)(r:aj)(h:Nat)(mv:List ae)(A:List (Sl Int)):List (Sl Int):=uB t r h mv ((aK A.length).map fun s=>Sl.mk [gt (gt A s).l h])
theorem Iw{r:aj}{h:Nat}:∀(mv:List ae)(P:List (Sl Int)),(uB t r h mv P).length=P.length:=by intro mv;induction mv with|nil=>intro P;rfl|cons m mv ih=>intro P;exact(ih _).trans tf
theorem Iv{r:aj}{h:Nat}(s:Nat):∀(mv:List ae)(P:List (Sl Int)),(gt (uB t r h mv P) s).l.length<=(gt P s).l.length+mv.length:=by intro mv;induction mv with|nil=>intro P;exact Nat.le_refl _|cons m mv ih=>intro P;have h1:=ih (wP t r h P m);have h2:=ED (t:=t) (r:=r) (h:=h) (P:=P) (m:=m) s;have e:uB t r h (m::mv) P=uB t r h mv (wP t r h P m):=rfl;rw[e,List.length_cons];omega
theorem A8{A:List (Sl Int)}{h:Nat}(s:Nat):(gt ((aK A.length).map fun s=>Sl.mk [gt (gt A s).l h]) s).l.length<=1:=by
 by_cases hs:s<A.length
 .rw [cR (by simpa using hs)];simp
 .rw [LQ (by simpa using hs)];exact cG _
theorem w7{r:aj}{h:Nat}{mv:List ae}{A:List (Sl Int)}:(kP t r h mv A).length=A.length:=by unfold kP;rw[Iw];simp
theorem Da{r:aj}{h:Nat}{mv:List ae}{A:List (Sl Int)}(s:Nat):(gt (kP t r h mv A) s).l.length<=mv.length+1:=by have h1:=Iv (t:=t) (r:=r) (h:=h) s mv ((aK A.length).map fun s=>Sl.mk [gt (gt A s).l h]);have h2:=A8 (A:=A) (h:=h) s;unfold kP;omega
theorem Rc{r:aj}:∀(mv:List ae)(A:List (Sl Int)),(MW t r mv A).length=A.length:=by intro mv;induction mv with|nil=>intro P;rfl|cons m mv ih=>intro P;exact(ih _).trans sP
theorem Rb{r:aj}(s:Nat):∀(mv:List ae)(A:List (Sl Int)),(gt (MW t r mv A) s).l.length=(gt A s).l.length:=by intro mv;induction mv with|nil=>intro P;rfl|cons m mv ih=>intro P;exact(ih _).trans (yQ s)
def Ap(t:ah)(rd:List aj)(mv:List ae)(A:List (Sl Int))(k:Nat):List (Sl Int):=(rd.take k).foldl (fun A r=>MW t r mv A) A
theorem Ey{rd:List aj}{mv:List ae}{A:List (Sl Int)}{k:Nat}(h:k<rd.length):Ap t rd mv A (k+1)=MW t (gt rd k) mv (Ap t rd mv A k):=by unfold Ap;rw[cR h,<-List.take_append_getElem h,List.foldl_append];rfl
theorem Jf(mv:List ae):∀(rd:List aj)(A:List (Sl Int)),(rd.foldl (fun A r=>MW t r mv A) A).length=A.length:=by intro rd;induction rd with|nil=>intro A;rfl|cons r rd ih=>intro A;exact(ih _).trans (Rc _ _)
theorem Je(mv:List ae)(s:Nat):∀(rd:List aj)(A:List (Sl Int)),(gt (rd.foldl (fun A r=>MW t r mv A) A) s).l.length=(gt A s).l.length:=by intro rd;induction rd with|nil=>intro A;rfl|cons r rd ih=>intro A;exact(ih _).trans (Rb _ _ _)
theorem pg{rd:List aj}{mv:List ae}{A:List (Sl Int)}{k:Nat}:(Ap t rd mv A k).length=A.length:=Jf mv _ _
theorem Co{rd:List aj}{mv:List ae}{A:List (Sl Int)}{k:Nat}(s:Nat):(gt (Ap t rd mv A k) s).l.length=(gt A s).l.length:=Je mv s _ _
theorem A0{P:List (Sl Int)}{k h:Nat}:(yV t k h P).length<=2:=by unfold yV;rw[av];cases nP t h P 0 P.length<;>cases yK t P<;>simp
theorem F5(hV:lr t){A:List (Sl Int)}{k:Nat}(hA:(A.length:Int)=t.br)(hrow:∀s,s<A.length->(gt A s).l.length=t.bd.l.length)(hb:(gt R.l k).2.2.l.length<9223372036854775808)(hm:mv.l.length<=100):
  ∀(n h:Nat)(dY:Sl am),h+n=t.bd.l.length->dY.l.length+2*n<100000000->∃out',bD (eD R k (k:Int) t) ((h:Int),t,old,now,mv,rd,a,b,c,d,.mk A,dY)=some (t,old,now,mv,rd,a,b,c,d,.mk A,out')/\
   out'.l=dY.l++(dP h n).flatMap fun h=>yV t k h (kP t (gt R.l k) h mv.l A):=by
 have hs:=hV.sw;have hho:=hV.rT;intro n;induction n with
 |zero=>
  intro h dY hh ho;obtain rfl:h=t.bd.l.length:=by omega
  exact⟨dY,cB (by simp only[eD,kK,cond_false]),by simp⟩
 |succ n ih=>
  intro h dY hh ho;have hhl:h<t.bd.l.length:=by omega
  have hmk:zL (Sl.nil:Sl Int) (((Sl.mk A).l.length:Nat):Int) (((Sl.mk A).l.length:Nat):Int)=some (az A.length .nil):=by rw[Sl.iO,zL,if_pos (by omega)];simp
  have k1:=Db (A:=A) (h:=h) (fun s hs=>by rw[hrow s hs];exact hhl) (by omega) A.length 0 (az A.length .nil) (by omega) (by simp) (fun j hj=>by omega);have k1:bD (fD (h:Int) (.mk A)) (0,.mk A,.mk (az A.length .nil))=_:=k1;have k2:=Fx (t:=t) (old:=old) (now:=now) (mv:=mv) (rd:=rd) (R:=R) (a:=a) (b:=b) (c:=c) (d:=d) (dY:=dY) (k:=k) (h:=h) hb (by omega) mv.l.length 0 ((aK A.length).map fun s=>Sl.mk [gt (gt A s).l h]) (by omega) (by simpa using hA) (fun s _=>by have:=A8 (A:=A) (h:=h) s;omega);rw[cT]at k2;have k2:bD (eE R k old now dY rd mv (h:Int) t a b c d) (0,.mk ((aK A.length).map fun s=>Sl.mk [gt (gt A s).l h]))=some (.mk (kP t (gt R.l k) h mv.l A)):=k2;obtain⟨o1,f1,f2⟩:=LO (old:=old) (now:=now) (mv:=mv) (rd:=rd) (a:=a) (b:=b) (c:=c) (d:=d) (dY:=dY) hV (P:=kP t (gt R.l k) h mv.l A) (k:=k) (h:=h) (by rw[w7];exact hA) (fun s _=>by have:=Da (t:=t) (r:=gt R.l k) (h:=h) (mv:=mv.l) (A:=A) s;omega) hhl (by omega);have hl:o1.l.length<=dY.l.length+2:=by rw[f2,av];have:=A0 (t:=t) (P:=kP t (gt R.l k) h mv.l A) (k:=k) (h:=h);omega
  obtain⟨o',e1,e2⟩:=ih (h+1) o1 (by omega) (by omega);refine⟨o',(dl ?_).trans e1,?_⟩
  .simp only[eD,jt hhl,cond_true,hmk,af,k1,k2,f1,k9 (show h<9223372036854775807 by omega)]
  .rw [e2,f2,aL,lJ,bi]
def tE(t:ah)(rd:List aj)(mv:List ae)(A:List (Sl Int))(k n:Nat):List am:=(dP k n).flatMap fun k=>(dP 0 t.bd.l.length).flatMap fun h=>yV t k h (kP t (gt rd k) h mv (Ap t rd mv A k))
theorem C6(hV:lr t){A:List (Sl Int)}(hA:(A.length:Int)=t.br)(hrow:∀s,s<A.length->(gt A s).l.length=t.bd.l.length)(hb:∀r∈R.l,r.2.2.l.length<9223372036854775808)(hm:mv.l.length<=100)(hR:R.l.length<=1000):
  ∀(n k:Nat)(dY:Sl am),k+n=R.l.length->dY.l.length+16*n<1000000->∃out',bD (eB R) ((k:Int),t,old,now,mv,rd,a,b,c,d,.mk (Ap t R.l mv.l A k),dY)=some (t,old,now,mv,rd,a,b,c,d,out')/\
   out'.l=dY.l++tE t R.l mv.l A k n:=by
 have hho:=hV.rT;intro n;induction n with
 |zero=>
  intro k dY hk ho;obtain rfl:k=R.l.length:=by omega
  exact⟨dY,cB (by simp only[eB,kK,cond_false]),by simp[tE]⟩
 |succ n ih=>
  intro k dY hk ho;have hkl:k<R.l.length:=by omega
  have hbk:(gt R.l k).2.2.l.length<9223372036854775808:=hb _ (by rw[cR hkl];exact List.getElem_mem _);obtain⟨o1,f1,f2⟩:=F5 (old:=old) (now:=now) (mv:=mv) (rd:=rd) (R:=R) (a:=a) (b:=b) (c:=c) (d:=d) hV (A:=Ap t R.l mv.l A k) (k:=k) (by rw[pg];exact hA) (fun s hs=>by rw[Co];exact hrow s (by rwa[pg]at hs)) hbk hm t.bd.l.length 0 dY (by omega) (by omega);have f1:bD (eD R k (k:Int) t) (0,t,old,now,mv,rd,a,b,c,d,.mk (Ap t R.l mv.l A k),dY)=_:=f1;have hl:o1.l.length<=dY.l.length+16:=by rw[f2,av];have:=gT (m:=2) (f:=fun h=>yV t k h (kP t (gt R.l k) h mv.l (Ap t R.l mv.l A k))) (fun h=>A0) (dP 0 t.bd.l.length);rw[ja]at this;omega
  have k2:=Lt (t:=t) (old:=old) (now:=now) (mv:=mv) (rd:=rd) (R:=R) (a:=a) (b:=b) (c:=c) (d:=d) (dY:=o1) (k:=k) hbk (by omega) mv.l.length 0 (Ap t R.l mv.l A k) (by omega) (by rw[pg];exact hA) (fun s hs=>by rw[Co];exact hrow s (by rwa[pg]at hs));rw[cT,<-Ey hkl]at k2;have k2:bD (eC R k old mv o1 t now rd a b c d) (0,.mk (Ap t R.l mv.l A k))=_:=k2;obtain⟨o',e1,e2⟩:=ih (k+1) o1 (by omega) (by omega);refine⟨o',(dl ?_).trans e1,?_⟩
  .simp only[eB,jt hkl,cond_true,bq hkl,af,f1,k2,k9 (show k<9223372036854775807 by omega)]
  .rw [e2,f2,aL];unfold tE;rw[lJ,bi]
theorem Gv(hr:∀s,s<old.l.length->(gt old.l s).l.length<=1000)(hn:old.l.length<=1000):∀(n i:Nat)(S:List (Sl Int)),i+n=old.l.length->S.length=old.l.length->(∀j,j<i->gt S j=gt old.l j)->bD (fE old) ((i:Int),.mk S)=some (.mk old.l):=by
 intro n;induction n with
 |zero=>
  intro i S hi hS hj;obtain rfl:i=old.l.length:=by omega
  have e:S=old.l:=LR hS hj;exact cB (by simp only[fE,kK,cond_false,e])
 |succ n ih=>
  intro i S hi hS hj;have hil:i<old.l.length:=by omega
  have:=hr i hil;refine(dl ?_).trans (ih (i+1) (S.set i (gt old.l i)) (by omega) (by rw[List.length_set];exact hS) fun j hj2=>?_)
  .simp only[fE,jt hil,cond_true,bq hil,af,JE (show(gt old.l i).l.length<=2147483648 by omega),Sl.iO,bq (show i<S.length by omega),k9 (show i<9223372036854775807 by omega)]
  .rw [jP];split
   .rename_i hc;rw[hc.1]
   .exact hj j (by omega)
theorem Fq(hV:lr t)(hA:(old.l.length:Int)=t.br)(hrow:∀s,s<old.l.length->(gt old.l s).l.length=t.bd.l.length)(hb:∀r∈rd.l,r.2.2.l.length<9223372036854775808)(hm:mv.l.length<=100)(hR:rd.l.length<=1000)(ho:dY.l.length<100000):
  ∃out',gH t old now mv rd a b c d dY=some (t,old,now,mv,rd,a,b,c,d,out')/\out'.l=dY.l++tE t rd.l mv.l old.l 0 rd.l.length:=by
 have hs:=hV.sw;have hho:=hV.rT;have hmk:zL (Sl.nil:Sl Int) (old.l.length:Int) (old.l.length:Int)=some (az old.l.length .nil):=by rw[zL,if_pos (by omega)];simp
 have k1:=Gv (old:=old) (fun s hs=>by rw[hrow s hs];omega) (by omega) old.l.length 0 (az old.l.length .nil) (by omega) (by simp) (fun j hj=>by omega);have k1:bD (fE old) (0,.mk (az old.l.length .nil))=_:=k1;obtain⟨o',e1,e2⟩:=C6 (old:=old) (now:=now) (mv:=mv) (rd:=rd) (R:=rd) (a:=a) (b:=b) (c:=c) (d:=d) hV (A:=old.l) hA hrow hb hm hR rd.l.length 0 dY (by omega) (by omega);have e1:bD (eB rd) (0,t,old,now,mv,rd,a,b,c,d,.mk old.l,dY)=_:=e1;exact⟨o',by simp only[gH,hmk,af,k1,e1],e2⟩
def zw(t:ah)(old now:Sl (Sl Int))(p:aJ):List am:=w8 old now p.iZ.l p.eI.l 0 now.l.length++(wB t old now p.iZ.l p.eI.l 0 p.iZ.l.length++(rJ (2*sM p.Av+iw t+1) p.eI.l 1 (p.eI.l.length-1)++tE t p.eI.l p.iZ.l old.l 0 p.eI.l.length))
theorem Jl{k n:Nat}:(wB t old now mv.l rd.l k n).length<=n:=by unfold wB;have:=gT (m:=1) (f:=fun(k:Nat)=>bif oN t old now rd.l (gt mv.l k)then[((3,(k:Int),(gt mv.l k).2.1):am)]else[]) (fun k=>by cases oN t old now rd.l (gt mv.l k)<;>simp) (dP k n);rw[ja]at this;omega
theorem JD{gap:Int}{k n:Nat}:(rJ gap rd.l k n).length<=n:=by unfold rJ;have:=gT (m:=1) (f:=fun(j:Nat)=>bif nY gap rd.l j then[((4,(j:Int),0):am)]else[]) (fun j=>by cases nY gap rd.l j<;>simp) (dP k n);rw[ja]at this;omega
theorem I0(hn:∀s,s<now.l.length->(gt now.l s).l.length<=8){n:Nat}:(w8 old now mv.l rd.l 0 n).length<=8*n:=by unfold w8;have:=gT (m:=8) (f:=fun s:Nat=>AW old now mv.l rd.l s 0 (gt now.l s).l.length) (fun s=>by have h1:=DG (old:=old) (now:=now) (mv:=mv) (rd:=rd) (s:=s) (h:=0) (n:=(gt now.l s).l.length);have h2:=KA hn s;omega) (dP 0 n);rw[ja]at this;exact this
theorem JF{p:aJ}(hS1:mg t old)(hS2:mg t now)(hm:p.iZ.l.length<=100)(hR:p.eI.l.length<=12)(hb:∀r∈p.eI.l,r.2.2.l.length<=20):
  ∃s,fx t old now p=some s/\s.l=bif tt (gx t old/\gx t now)then zw t old now p else[(1,0,0)]:=by
 have g1:=vw hS1;have g2:=vw hS2;by_cases hG1:gx t old
 .by_cases hG2:gx t now
  .rw [BC hG1]at g1;rw[BC hG2]at g2;obtain⟨mv,rd,miss,life,from_,to_⟩:=p;have hm:mv.l.length<=100:=hm;have hR:rd.l.length<=12:=hR;have hb:∀r∈rd.l,r.2.2.l.length<=20:=hb;have hV:=hG1.1.sy;have hsw:=hV.sw;have hho:=hV.rT;have l1:=hG1.1.len;have l2:=hG2.1.len;have r1:∀s,s<old.l.length->(gt old.l s).l.length=t.bd.l.length:=fun s hs=>hG1.1.dj hs;have r2:∀s,s<now.l.length->(gt now.l s).l.length=t.bd.l.length:=fun s hs=>hG2.1.dj hs;have hb':∀r∈rd.l,r.2.2.l.length<9223372036854775808:=fun r hr=>by have:=hb r hr;omega
   obtain⟨o1,e1,e2⟩:=Lf (t:=t) (old:=old) (now:=now) (mv:=mv) (rd:=rd) (a:=miss) (b:=life) (c:=from_) (d:=to_) (by omega) hb' (by omega) (by omega) (fun s hs=>⟨by rw[r1 s (by omega),r2 s hs],by rw[r2 s hs];omega⟩) (by omega) now.l.length 0 .nil (by omega) (by simp;omega);have e1:bD (eU now) (0,t,old,now,mv,rd,miss,life,from_,to_,Sl.nil)=_:=e1;have n1:=I0 (old:=old) (now:=now) (mv:=mv) (rd:=rd) (fun s hs=>by rw[r2 s hs];exact hho) (n:=now.l.length);have ho1:o1.l.length<=64:=by rw[e2];simp;omega
   obtain⟨o2,f1,f2⟩:=Gh (t:=t) (old:=old) (now:=now) (mv:=mv) (rd:=rd) (a:=miss) (b:=life) (c:=from_) (d:=to_) (by omega) hb' (by omega) l2 l1 r2 r1 mv.l.length 0 o1 (by omega) (by omega);have f1:bD (eT mv) (0,t,old,now,mv,rd,miss,life,from_,to_,o1)=_:=f1;have n2:=Jl (t:=t) (old:=old) (now:=now) (mv:=mv) (rd:=rd) (k:=0) (n:=mv.l.length);have ho2:o2.l.length<=164:=by rw[f2,av];omega
   obtain⟨o3,q1,q2⟩:=H7 (t:=t) (old:=old) (now:=now) (mv:=mv) (rd:=rd) (miss:=miss) (b:=life) (c:=from_) (d:=to_) (dY:=o2) hV (by omega) (by omega);have n3:=JD (rd:=rd) (gap:=2*sM miss+iw t+1) (k:=1) (n:=rd.l.length-1);have ho3:o3.l.length<=176:=by rw[q2,av];omega
   obtain⟨o4,u1,u2⟩:=Fq (t:=t) (old:=old) (now:=now) (mv:=mv) (rd:=rd) (a:=miss) (b:=life) (c:=from_) (d:=to_) (dY:=o3) hV l1 r1 hb' (by omega) (by omega) (by omega);refine⟨o4,?_,?_⟩
   .have em:f_ t old now mv rd miss life from_ to_ .nil=some (t,old,now,mv,rd,miss,life,from_,to_,o2):=by simp only[f_,e1,af,f1]
    have em:f_ t old now (aJ.iZ (mv,rd,miss,life,from_,to_)) (aJ.eI (mv,rd,miss,life,from_,to_)) (aJ.Av (mv,rd,miss,life,from_,to_)) (aJ.GM (mv,rd,miss,life,from_,to_)) (aJ.pN (mv,rd,miss,life,from_,to_)) (aJ.To (mv,rd,miss,life,from_,to_)) .nil=_:=em;simp only[fx,g1,g2,af,bS,cond_false,em,q1,u1]
   .rw [u2,q2,f2,e2,BC ⟨hG1,hG2⟩,cond_true];simp only[Sl.Lv,List.nil_append,aL];rfl
  .rw [BC hG1]at g1;rw[xY hG2]at g2;exact⟨.mk [(1,0,0)],by simp only[fx,g1,g2,af,bS,dQ,cond_false,cond_true],by rw[xY (fun h=>hG2 h.2)];rfl⟩
 .rw [xY hG1]at g1;exact⟨.mk [(1,0,0)],by simp only[fx,g1,af,dQ,cond_true],by rw[xY (fun h=>hG1 h.1)];rfl⟩
end
end Go.Proofs.YthcplpfiidlinaaDoor.J
