/- Findings: what Check notes, as lists. Conditions: lengths as stated. -/
import Derived.Test.YthcplpfiidlinaaDoorJK
import Derived.Test.YthcplpfiidlinaaDoorJB
open Go.Ev Go
noncomputable section
open Bool renaming not_false->eI,not_true->ce
open List renaming append_assoc->aL,drop_zero->cS,flatMap_cons->bi,length_append->av,length_range'->iZ,mem_flatMap->bS,range->aK,range'->dM,range'_succ->lF,replicate->az
open Nat renaming zero_le->cF
open Option renaming bind_some->af
namespace Go.Proofs.YthcplpfiidlinaaDoor.J
def yE(t:ah)(P:List (Sl Int)):Bool:=tt (SO t.bq.toNat (ww t P 0 P.length))
def yP(t:ah)(k h:Nat)(P:List (Sl Int)):List am:=(bif nL t h P 0 P.length then[(5,(k:Int),(h:Int))]else[])++(bif yE t P then[(6,(k:Int),(h:Int))]else[])
theorem LN{P:List (Sl Int)}{s:Nat}(h:¬s<P.length):gt P s=(default:Sl Int):=F6 (by omega)
theorem Kx{P:List (Sl Int)}{m:Nat}(h:∀s,s<P.length->(gt P s).l.length<=m)(s:Nat):(gt P s).l.length<=m:=by
 by_cases hs:s<P.length
 .exact h s hs
 .rw [LN hs];exact cF _
theorem Jo{t:ah}{P:List (Sl Int)}{m n:Nat}(h:∀s,s<P.length->(gt P s).l.length<=m):(ww t P 0 n).length<=m*n:=by have:=ia (m:=m) (f:=fun s:Nat=>(gt P s).l.flatMap (qP t (s:Int))) (fun s=>by have:=ia (m:=1) (f:=qP t (s:Int)) (fun p=>D5) (gt P s).l;have:=Kx h s;omega) (dM 0 n);rw[iZ]at this;exact this
theorem Jp{t:ah}(hV:lk t){P:List (Sl Int)}(hP:(P.length:Int)=t.bq):xu (t.bq.toNat:Int) (ww t P 0 P.length):=by
 have hs:=hV.sw;refine⟨by omega,fun e he=>?_⟩;obtain⟨s,h1,h2⟩:=bS.1 he;obtain⟨p,_,h3⟩:=bS.1 h2;rw[List.mem_range'_1]at h1;unfold qP at h3;cases hk:(kN t (s:Int) p).2.2.2 with
 |false=>rw[hk]at h3;cases h3
 |true=>
  rw[hk,cond_true,List.mem_singleton]at h3;subst h3;unfold kN at hk;have hto:0<=(kN t (s:Int) p).1/\(kN t (s:Int) p).1<t.bq:=by unfold kN;cases hc:lT (oQ (s:Int) p) t.bU.l 0 with|none=>rw[hc]at hk;cases hk|some q=>obtain⟨a,b,c⟩:=q;exact G3 hV hc
  show((0:Int)<=(s:Int)/\(s:Int)<_)/\0<=(kN t (s:Int) p).1/\(kN t (s:Int) p).1<_;omega
section
variable{t:ah}{old now:Sl (Sl Int)}{mv:Sl ae}{rd R:Sl aj}{a b c d:Int}{dV:Sl am}
theorem KZ{k:Bool}{x y z:Int}:(p8 dV k x y z).l.length<=dV.l.length+1:=by rw[rm];cases k<;>simp
theorem LL(hV:lk t){P:List (Sl Int)}{k h:Nat}(hP:(P.length:Int)=t.bq)(hr:∀s,s<P.length->(gt P s).l.length<=1000)(hh:h<t.bd.l.length)(ho:dV.l.length<1000000000):
  ∃out',ig t old now mv rd a b c d dV (.mk P) (k:Int) (h:Int)=some (t,old,now,mv,rd,a,b,c,d,out')/\out'.l=dV.l++yP t k h P:=by
 have hs:=hV.sw;have hlk:=hV.Hl;have hPl:P.length<=8:=by omega
 obtain⟨es,e1,e2⟩:=F1 (t:=t) (P:=.mk P) (h:=h) (by omega) hh hr (show P.length<=1000 by omega) P.length 0 false .nil (Nat.zero_add _) (by simp;omega);have e1:bD (fm t (.mk P) (h:Int)) (false,0,Sl.nil)=some (false||nL t h P 0 P.length,es):=e1;have e2:es.l=ww t P 0 P.length:=e2;have hel:=Jo (t:=t) (P:=P) (n:=P.length) hr;have hF:xu (t.bq.toNat:Int) es.l:=by rw[e2];exact Jp hV hP
 obtain⟨s,ok,g1,g2⟩:=Iz (l:=es) (by rw[e2];omega) hF;have hsw:((t.bq.toNat:Nat):Int)=t.bq:=by omega
 rw[hsw]at g1;have g1:iI (ah.bq t) es=some (s,ok):=g1;have hok:(!ok)=yE t P:=by unfold yE;rw[Bool.eq_iff_iff,Bool.not_eq_true',Br,<-e2];exact g2
 have f1:bF t old now mv rd a b c d dV (nL t h P 0 P.length) 5 (k:Int) (h:Int)=_:=ot (by omega);have hl:=KZ (dV:=dV) (k:=nL t h P 0 P.length) (x:=5) (y:=(k:Int)) (z:=(h:Int));have f2:bF t old now mv rd a b c d (p8 dV (nL t h P 0 P.length) 5 (k:Int) (h:Int)) (yE t P) 6 (k:Int) (h:Int)=_:=ot (by omega);refine⟨p8 (p8 dV (nL t h P 0 P.length) 5 (k:Int) (h:Int)) (yE t P) 6 (k:Int) (h:Int),?_,?_⟩
 .simp only[ig,e1,af,Bool.false_or,g1,hok,f1,f2]
 .rw [rm,rm,aL];rfl
def kM(t:ah)(r:aj)(h:Nat)(mv:List ae)(A:List (Sl Int)):List (Sl Int):=uv t r h mv ((aK A.length).map fun s=>Sl.mk [gt (gt A s).l h])
theorem Iq{r:aj}{h:Nat}:∀(mv:List ae)(P:List (Sl Int)),(uv t r h mv P).length=P.length:=by intro mv;induction mv with|nil=>intro P;rfl|cons m mv ih=>intro P;exact(ih _).trans sX
theorem Ip{r:aj}{h:Nat}(s:Nat):∀(mv:List ae)(P:List (Sl Int)),(gt (uv t r h mv P) s).l.length<=(gt P s).l.length+mv.length:=by intro mv;induction mv with|nil=>intro P;exact Nat.le_refl _|cons m mv ih=>intro P;have h1:=ih (wJ t r h P m);have h2:=Ey (t:=t) (r:=r) (h:=h) (P:=P) (m:=m) s;have e:uv t r h (m::mv) P=uv t r h mv (wJ t r h P m):=rfl;rw[e,List.length_cons];omega
theorem AY{A:List (Sl Int)}{h:Nat}(s:Nat):(gt ((aK A.length).map fun s=>Sl.mk [gt (gt A s).l h]) s).l.length<=1:=by
 by_cases hs:s<A.length
 .rw [cP (by simpa using hs)];simp
 .rw [LN (by simpa using hs)];exact cF _
theorem wU{r:aj}{h:Nat}{mv:List ae}{A:List (Sl Int)}:(kM t r h mv A).length=A.length:=by unfold kM;rw[Iq];simp
theorem C5{r:aj}{h:Nat}{mv:List ae}{A:List (Sl Int)}(s:Nat):(gt (kM t r h mv A) s).l.length<=mv.length+1:=by have h1:=Ip (t:=t) (r:=r) (h:=h) s mv ((aK A.length).map fun s=>Sl.mk [gt (gt A s).l h]);have h2:=AY (A:=A) (h:=h) s;unfold kM;omega
theorem Q_{r:aj}:∀(mv:List ae)(A:List (Sl Int)),(MT t r mv A).length=A.length:=by intro mv;induction mv with|nil=>intro P;rfl|cons m mv ih=>intro P;exact(ih _).trans sJ
theorem Q9{r:aj}(s:Nat):∀(mv:List ae)(A:List (Sl Int)),(gt (MT t r mv A) s).l.length=(gt A s).l.length:=by intro mv;induction mv with|nil=>intro P;rfl|cons m mv ih=>intro P;exact(ih _).trans (yK s)
def Ag(t:ah)(rd:List aj)(mv:List ae)(A:List (Sl Int))(k:Nat):List (Sl Int):=(rd.take k).foldl (fun A r=>MT t r mv A) A
theorem Er{rd:List aj}{mv:List ae}{A:List (Sl Int)}{k:Nat}(h:k<rd.length):Ag t rd mv A (k+1)=MT t (gt rd k) mv (Ag t rd mv A k):=by unfold Ag;rw[cP h,<-List.take_append_getElem h,List.foldl_append];rfl
theorem Ja(mv:List ae):∀(rd:List aj)(A:List (Sl Int)),(rd.foldl (fun A r=>MT t r mv A) A).length=A.length:=by intro rd;induction rd with|nil=>intro A;rfl|cons r rd ih=>intro A;exact(ih _).trans (Q_ _ _)
theorem I_(mv:List ae)(s:Nat):∀(rd:List aj)(A:List (Sl Int)),(gt (rd.foldl (fun A r=>MT t r mv A) A) s).l.length=(gt A s).l.length:=by intro rd;induction rd with|nil=>intro A;rfl|cons r rd ih=>intro A;exact(ih _).trans (Q9 _ _ _)
theorem o_{rd:List aj}{mv:List ae}{A:List (Sl Int)}{k:Nat}:(Ag t rd mv A k).length=A.length:=Ja mv _ _
theorem Ce{rd:List aj}{mv:List ae}{A:List (Sl Int)}{k:Nat}(s:Nat):(gt (Ag t rd mv A k) s).l.length=(gt A s).l.length:=I_ mv s _ _
theorem AQ{P:List (Sl Int)}{k h:Nat}:(yP t k h P).length<=2:=by unfold yP;rw[av];cases nL t h P 0 P.length<;>cases yE t P<;>simp
theorem F0(hV:lk t){A:List (Sl Int)}{k:Nat}(hA:(A.length:Int)=t.bq)(hrow:∀s,s<A.length->(gt A s).l.length=t.bd.l.length)(hb:(gt R.l k).2.2.l.length<9223372036854775808)(hm:mv.l.length<=100):
  ∀(n h:Nat)(dV:Sl am),h+n=t.bd.l.length->dV.l.length+2*n<100000000->∃out',bD (eA R k (k:Int) t) ((h:Int),t,old,now,mv,rd,a,b,c,d,.mk A,dV)=some (t,old,now,mv,rd,a,b,c,d,.mk A,out')/\
   out'.l=dV.l++(dM h n).flatMap fun h=>yP t k h (kM t (gt R.l k) h mv.l A):=by
 have hs:=hV.sw;have hho:=hV.rO;intro n;induction n with
 |zero=>
  intro h dV hh ho;obtain rfl:h=t.bd.l.length:=by omega
  exact⟨dV,cA (by simp only[eA,kH,cond_false]),by simp⟩
 |succ n ih=>
  intro h dV hh ho;have hhl:h<t.bd.l.length:=by omega
  have hmk:zD (Sl.nil:Sl Int) (((Sl.mk A).l.length:Nat):Int) (((Sl.mk A).l.length:Nat):Int)=some (az A.length .nil):=by rw[Sl.iM,zD,if_pos (by omega)];simp
  have k1:=C6 (A:=A) (h:=h) (fun s hs=>by rw[hrow s hs];exact hhl) (by omega) A.length 0 (az A.length .nil) (by omega) (by simp) (fun j hj=>by omega);have k1:bD (fA (h:Int) (.mk A)) (0,.mk A,.mk (az A.length .nil))=_:=k1;have k2:=Fs (t:=t) (old:=old) (now:=now) (mv:=mv) (rd:=rd) (R:=R) (a:=a) (b:=b) (c:=c) (d:=d) (dV:=dV) (k:=k) (h:=h) hb (by omega) mv.l.length 0 ((aK A.length).map fun s=>Sl.mk [gt (gt A s).l h]) (by omega) (by simpa using hA) (fun s _=>by have:=AY (A:=A) (h:=h) s;omega);rw[cS]at k2;have k2:bD (eB R k old now dV rd mv (h:Int) t a b c d) (0,.mk ((aK A.length).map fun s=>Sl.mk [gt (gt A s).l h]))=some (.mk (kM t (gt R.l k) h mv.l A)):=k2;obtain⟨o1,f1,f2⟩:=LL (old:=old) (now:=now) (mv:=mv) (rd:=rd) (a:=a) (b:=b) (c:=c) (d:=d) (dV:=dV) hV (P:=kM t (gt R.l k) h mv.l A) (k:=k) (h:=h) (by rw[wU];exact hA) (fun s _=>by have:=C5 (t:=t) (r:=gt R.l k) (h:=h) (mv:=mv.l) (A:=A) s;omega) hhl (by omega);have hl:o1.l.length<=dV.l.length+2:=by rw[f2,av];have:=AQ (t:=t) (P:=kM t (gt R.l k) h mv.l A) (k:=k) (h:=h);omega
  obtain⟨o',e1,e2⟩:=ih (h+1) o1 (by omega) (by omega);refine⟨o',(dl ?_).trans e1,?_⟩
  .simp only[eA,js hhl,cond_true,hmk,af,k1,k2,f1,kY (show h<9223372036854775807 by omega)]
  .rw [e2,f2,aL,lF,bi]
def tq(t:ah)(rd:List aj)(mv:List ae)(A:List (Sl Int))(k n:Nat):List am:=(dM k n).flatMap fun k=>(dM 0 t.bd.l.length).flatMap fun h=>yP t k h (kM t (gt rd k) h mv (Ag t rd mv A k))
theorem CY(hV:lk t){A:List (Sl Int)}(hA:(A.length:Int)=t.bq)(hrow:∀s,s<A.length->(gt A s).l.length=t.bd.l.length)(hb:∀r∈R.l,r.2.2.l.length<9223372036854775808)(hm:mv.l.length<=100)(hR:R.l.length<=1000):
  ∀(n k:Nat)(dV:Sl am),k+n=R.l.length->dV.l.length+16*n<1000000->∃out',bD (ew R) ((k:Int),t,old,now,mv,rd,a,b,c,d,.mk (Ag t R.l mv.l A k),dV)=some (t,old,now,mv,rd,a,b,c,d,out')/\
   out'.l=dV.l++tq t R.l mv.l A k n:=by
 have hho:=hV.rO;intro n;induction n with
 |zero=>
  intro k dV hk ho;obtain rfl:k=R.l.length:=by omega
  exact⟨dV,cA (by simp only[ew,kH,cond_false]),by simp[tq]⟩
 |succ n ih=>
  intro k dV hk ho;have hkl:k<R.l.length:=by omega
  have hbk:(gt R.l k).2.2.l.length<9223372036854775808:=hb _ (by rw[cP hkl];exact List.getElem_mem _);obtain⟨o1,f1,f2⟩:=F0 (old:=old) (now:=now) (mv:=mv) (rd:=rd) (R:=R) (a:=a) (b:=b) (c:=c) (d:=d) hV (A:=Ag t R.l mv.l A k) (k:=k) (by rw[o_];exact hA) (fun s hs=>by rw[Ce];exact hrow s (by rwa[o_]at hs)) hbk hm t.bd.l.length 0 dV (by omega) (by omega);have f1:bD (eA R k (k:Int) t) (0,t,old,now,mv,rd,a,b,c,d,.mk (Ag t R.l mv.l A k),dV)=_:=f1;have hl:o1.l.length<=dV.l.length+16:=by rw[f2,av];have:=ia (m:=2) (f:=fun h=>yP t k h (kM t (gt R.l k) h mv.l (Ag t R.l mv.l A k))) (fun h=>AQ) (dM 0 t.bd.l.length);rw[iZ]at this;omega
  have k2:=Lq (t:=t) (old:=old) (now:=now) (mv:=mv) (rd:=rd) (R:=R) (a:=a) (b:=b) (c:=c) (d:=d) (dV:=o1) (k:=k) hbk (by omega) mv.l.length 0 (Ag t R.l mv.l A k) (by omega) (by rw[o_];exact hA) (fun s hs=>by rw[Ce];exact hrow s (by rwa[o_]at hs));rw[cS,<-Er hkl]at k2;have k2:bD (ez R k old mv o1 t now rd a b c d) (0,.mk (Ag t R.l mv.l A k))=_:=k2;obtain⟨o',e1,e2⟩:=ih (k+1) o1 (by omega) (by omega);refine⟨o',(dl ?_).trans e1,?_⟩
  .simp only[ew,js hkl,cond_true,bp hkl,af,f1,k2,kY (show k<9223372036854775807 by omega)]
  .rw [e2,f2,aL];unfold tq;rw[lF,bi]
theorem Gs(hr:∀s,s<old.l.length->(gt old.l s).l.length<=1000)(hn:old.l.length<=1000):∀(n i:Nat)(S:List (Sl Int)),i+n=old.l.length->S.length=old.l.length->(∀j,j<i->gt S j=gt old.l j)->bD (fB old) ((i:Int),.mk S)=some (.mk old.l):=by
 intro n;induction n with
 |zero=>
  intro i S hi hS hj;obtain rfl:i=old.l.length:=by omega
  have e:S=old.l:=LO hS hj;exact cA (by simp only[fB,kH,cond_false,e])
 |succ n ih=>
  intro i S hi hS hj;have hil:i<old.l.length:=by omega
  have:=hr i hil;refine(dl ?_).trans (ih (i+1) (S.set i (gt old.l i)) (by omega) (by rw[List.length_set];exact hS) fun j hj2=>?_)
  .simp only[fB,js hil,cond_true,bp hil,af,Jz (show(gt old.l i).l.length<=2147483648 by omega),Sl.iM,bp (show i<S.length by omega),kY (show i<9223372036854775807 by omega)]
  .rw [jM];split
   .rename_i hc;rw[hc.1]
   .exact hj j (by omega)
theorem Fi(hV:lk t)(hA:(old.l.length:Int)=t.bq)(hrow:∀s,s<old.l.length->(gt old.l s).l.length=t.bd.l.length)(hb:∀r∈rd.l,r.2.2.l.length<9223372036854775808)(hm:mv.l.length<=100)(hR:rd.l.length<=1000)(ho:dV.l.length<100000):
  ∃out',gH t old now mv rd a b c d dV=some (t,old,now,mv,rd,a,b,c,d,out')/\out'.l=dV.l++tq t rd.l mv.l old.l 0 rd.l.length:=by
 have hs:=hV.sw;have hho:=hV.rO;have hmk:zD (Sl.nil:Sl Int) (old.l.length:Int) (old.l.length:Int)=some (az old.l.length .nil):=by rw[zD,if_pos (by omega)];simp
 have k1:=Gs (old:=old) (fun s hs=>by rw[hrow s hs];omega) (by omega) old.l.length 0 (az old.l.length .nil) (by omega) (by simp) (fun j hj=>by omega);have k1:bD (fB old) (0,.mk (az old.l.length .nil))=_:=k1;obtain⟨o',e1,e2⟩:=CY (old:=old) (now:=now) (mv:=mv) (rd:=rd) (R:=rd) (a:=a) (b:=b) (c:=c) (d:=d) hV (A:=old.l) hA hrow hb hm hR rd.l.length 0 dV (by omega) (by omega);have e1:bD (ew rd) (0,t,old,now,mv,rd,a,b,c,d,.mk old.l,dV)=_:=e1;exact⟨o',by simp only[gH,hmk,af,k1,e1],e2⟩
def B8(t:ah)(old now:Sl (Sl Int))(p:aJ):List am:=wV old now p.jf.l p.fo.l 0 now.l.length++(wu t old now p.jf.l p.fo.l 0 p.jf.l.length++(sR (2*sG p.Co+iU t+1) p.fo.l 1 (p.fo.l.length-1)++tq t p.fo.l p.jf.l old.l 0 p.fo.l.length))
theorem Jg{k n:Nat}:(wu t old now mv.l rd.l k n).length<=n:=by unfold wu;have:=ia (m:=1) (f:=fun(k:Nat)=>bif oJ t old now rd.l (gt mv.l k)then[((3,(k:Int),(gt mv.l k).2.1):am)]else[]) (fun k=>by cases oJ t old now rd.l (gt mv.l k)<;>simp) (dM k n);rw[iZ]at this;omega
theorem Jy{gap:Int}{k n:Nat}:(sR gap rd.l k n).length<=n:=by unfold sR;have:=ia (m:=1) (f:=fun(j:Nat)=>bif oL gap rd.l j then[((4,(j:Int),0):am)]else[]) (fun j=>by cases oL gap rd.l j<;>simp) (dM k n);rw[iZ]at this;omega
theorem IV(hn:∀s,s<now.l.length->(gt now.l s).l.length<=8){n:Nat}:(wV old now mv.l rd.l 0 n).length<=8*n:=by unfold wV;have:=ia (m:=8) (f:=fun s:Nat=>AL old now mv.l rd.l s 0 (gt now.l s).l.length) (fun s=>by have h1:=DA (old:=old) (now:=now) (mv:=mv) (rd:=rd) (s:=s) (h:=0) (n:=(gt now.l s).l.length);have h2:=Kx hn s;omega) (dM 0 n);rw[iZ]at this;exact this
theorem JA{p:aJ}(hS1:ng t old)(hS2:ng t now)(hm:p.jf.l.length<=100)(hR:p.fo.l.length<=12)(hb:∀r∈p.fo.l,r.2.2.l.length<=20):
  ∃s,fS t old now p=some s/\s.l=bif tt (gx t old/\gx t now)then B8 t old now p else[(1,0,0)]:=by
 have g1:=vp hS1;have g2:=vp hS2;by_cases hG1:gx t old
 .by_cases hG2:gx t now
  .rw [Bs hG1]at g1;rw[Bs hG2]at g2;obtain⟨mv,rd,miss,life,from_,to_⟩:=p;have hm:mv.l.length<=100:=hm;have hR:rd.l.length<=12:=hR;have hb:∀r∈rd.l,r.2.2.l.length<=20:=hb;have hV:=hG1.1.tR;have hsw:=hV.sw;have hho:=hV.rO;have l1:=hG1.1.len;have l2:=hG2.1.len;have r1:∀s,s<old.l.length->(gt old.l s).l.length=t.bd.l.length:=fun s hs=>hG1.1.dj hs;have r2:∀s,s<now.l.length->(gt now.l s).l.length=t.bd.l.length:=fun s hs=>hG2.1.dj hs;have hb':∀r∈rd.l,r.2.2.l.length<9223372036854775808:=fun r hr=>by have:=hb r hr;omega
   obtain⟨o1,e1,e2⟩:=Lc (t:=t) (old:=old) (now:=now) (mv:=mv) (rd:=rd) (a:=miss) (b:=life) (c:=from_) (d:=to_) (by omega) hb' (by omega) (by omega) (fun s hs=>⟨by rw[r1 s (by omega),r2 s hs],by rw[r2 s hs];omega⟩) (by omega) now.l.length 0 .nil (by omega) (by simp;omega);have e1:bD (eR now) (0,t,old,now,mv,rd,miss,life,from_,to_,Sl.nil)=_:=e1;have n1:=IV (old:=old) (now:=now) (mv:=mv) (rd:=rd) (fun s hs=>by rw[r2 s hs];exact hho) (n:=now.l.length);have ho1:o1.l.length<=64:=by rw[e2];simp;omega
   obtain⟨o2,f1,f2⟩:=Ge (t:=t) (old:=old) (now:=now) (mv:=mv) (rd:=rd) (a:=miss) (b:=life) (c:=from_) (d:=to_) (by omega) hb' (by omega) l2 l1 r2 r1 mv.l.length 0 o1 (by omega) (by omega);have f1:bD (eQ mv) (0,t,old,now,mv,rd,miss,life,from_,to_,o1)=_:=f1;have n2:=Jg (t:=t) (old:=old) (now:=now) (mv:=mv) (rd:=rd) (k:=0) (n:=mv.l.length);have ho2:o2.l.length<=164:=by rw[f2,av];omega
   obtain⟨o3,q1,q2⟩:=HY (t:=t) (old:=old) (now:=now) (mv:=mv) (rd:=rd) (miss:=miss) (b:=life) (c:=from_) (d:=to_) (dV:=o2) hV (by omega) (by omega);have n3:=Jy (rd:=rd) (gap:=2*sG miss+iU t+1) (k:=1) (n:=rd.l.length-1);have ho3:o3.l.length<=176:=by rw[q2,av];omega
   obtain⟨o4,u1,u2⟩:=Fi (t:=t) (old:=old) (now:=now) (mv:=mv) (rd:=rd) (a:=miss) (b:=life) (c:=from_) (d:=to_) (dV:=o3) hV l1 r1 hb' (by omega) (by omega) (by omega);refine⟨o4,?_,?_⟩
   .have em:fZ t old now mv rd miss life from_ to_ .nil=some (t,old,now,mv,rd,miss,life,from_,to_,o2):=by simp only[fZ,e1,af,f1]
    have em:fZ t old now (aJ.jf (mv,rd,miss,life,from_,to_)) (aJ.fo (mv,rd,miss,life,from_,to_)) (aJ.Co (mv,rd,miss,life,from_,to_)) (aJ.JR (mv,rd,miss,life,from_,to_)) (aJ.pT (mv,rd,miss,life,from_,to_)) (aJ.To (mv,rd,miss,life,from_,to_)) .nil=_:=em;simp only[fS,g1,g2,af,ce,cond_false,em,q1,u1]
   .rw [u2,q2,f2,e2,Bs ⟨hG1,hG2⟩,cond_true];simp only[Sl.Ls,List.nil_append,aL];rfl
  .rw [Bs hG1]at g1;rw[xR hG2]at g2;exact⟨.mk [(1,0,0)],by simp only[fS,g1,g2,af,ce,eI,cond_false,cond_true],by rw[xR (fun h=>hG2 h.2)];rfl⟩
 .rw [xR hG1]at g1;exact⟨.mk [(1,0,0)],by simp only[fS,g1,af,eI,cond_true],by rw[xR (fun h=>hG1 h.1)];rfl⟩
end
end Go.Proofs.YthcplpfiidlinaaDoor.J
