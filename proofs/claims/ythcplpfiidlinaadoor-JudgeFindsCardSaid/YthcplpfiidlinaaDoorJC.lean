/- Findings: what Check notes, as lists. Conditions: lengths as stated. -/
import Derived.Test.YthcplpfiidlinaaDoorJK
import Derived.Test.YthcplpfiidlinaaDoorJB
open Go.Ev Go
noncomputable section
open Bool renaming not_false->eO,not_true->ce
open List renaming append_assoc->aJ,drop_zero->cS,flatMap_cons->bi,length_append->av,length_range'->i_,mem_flatMap->bS,range->aL,range'->dR,range'_succ->lJ,replicate->az
open Nat renaming zero_le->cF
open Option renaming bind_some->af
namespace Go.Proofs.YthcplpfiidlinaaDoor.J
def yQ(t:ah)(P:List (Sl Int)):Bool:=tt (S7 t.bq.toNat (wF t P 0 P.length))
def y9(t:ah)(k h:Nat)(P:List (Sl Int)):List ao:=(bif nO t h P 0 P.length then[(5,(k:Int),(h:Int))]else[])++(bif yQ t P then[(6,(k:Int),(h:Int))]else[])
theorem LW{P:List (Sl Int)}{s:Nat}(h:¬s<P.length):gt P s=(default:Sl Int):=Gg (by omega)
theorem KF{P:List (Sl Int)}{m:Nat}(h:∀s,s<P.length->(gt P s).l.length<=m)(s:Nat):(gt P s).l.length<=m:=by
 by_cases hs:s<P.length
 .exact h s hs
 .rw [LW hs];exact cF _
theorem Jx{t:ah}{P:List (Sl Int)}{m n:Nat}(h:∀s,s<P.length->(gt P s).l.length<=m):(wF t P 0 n).length<=m*n:=by have:=gS (m:=m) (f:=fun s:Nat=>(gt P s).l.flatMap (qX t (s:Int))) (fun s=>by have:=gS (m:=1) (f:=qX t (s:Int)) (fun p=>Ei) (gt P s).l;have:=KF h s;omega) (dR 0 n);rw[i_]at this;exact this
theorem Jy{t:ah}(hV:lp t){P:List (Sl Int)}(hP:(P.length:Int)=t.bq):xE (t.bq.toNat:Int) (wF t P 0 P.length):=by
 have hs:=hV.sw;refine⟨by omega,fun e he=>?_⟩;obtain⟨s,h1,h2⟩:=bS.1 he;obtain⟨p,_,h3⟩:=bS.1 h2;rw[List.mem_range'_1]at h1;unfold qX at h3;cases hk:(kQ t (s:Int) p).2.2.2 with
 |false=>rw[hk]at h3;cases h3
 |true=>
  rw[hk,cond_true,List.mem_singleton]at h3;subst h3;unfold kQ at hk;have hto:0<=(kQ t (s:Int) p).1/\(kQ t (s:Int) p).1<t.bq:=by unfold kQ;cases hc:lW (oW (s:Int) p) t.bU.l 0 with|none=>rw[hc]at hk;cases hk|some q=>obtain⟨a,b,c⟩:=q;exact Hc hV hc
  show((0:Int)<=(s:Int)/\(s:Int)<_)/\0<=(kQ t (s:Int) p).1/\(kQ t (s:Int) p).1<_;omega
section
variable{t:ah}{old now:Sl (Sl Int)}{mv:Sl ae}{rd R:Sl aj}{a b c d:Int}{ed:Sl ao}
theorem K8{k:Bool}{x y z:Int}:(qe ed k x y z).l.length<=ed.l.length+1:=by rw[rA];cases k<;>simp
theorem LU(hV:lp t){P:List (Sl Int)}{k h:Nat}(hP:(P.length:Int)=t.bq)(hr:∀s,s<P.length->(gt P s).l.length<=1000)(hh:h<t.bf.l.length)(ho:ed.l.length<1000000000):
  ∃out',ii t old now mv rd a b c d ed (.mk P) (k:Int) (h:Int)=some (t,old,now,mv,rd,a,b,c,d,out')/\out'.l=ed.l++y9 t k h P:=by
 have hs:=hV.sw;have hlk:=hV.Hv;have hPl:P.length<=8:=by omega
 obtain⟨es,e1,e2⟩:=Gc (t:=t) (P:=.mk P) (h:=h) (by omega) hh hr (show P.length<=1000 by omega) P.length 0 false .nil (Nat.zero_add _) (by simp;omega);have e1:bE (fy t (.mk P) (h:Int)) (false,0,Sl.nil)=some (false||nO t h P 0 P.length,es):=e1;have e2:es.l=wF t P 0 P.length:=e2;have hel:=Jx (t:=t) (P:=P) (n:=P.length) hr;have hF:xE (t.bq.toNat:Int) es.l:=by rw[e2];exact Jy hV hP
 obtain⟨s,ok,g1,g2⟩:=IH (l:=es) (by rw[e2];omega) hF;have hsw:((t.bq.toNat:Nat):Int)=t.bq:=by omega
 rw[hsw]at g1;have g1:iJ (ah.bq t) es=some (s,ok):=g1;have hok:(!ok)=yQ t P:=by unfold yQ;rw[Bool.eq_iff_iff,Bool.not_eq_true',BB,<-e2];exact g2
 have f1:bG t old now mv rd a b c d ed (nO t h P 0 P.length) 5 (k:Int) (h:Int)=_:=oA (by omega);have hl:=K8 (ed:=ed) (k:=nO t h P 0 P.length) (x:=5) (y:=(k:Int)) (z:=(h:Int));have f2:bG t old now mv rd a b c d (qe ed (nO t h P 0 P.length) 5 (k:Int) (h:Int)) (yQ t P) 6 (k:Int) (h:Int)=_:=oA (by omega);refine⟨qe (qe ed (nO t h P 0 P.length) 5 (k:Int) (h:Int)) (yQ t P) 6 (k:Int) (h:Int),?_,?_⟩
 .simp only[ii,e1,af,Bool.false_or,g1,hok,f1,f2]
 .rw [rA,rA,aJ];rfl
def kP(t:ah)(r:aj)(h:Nat)(mv:List ae)(A:List (Sl Int)):List (Sl Int):=uG t r h mv ((aL A.length).map fun s=>Sl.mk [gt (gt A s).l h])
theorem Iy{r:aj}{h:Nat}:∀(mv:List ae)(P:List (Sl Int)),(uG t r h mv P).length=P.length:=by intro mv;induction mv with|nil=>intro P;rfl|cons m mv ih=>intro P;exact(ih _).trans tn
theorem Ix{r:aj}{h:Nat}(s:Nat):∀(mv:List ae)(P:List (Sl Int)),(gt (uG t r h mv P) s).l.length<=(gt P s).l.length+mv.length:=by intro mv;induction mv with|nil=>intro P;exact Nat.le_refl _|cons m mv ih=>intro P;have h1:=ih (wR t r h P m);have h2:=EL (t:=t) (r:=r) (h:=h) (P:=P) (m:=m) s;have e:uG t r h (m::mv) P=uG t r h mv (wR t r h P m):=rfl;rw[e,List.length_cons];omega
theorem A8{A:List (Sl Int)}{h:Nat}(s:Nat):(gt ((aL A.length).map fun s=>Sl.mk [gt (gt A s).l h]) s).l.length<=1:=by
 by_cases hs:s<A.length
 .rw [cQ (by simpa using hs)];simp
 .rw [LW (by simpa using hs)];exact cF _
theorem w8{r:aj}{h:Nat}{mv:List ae}{A:List (Sl Int)}:(kP t r h mv A).length=A.length:=by unfold kP;rw[Iy];simp
theorem Dh{r:aj}{h:Nat}{mv:List ae}{A:List (Sl Int)}(s:Nat):(gt (kP t r h mv A) s).l.length<=mv.length+1:=by have h1:=Ix (t:=t) (r:=r) (h:=h) s mv ((aL A.length).map fun s=>Sl.mk [gt (gt A s).l h]);have h2:=A8 (A:=A) (h:=h) s;unfold kP;omega
theorem Ro{r:aj}:∀(mv:List ae)(A:List (Sl Int)),(M0 t r mv A).length=A.length:=by intro mv;induction mv with|nil=>intro P;rfl|cons m mv ih=>intro P;exact(ih _).trans sR
theorem Rn{r:aj}(s:Nat):∀(mv:List ae)(A:List (Sl Int)),(gt (M0 t r mv A) s).l.length=(gt A s).l.length:=by intro mv;induction mv with|nil=>intro P;rfl|cons m mv ih=>intro P;exact(ih _).trans (yW s)
def Aq(t:ah)(rd:List aj)(mv:List ae)(A:List (Sl Int))(k:Nat):List (Sl Int):=(rd.take k).foldl (fun A r=>M0 t r mv A) A
theorem EG{rd:List aj}{mv:List ae}{A:List (Sl Int)}{k:Nat}(h:k<rd.length):Aq t rd mv A (k+1)=M0 t (gt rd k) mv (Aq t rd mv A k):=by unfold Aq;rw[cQ h,<-List.take_append_getElem h,List.foldl_append];rfl
theorem Jj(mv:List ae):∀(rd:List aj)(A:List (Sl Int)),(rd.foldl (fun A r=>M0 t r mv A) A).length=A.length:=by intro rd;induction rd with|nil=>intro A;rfl|cons r rd ih=>intro A;exact(ih _).trans (Ro _ _)
theorem Ji(mv:List ae)(s:Nat):∀(rd:List aj)(A:List (Sl Int)),(gt (rd.foldl (fun A r=>M0 t r mv A) A) s).l.length=(gt A s).l.length:=by intro rd;induction rd with|nil=>intro A;rfl|cons r rd ih=>intro A;exact(ih _).trans (Rn _ _ _)
theorem pi{rd:List aj}{mv:List ae}{A:List (Sl Int)}{k:Nat}:(Aq t rd mv A k).length=A.length:=Jj mv _ _
theorem Cp{rd:List aj}{mv:List ae}{A:List (Sl Int)}{k:Nat}(s:Nat):(gt (Aq t rd mv A k) s).l.length=(gt A s).l.length:=Ji mv s _ _
theorem A0{P:List (Sl Int)}{k h:Nat}:(y9 t k h P).length<=2:=by unfold y9;rw[av];cases nO t h P 0 P.length<;>cases yQ t P<;>simp
theorem Gb(hV:lp t){A:List (Sl Int)}{k:Nat}(hA:(A.length:Int)=t.bq)(hrow:∀s,s<A.length->(gt A s).l.length=t.bf.l.length)(hb:(gt R.l k).2.2.l.length<9223372036854775808)(hm:mv.l.length<=100):
  ∀(n h:Nat)(ed:Sl ao),h+n=t.bf.l.length->ed.l.length+2*n<100000000->∃out',bE (eG R k (k:Int) t) ((h:Int),t,old,now,mv,rd,a,b,c,d,.mk A,ed)=some (t,old,now,mv,rd,a,b,c,d,.mk A,out')/\
   out'.l=ed.l++(dR h n).flatMap fun h=>y9 t k h (kP t (gt R.l k) h mv.l A):=by
 have hs:=hV.sw;have hho:=hV.rX;intro n;induction n with
 |zero=>
  intro h ed hh ho;obtain rfl:h=t.bf.l.length:=by omega
  exact⟨ed,cA (by simp only[eG,kL,cond_false]),by simp⟩
 |succ n ih=>
  intro h ed hh ho;have hhl:h<t.bf.l.length:=by omega
  have hmk:zO (Sl.nil:Sl Int) (((Sl.mk A).l.length:Nat):Int) (((Sl.mk A).l.length:Nat):Int)=some (az A.length .nil):=by rw[Sl.iN,zO,if_pos (by omega)];simp
  have k1:=Di (A:=A) (h:=h) (fun s hs=>by rw[hrow s hs];exact hhl) (by omega) A.length 0 (az A.length .nil) (by omega) (by simp) (fun j hj=>by omega);have k1:bE (fD (h:Int) (.mk A)) (0,.mk A,.mk (az A.length .nil))=_:=k1;have k2:=FD (t:=t) (old:=old) (now:=now) (mv:=mv) (rd:=rd) (R:=R) (a:=a) (b:=b) (c:=c) (d:=d) (ed:=ed) (k:=k) (h:=h) hb (by omega) mv.l.length 0 ((aL A.length).map fun s=>Sl.mk [gt (gt A s).l h]) (by omega) (by simpa using hA) (fun s _=>by have:=A8 (A:=A) (h:=h) s;omega);rw[cS]at k2;have k2:bE (eH R k old now ed rd mv (h:Int) t a b c d) (0,.mk ((aL A.length).map fun s=>Sl.mk [gt (gt A s).l h]))=some (.mk (kP t (gt R.l k) h mv.l A)):=k2;obtain⟨o1,f1,f2⟩:=LU (old:=old) (now:=now) (mv:=mv) (rd:=rd) (a:=a) (b:=b) (c:=c) (d:=d) (ed:=ed) hV (P:=kP t (gt R.l k) h mv.l A) (k:=k) (h:=h) (by rw[w8];exact hA) (fun s _=>by have:=Dh (t:=t) (r:=gt R.l k) (h:=h) (mv:=mv.l) (A:=A) s;omega) hhl (by omega);have hl:o1.l.length<=ed.l.length+2:=by rw[f2,av];have:=A0 (t:=t) (P:=kP t (gt R.l k) h mv.l A) (k:=k) (h:=h);omega
  obtain⟨o',e1,e2⟩:=ih (h+1) o1 (by omega) (by omega);refine⟨o',(dl ?_).trans e1,?_⟩
  .simp only[eG,jt hhl,cond_true,hmk,af,k1,k2,f1,k7 (show h<9223372036854775807 by omega)]
  .rw [e2,f2,aJ,lJ,bi]
def tJ(t:ah)(rd:List aj)(mv:List ae)(A:List (Sl Int))(k n:Nat):List ao:=(dR k n).flatMap fun k=>(dR 0 t.bf.l.length).flatMap fun h=>y9 t k h (kP t (gt rd k) h mv (Aq t rd mv A k))
theorem Dc(hV:lp t){A:List (Sl Int)}(hA:(A.length:Int)=t.bq)(hrow:∀s,s<A.length->(gt A s).l.length=t.bf.l.length)(hb:∀r∈R.l,r.2.2.l.length<9223372036854775808)(hm:mv.l.length<=100)(hR:R.l.length<=1000):
  ∀(n k:Nat)(ed:Sl ao),k+n=R.l.length->ed.l.length+16*n<1000000->∃out',bE (eE R) ((k:Int),t,old,now,mv,rd,a,b,c,d,.mk (Aq t R.l mv.l A k),ed)=some (t,old,now,mv,rd,a,b,c,d,out')/\
   out'.l=ed.l++tJ t R.l mv.l A k n:=by
 have hho:=hV.rX;intro n;induction n with
 |zero=>
  intro k ed hk ho;obtain rfl:k=R.l.length:=by omega
  exact⟨ed,cA (by simp only[eE,kL,cond_false]),by simp[tJ]⟩
 |succ n ih=>
  intro k ed hk ho;have hkl:k<R.l.length:=by omega
  have hbk:(gt R.l k).2.2.l.length<9223372036854775808:=hb _ (by rw[cQ hkl];exact List.getElem_mem _);obtain⟨o1,f1,f2⟩:=Gb (old:=old) (now:=now) (mv:=mv) (rd:=rd) (R:=R) (a:=a) (b:=b) (c:=c) (d:=d) hV (A:=Aq t R.l mv.l A k) (k:=k) (by rw[pi];exact hA) (fun s hs=>by rw[Cp];exact hrow s (by rwa[pi]at hs)) hbk hm t.bf.l.length 0 ed (by omega) (by omega);have f1:bE (eG R k (k:Int) t) (0,t,old,now,mv,rd,a,b,c,d,.mk (Aq t R.l mv.l A k),ed)=_:=f1;have hl:o1.l.length<=ed.l.length+16:=by rw[f2,av];have:=gS (m:=2) (f:=fun h=>y9 t k h (kP t (gt R.l k) h mv.l (Aq t R.l mv.l A k))) (fun h=>A0) (dR 0 t.bf.l.length);rw[i_]at this;omega
  have k2:=Ly (t:=t) (old:=old) (now:=now) (mv:=mv) (rd:=rd) (R:=R) (a:=a) (b:=b) (c:=c) (d:=d) (ed:=o1) (k:=k) hbk (by omega) mv.l.length 0 (Aq t R.l mv.l A k) (by omega) (by rw[pi];exact hA) (fun s hs=>by rw[Cp];exact hrow s (by rwa[pi]at hs));rw[cS,<-EG hkl]at k2;have k2:bE (eF R k old mv o1 t now rd a b c d) (0,.mk (Aq t R.l mv.l A k))=_:=k2;obtain⟨o',e1,e2⟩:=ih (k+1) o1 (by omega) (by omega);refine⟨o',(dl ?_).trans e1,?_⟩
  .simp only[eE,jt hkl,cond_true,bp hkl,af,f1,k2,k7 (show k<9223372036854775807 by omega)]
  .rw [e2,f2,aJ];unfold tJ;rw[lJ,bi]
theorem GF(hr:∀s,s<old.l.length->(gt old.l s).l.length<=1000)(hn:old.l.length<=1000):∀(n i:Nat)(S:List (Sl Int)),i+n=old.l.length->S.length=old.l.length->(∀j,j<i->gt S j=gt old.l j)->bE (fE old) ((i:Int),.mk S)=some (.mk old.l):=by
 intro n;induction n with
 |zero=>
  intro i S hi hS hj;obtain rfl:i=old.l.length:=by omega
  have e:S=old.l:=LX hS hj;exact cA (by simp only[fE,kL,cond_false,e])
 |succ n ih=>
  intro i S hi hS hj;have hil:i<old.l.length:=by omega
  have:=hr i hil;refine(dl ?_).trans (ih (i+1) (S.set i (gt old.l i)) (by omega) (by rw[List.length_set];exact hS) fun j hj2=>?_)
  .simp only[fE,jt hil,cond_true,bp hil,af,JI (show(gt old.l i).l.length<=2147483648 by omega),Sl.iN,bp (show i<S.length by omega),k7 (show i<9223372036854775807 by omega)]
  .rw [jR];split
   .rename_i hc;rw[hc.1]
   .exact hj j (by omega)
theorem Fx(hV:lp t)(hA:(old.l.length:Int)=t.bq)(hrow:∀s,s<old.l.length->(gt old.l s).l.length=t.bf.l.length)(hb:∀r∈rd.l,r.2.2.l.length<9223372036854775808)(hm:mv.l.length<=100)(hR:rd.l.length<=1000)(ho:ed.l.length<100000):
  ∃out',gH t old now mv rd a b c d ed=some (t,old,now,mv,rd,a,b,c,d,out')/\out'.l=ed.l++tJ t rd.l mv.l old.l 0 rd.l.length:=by
 have hs:=hV.sw;have hho:=hV.rX;have hmk:zO (Sl.nil:Sl Int) (old.l.length:Int) (old.l.length:Int)=some (az old.l.length .nil):=by rw[zO,if_pos (by omega)];simp
 have k1:=GF (old:=old) (fun s hs=>by rw[hrow s hs];omega) (by omega) old.l.length 0 (az old.l.length .nil) (by omega) (by simp) (fun j hj=>by omega);have k1:bE (fE old) (0,.mk (az old.l.length .nil))=_:=k1;obtain⟨o',e1,e2⟩:=Dc (old:=old) (now:=now) (mv:=mv) (rd:=rd) (R:=rd) (a:=a) (b:=b) (c:=c) (d:=d) hV (A:=old.l) hA hrow hb hm hR rd.l.length 0 ed (by omega) (by omega);have e1:bE (eE rd) (0,t,old,now,mv,rd,a,b,c,d,.mk old.l,ed)=_:=e1;exact⟨o',by simp only[gH,hmk,af,k1,e1],e2⟩
def Ci(t:ah)(old now:Sl (Sl Int))(p:aK):List ao:=w9 old now p.jx.l p.fS.l 0 now.l.length++(wD t old now p.jx.l p.fS.l 0 p.jx.l.length++(s_ (2*sO p.CB+iV t+1) p.fS.l 1 (p.fS.l.length-1)++tJ t p.fS.l p.jx.l old.l 0 p.fS.l.length))
theorem Jp{k n:Nat}:(wD t old now mv.l rd.l k n).length<=n:=by unfold wD;have:=gS (m:=1) (f:=fun(k:Nat)=>bif oO t old now rd.l (gt mv.l k)then[((3,(k:Int),(gt mv.l k).2.1):ao)]else[]) (fun k=>by cases oO t old now rd.l (gt mv.l k)<;>simp) (dR k n);rw[i_]at this;omega
theorem JH{gap:Int}{k n:Nat}:(s_ gap rd.l k n).length<=n:=by unfold s_;have:=gS (m:=1) (f:=fun(j:Nat)=>bif oQ gap rd.l j then[((4,(j:Int),0):ao)]else[]) (fun j=>by cases oQ gap rd.l j<;>simp) (dR k n);rw[i_]at this;omega
theorem I3(hn:∀s,s<now.l.length->(gt now.l s).l.length<=8){n:Nat}:(w9 old now mv.l rd.l 0 n).length<=8*n:=by unfold w9;have:=gS (m:=8) (f:=fun s:Nat=>AW old now mv.l rd.l s 0 (gt now.l s).l.length) (fun s=>by have h1:=DN (old:=old) (now:=now) (mv:=mv) (rd:=rd) (s:=s) (h:=0) (n:=(gt now.l s).l.length);have h2:=KF hn s;omega) (dR 0 n);rw[i_]at this;exact this
theorem JJ{p:aK}(hS1:oE t old)(hS2:oE t now)(hm:p.jx.l.length<=100)(hR:p.fS.l.length<=12)(hb:∀r∈p.fS.l,r.2.2.l.length<=20):
  ∃s,fT t old now p=some s/\s.l=bif tt (gy t old/\gy t now)then Ci t old now p else[(1,0,0)]:=by
 have g1:=vC hS1;have g2:=vC hS2;by_cases hG1:gy t old
 .by_cases hG2:gy t now
  .rw [BC hG1]at g1;rw[BC hG2]at g2;obtain⟨mv,rd,miss,life,from_,to_⟩:=p;have hm:mv.l.length<=100:=hm;have hR:rd.l.length<=12:=hR;have hb:∀r∈rd.l,r.2.2.l.length<=20:=hb;have hV:=hG1.1.t7;have hsw:=hV.sw;have hho:=hV.rX;have l1:=hG1.1.len;have l2:=hG2.1.len;have r1:∀s,s<old.l.length->(gt old.l s).l.length=t.bf.l.length:=fun s hs=>hG1.1.dj hs;have r2:∀s,s<now.l.length->(gt now.l s).l.length=t.bf.l.length:=fun s hs=>hG2.1.dj hs;have hb':∀r∈rd.l,r.2.2.l.length<9223372036854775808:=fun r hr=>by have:=hb r hr;omega
   obtain⟨o1,e1,e2⟩:=Lk (t:=t) (old:=old) (now:=now) (mv:=mv) (rd:=rd) (a:=miss) (b:=life) (c:=from_) (d:=to_) (by omega) hb' (by omega) (by omega) (fun s hs=>⟨by rw[r1 s (by omega),r2 s hs],by rw[r2 s hs];omega⟩) (by omega) now.l.length 0 .nil (by omega) (by simp;omega);have e1:bE (eX now) (0,t,old,now,mv,rd,miss,life,from_,to_,Sl.nil)=_:=e1;have n1:=I3 (old:=old) (now:=now) (mv:=mv) (rd:=rd) (fun s hs=>by rw[r2 s hs];exact hho) (n:=now.l.length);have ho1:o1.l.length<=64:=by rw[e2];simp;omega
   obtain⟨o2,f1,f2⟩:=Gs (t:=t) (old:=old) (now:=now) (mv:=mv) (rd:=rd) (a:=miss) (b:=life) (c:=from_) (d:=to_) (by omega) hb' (by omega) l2 l1 r2 r1 mv.l.length 0 o1 (by omega) (by omega);have f1:bE (eW mv) (0,t,old,now,mv,rd,miss,life,from_,to_,o1)=_:=f1;have n2:=Jp (t:=t) (old:=old) (now:=now) (mv:=mv) (rd:=rd) (k:=0) (n:=mv.l.length);have ho2:o2.l.length<=164:=by rw[f2,av];omega
   obtain⟨o3,q1,q2⟩:=H9 (t:=t) (old:=old) (now:=now) (mv:=mv) (rd:=rd) (miss:=miss) (b:=life) (c:=from_) (d:=to_) (ed:=o2) hV (by omega) (by omega);have n3:=JH (rd:=rd) (gap:=2*sO miss+iV t+1) (k:=1) (n:=rd.l.length-1);have ho3:o3.l.length<=176:=by rw[q2,av];omega
   obtain⟨o4,u1,u2⟩:=Fx (t:=t) (old:=old) (now:=now) (mv:=mv) (rd:=rd) (a:=miss) (b:=life) (c:=from_) (d:=to_) (ed:=o3) hV l1 r1 hb' (by omega) (by omega) (by omega);refine⟨o4,?_,?_⟩
   .have em:ga t old now mv rd miss life from_ to_ .nil=some (t,old,now,mv,rd,miss,life,from_,to_,o2):=by simp only[ga,e1,af,f1]
    have em:ga t old now (aK.jx (mv,rd,miss,life,from_,to_)) (aK.fS (mv,rd,miss,life,from_,to_)) (aK.CB (mv,rd,miss,life,from_,to_)) (aK.J1 (mv,rd,miss,life,from_,to_)) (aK.pZ (mv,rd,miss,life,from_,to_)) (aK.To (mv,rd,miss,life,from_,to_)) .nil=_:=em;simp only[fT,g1,g2,af,ce,cond_false,em,q1,u1]
   .rw [u2,q2,f2,e2,BC ⟨hG1,hG2⟩,cond_true];simp only[Sl.LA,List.nil_append,aJ];rfl
  .rw [BC hG1]at g1;rw[x8 hG2]at g2;exact⟨.mk [(1,0,0)],by simp only[fT,g1,g2,af,ce,eO,cond_false,cond_true],by rw[x8 (fun h=>hG2 h.2)];rfl⟩
 .rw [x8 hG1]at g1;exact⟨.mk [(1,0,0)],by simp only[fT,g1,af,eO,cond_true],by rw[x8 (fun h=>hG1 h.1)];rfl⟩
end
end Go.Proofs.YthcplpfiidlinaaDoor.J
