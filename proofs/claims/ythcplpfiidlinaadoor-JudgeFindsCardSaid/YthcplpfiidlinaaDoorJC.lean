/- Findings: what Check notes, as lists. Conditions: lengths as stated. -/
import Derived.Test.YthcplpfiidlinaaDoorJK
import Derived.Test.YthcplpfiidlinaaDoorJB
open Bool renaming not_false->dV,not_true->bS
open List renaming append_assoc->aJ,drop_zero->cT,flatMap_cons->bk,length_append->av,length_range'->jb,mem_flatMap->bU,range->aL,range'->dU,range'_succ->lM,replicate->az
open Nat renaming zero_le->cG
open Option renaming bind_some->af
open Go.Ev Go
noncomputable section
namespace Go.Proofs.YthcplpfiidlinaaDoor.J
def yV(t:ah)(P:List (Sl Int)):Bool:=tt (Tc t.br.toNat (wK t P 0 P.length))
def ze(t:ah)(k h:Nat)(P:List (Sl Int)):List am:=(bif nU t h P 0 P.length then[(5,(k:Int),(h:Int))]else[])++(bif yV t P then[(6,(k:Int),(h:Int))]else[])
theorem L1{P:List (Sl Int)}{s:Nat}(h:¬s<P.length):gt P s=(default:Sl Int):=Gm (by omega)
theorem KK{P:List (Sl Int)}{m:Nat}(h:∀s,s<P.length->(gt P s).l.length<=m)(s:Nat):(gt P s).l.length<=m:=by
 by_cases hs:s<P.length
 .exact h s hs
 .rw [L1 hs];exact cG _
theorem JE{t:ah}{P:List (Sl Int)}{m n:Nat}(h:∀s,s<P.length->(gt P s).l.length<=m):(wK t P 0 n).length<=m*n:=by have:=gT (m:=m) (f:=fun s:Nat=>(gt P s).l.flatMap (q_ t (s:Int))) (fun s=>by have:=gT (m:=1) (f:=q_ t (s:Int)) (fun p=>Er) (gt P s).l;have:=KK h s;omega) (dU 0 n);rw[jb]at this;exact this
theorem JF{t:ah}(hV:lw t){P:List (Sl Int)}(hP:(P.length:Int)=t.br):xK (t.br.toNat:Int) (wK t P 0 P.length):=by
 have hs:=hV.sw;refine⟨by omega,fun e he=>?_⟩;obtain⟨s,h1,h2⟩:=bU.1 he;obtain⟨p,_,h3⟩:=bU.1 h2;rw[List.mem_range'_1]at h1;unfold q_ at h3;cases hk:(kT t (s:Int) p).2.2.2 with
 |false=>rw[hk]at h3;cases h3
 |true=>
  rw[hk,cond_true,List.mem_singleton]at h3;subst h3;unfold kT at hk;have hto:0<=(kT t (s:Int) p).1/\(kT t (s:Int) p).1<t.br:=by unfold kT;cases hc:lZ (oZ (s:Int) p) t.bW.l 0 with|none=>rw[hc]at hk;cases hk|some q=>obtain⟨a,b,c⟩:=q;exact Hi hV hc
  show((0:Int)<=(s:Int)/\(s:Int)<_)/\0<=(kT t (s:Int) p).1/\(kT t (s:Int) p).1<_;omega
section
variable{t:ah}{old now:Sl (Sl Int)}{mv:Sl ae}{rd R:Sl aj}{a b c d:Int}{eg:Sl am}
theorem Lc{k:Bool}{x y z:Int}:(qh eg k x y z).l.length<=eg.l.length+1:=by rw[rE];cases k<;>simp
theorem LZ(hV:lw t){P:List (Sl Int)}{k h:Nat}(hP:(P.length:Int)=t.br)(hr:∀s,s<P.length->(gt P s).l.length<=1000)(hh:h<t.bf.l.length)(ho:eg.l.length<1000000000):
  ∃out',ij t old now mv rd a b c d eg (.mk P) (k:Int) (h:Int)=some (t,old,now,mv,rd,a,b,c,d,out')/\out'.l=eg.l++ze t k h P:=by
 have hs:=hV.sw;have hlk:=hV.HD;have hPl:P.length<=8:=by omega
 obtain⟨es,e1,e2⟩:=Gi (t:=t) (P:=.mk P) (h:=h) (by omega) hh hr (show P.length<=1000 by omega) P.length 0 false .nil (Nat.zero_add _) (by simp;omega);have e1:bE (fA t (.mk P) (h:Int)) (false,0,Sl.nil)=some (false||nU t h P 0 P.length,es):=e1;have e2:es.l=wK t P 0 P.length:=e2;have hel:=JE (t:=t) (P:=P) (n:=P.length) hr;have hF:xK (t.br.toNat:Int) es.l:=by rw[e2];exact JF hV hP
 obtain⟨s,ok,g1,g2⟩:=IQ (l:=es) (by rw[e2];omega) hF;have hsw:((t.br.toNat:Nat):Int)=t.br:=by omega
 rw[hsw]at g1;have g1:iL (ah.br t) es=some (s,ok):=g1;have hok:(!ok)=yV t P:=by unfold yV;rw[Bool.eq_iff_iff,Bool.not_eq_true',BK,<-e2];exact g2
 have f1:bG t old now mv rd a b c d eg (nU t h P 0 P.length) 5 (k:Int) (h:Int)=_:=oG (by omega);have hl:=Lc (eg:=eg) (k:=nU t h P 0 P.length) (x:=5) (y:=(k:Int)) (z:=(h:Int));have f2:bG t old now mv rd a b c d (qh eg (nU t h P 0 P.length) 5 (k:Int) (h:Int)) (yV t P) 6 (k:Int) (h:Int)=_:=oG (by omega);refine⟨qh (qh eg (nU t h P 0 P.length) 5 (k:Int) (h:Int)) (yV t P) 6 (k:Int) (h:Int),?_,?_⟩
 .simp only[ij,e1,af,Bool.false_or,g1,hok,f1,f2]
 .rw [rE,rE,aJ];rfl
def kS(t:ah)(r:aj)(h:Nat)(mv:List ae)(A:List (Sl Int)):List (Sl Int):=uL t r h mv ((aL A.length).map fun s=>Sl.mk [gt (gt A s).l h])
theorem IG{r:aj}{h:Nat}:∀(mv:List ae)(P:List (Sl Int)),(uL t r h mv P).length=P.length:=by intro mv;induction mv with|nil=>intro P;rfl|cons m mv ih=>intro P;exact(ih _).trans tD
theorem IF{r:aj}{h:Nat}(s:Nat):∀(mv:List ae)(P:List (Sl Int)),(gt (uL t r h mv P) s).l.length<=(gt P s).l.length+mv.length:=by intro mv;induction mv with|nil=>intro P;exact Nat.le_refl _|cons m mv ih=>intro P;have h1:=ih (wW t r h P m);have h2:=ER (t:=t) (r:=r) (h:=h) (P:=P) (m:=m) s;have e:uL t r h (m::mv) P=uL t r h mv (wW t r h P m):=rfl;rw[e,List.length_cons];omega
theorem Bh{A:List (Sl Int)}{h:Nat}(s:Nat):(gt ((aL A.length).map fun s=>Sl.mk [gt (gt A s).l h]) s).l.length<=1:=by
 by_cases hs:s<A.length
 .rw [cR (by simpa using hs)];simp
 .rw [L1 (by simpa using hs)];exact cG _
theorem xg{r:aj}{h:Nat}{mv:List ae}{A:List (Sl Int)}:(kS t r h mv A).length=A.length:=by unfold kS;rw[IG];simp
theorem Do{r:aj}{h:Nat}{mv:List ae}{A:List (Sl Int)}(s:Nat):(gt (kS t r h mv A) s).l.length<=mv.length+1:=by have h1:=IF (t:=t) (r:=r) (h:=h) s mv ((aL A.length).map fun s=>Sl.mk [gt (gt A s).l h]);have h2:=Bh (A:=A) (h:=h) s;unfold kS;omega
theorem Rq{r:aj}:∀(mv:List ae)(A:List (Sl Int)),(M5 t r mv A).length=A.length:=by intro mv;induction mv with|nil=>intro P;rfl|cons m mv ih=>intro P;exact(ih _).trans sX
theorem Rp{r:aj}(s:Nat):∀(mv:List ae)(A:List (Sl Int)),(gt (M5 t r mv A) s).l.length=(gt A s).l.length:=by intro mv;induction mv with|nil=>intro P;rfl|cons m mv ih=>intro P;exact(ih _).trans (y9 s)
def Ay(t:ah)(rd:List aj)(mv:List ae)(A:List (Sl Int))(k:Nat):List (Sl Int):=(rd.take k).foldl (fun A r=>M5 t r mv A) A
theorem EM{rd:List aj}{mv:List ae}{A:List (Sl Int)}{k:Nat}(h:k<rd.length):Ay t rd mv A (k+1)=M5 t (gt rd k) mv (Ay t rd mv A k):=by unfold Ay;rw[cR h,<-List.take_append_getElem h,List.foldl_append];rfl
theorem Jq(mv:List ae):∀(rd:List aj)(A:List (Sl Int)),(rd.foldl (fun A r=>M5 t r mv A) A).length=A.length:=by intro rd;induction rd with|nil=>intro A;rfl|cons r rd ih=>intro A;exact(ih _).trans (Rq _ _)
theorem Jp(mv:List ae)(s:Nat):∀(rd:List aj)(A:List (Sl Int)),(gt (rd.foldl (fun A r=>M5 t r mv A) A) s).l.length=(gt A s).l.length:=by intro rd;induction rd with|nil=>intro A;rfl|cons r rd ih=>intro A;exact(ih _).trans (Rp _ _ _)
theorem pm{rd:List aj}{mv:List ae}{A:List (Sl Int)}{k:Nat}:(Ay t rd mv A k).length=A.length:=Jq mv _ _
theorem Cz{rd:List aj}{mv:List ae}{A:List (Sl Int)}{k:Nat}(s:Nat):(gt (Ay t rd mv A k) s).l.length=(gt A s).l.length:=Jp mv s _ _
theorem A9{P:List (Sl Int)}{k h:Nat}:(ze t k h P).length<=2:=by unfold ze;rw[av];cases nU t h P 0 P.length<;>cases yV t P<;>simp
theorem Gh(hV:lw t){A:List (Sl Int)}{k:Nat}(hA:(A.length:Int)=t.br)(hrow:∀s,s<A.length->(gt A s).l.length=t.bf.l.length)(hb:(gt R.l k).2.2.l.length<9223372036854775808)(hm:mv.l.length<=100):
  ∀(n h:Nat)(eg:Sl am),h+n=t.bf.l.length->eg.l.length+2*n<100000000->∃out',bE (eJ R k (k:Int) t) ((h:Int),t,old,now,mv,rd,a,b,c,d,.mk A,eg)=some (t,old,now,mv,rd,a,b,c,d,.mk A,out')/\
   out'.l=eg.l++(dU h n).flatMap fun h=>ze t k h (kS t (gt R.l k) h mv.l A):=by
 have hs:=hV.sw;have hho:=hV.se;intro n;induction n with
 |zero=>
  intro h eg hh ho;obtain rfl:h=t.bf.l.length:=by omega
  exact⟨eg,cB (by simp only[eJ,kO,cond_false]),by simp⟩
 |succ n ih=>
  intro h eg hh ho;have hhl:h<t.bf.l.length:=by omega
  have hmk:zV (Sl.nil:Sl Int) (((Sl.mk A).l.length:Nat):Int) (((Sl.mk A).l.length:Nat):Int)=some (az A.length .nil):=by rw[Sl.iP,zV,if_pos (by omega)];simp
  have k1:=Dp (A:=A) (h:=h) (fun s hs=>by rw[hrow s hs];exact hhl) (by omega) A.length 0 (az A.length .nil) (by omega) (by simp) (fun j hj=>by omega);have k1:bE (fG (h:Int) (.mk A)) (0,.mk A,.mk (az A.length .nil))=_:=k1;have k2:=FK (t:=t) (old:=old) (now:=now) (mv:=mv) (rd:=rd) (R:=R) (a:=a) (b:=b) (c:=c) (d:=d) (eg:=eg) (k:=k) (h:=h) hb (by omega) mv.l.length 0 ((aL A.length).map fun s=>Sl.mk [gt (gt A s).l h]) (by omega) (by simpa using hA) (fun s _=>by have:=Bh (A:=A) (h:=h) s;omega);rw[cT]at k2;have k2:bE (eK R k old now eg rd mv (h:Int) t a b c d) (0,.mk ((aL A.length).map fun s=>Sl.mk [gt (gt A s).l h]))=some (.mk (kS t (gt R.l k) h mv.l A)):=k2;obtain⟨o1,f1,f2⟩:=LZ (old:=old) (now:=now) (mv:=mv) (rd:=rd) (a:=a) (b:=b) (c:=c) (d:=d) (eg:=eg) hV (P:=kS t (gt R.l k) h mv.l A) (k:=k) (h:=h) (by rw[xg];exact hA) (fun s _=>by have:=Do (t:=t) (r:=gt R.l k) (h:=h) (mv:=mv.l) (A:=A) s;omega) hhl (by omega);have hl:o1.l.length<=eg.l.length+2:=by rw[f2,av];have:=A9 (t:=t) (P:=kS t (gt R.l k) h mv.l A) (k:=k) (h:=h);omega
  obtain⟨o',e1,e2⟩:=ih (h+1) o1 (by omega) (by omega);refine⟨o',(dm ?_).trans e1,?_⟩
  .simp only[eJ,jw hhl,cond_true,hmk,af,k1,k2,f1,k_ (show h<9223372036854775807 by omega)]
  .rw [e2,f2,aJ,lM,bk]
def tO(t:ah)(rd:List aj)(mv:List ae)(A:List (Sl Int))(k n:Nat):List am:=(dU k n).flatMap fun k=>(dU 0 t.bf.l.length).flatMap fun h=>ze t k h (kS t (gt rd k) h mv (Ay t rd mv A k))
theorem Dj(hV:lw t){A:List (Sl Int)}(hA:(A.length:Int)=t.br)(hrow:∀s,s<A.length->(gt A s).l.length=t.bf.l.length)(hb:∀r∈R.l,r.2.2.l.length<9223372036854775808)(hm:mv.l.length<=100)(hR:R.l.length<=1000):
  ∀(n k:Nat)(eg:Sl am),k+n=R.l.length->eg.l.length+16*n<1000000->∃out',bE (eH R) ((k:Int),t,old,now,mv,rd,a,b,c,d,.mk (Ay t R.l mv.l A k),eg)=some (t,old,now,mv,rd,a,b,c,d,out')/\
   out'.l=eg.l++tO t R.l mv.l A k n:=by
 have hho:=hV.se;intro n;induction n with
 |zero=>
  intro k eg hk ho;obtain rfl:k=R.l.length:=by omega
  exact⟨eg,cB (by simp only[eH,kO,cond_false]),by simp[tO]⟩
 |succ n ih=>
  intro k eg hk ho;have hkl:k<R.l.length:=by omega
  have hbk:(gt R.l k).2.2.l.length<9223372036854775808:=hb _ (by rw[cR hkl];exact List.getElem_mem _);obtain⟨o1,f1,f2⟩:=Gh (old:=old) (now:=now) (mv:=mv) (rd:=rd) (R:=R) (a:=a) (b:=b) (c:=c) (d:=d) hV (A:=Ay t R.l mv.l A k) (k:=k) (by rw[pm];exact hA) (fun s hs=>by rw[Cz];exact hrow s (by rwa[pm]at hs)) hbk hm t.bf.l.length 0 eg (by omega) (by omega);have f1:bE (eJ R k (k:Int) t) (0,t,old,now,mv,rd,a,b,c,d,.mk (Ay t R.l mv.l A k),eg)=_:=f1;have hl:o1.l.length<=eg.l.length+16:=by rw[f2,av];have:=gT (m:=2) (f:=fun h=>ze t k h (kS t (gt R.l k) h mv.l (Ay t R.l mv.l A k))) (fun h=>A9) (dU 0 t.bf.l.length);rw[jb]at this;omega
  have k2:=LD (t:=t) (old:=old) (now:=now) (mv:=mv) (rd:=rd) (R:=R) (a:=a) (b:=b) (c:=c) (d:=d) (eg:=o1) (k:=k) hbk (by omega) mv.l.length 0 (Ay t R.l mv.l A k) (by omega) (by rw[pm];exact hA) (fun s hs=>by rw[Cz];exact hrow s (by rwa[pm]at hs));rw[cT,<-EM hkl]at k2;have k2:bE (eI R k old mv o1 t now rd a b c d) (0,.mk (Ay t R.l mv.l A k))=_:=k2;obtain⟨o',e1,e2⟩:=ih (k+1) o1 (by omega) (by omega);refine⟨o',(dm ?_).trans e1,?_⟩
  .simp only[eH,jw hkl,cond_true,bq hkl,af,f1,k2,k_ (show k<9223372036854775807 by omega)]
  .rw [e2,f2,aJ];unfold tO;rw[lM,bk]
theorem GK(hr:∀s,s<old.l.length->(gt old.l s).l.length<=1000)(hn:old.l.length<=1000):∀(n i:Nat)(S:List (Sl Int)),i+n=old.l.length->S.length=old.l.length->(∀j,j<i->gt S j=gt old.l j)->bE (fH old) ((i:Int),.mk S)=some (.mk old.l):=by
 intro n;induction n with
 |zero=>
  intro i S hi hS hj;obtain rfl:i=old.l.length:=by omega
  have e:S=old.l:=L2 hS hj;exact cB (by simp only[fH,kO,cond_false,e])
 |succ n ih=>
  intro i S hi hS hj;have hil:i<old.l.length:=by omega
  have:=hr i hil;refine(dm ?_).trans (ih (i+1) (S.set i (gt old.l i)) (by omega) (by rw[List.length_set];exact hS) fun j hj2=>?_)
  .simp only[fH,jw hil,cond_true,bq hil,af,JQ (show(gt old.l i).l.length<=2147483648 by omega),Sl.iP,bq (show i<S.length by omega),k_ (show i<9223372036854775807 by omega)]
  .rw [jS];split
   .rename_i hc;rw[hc.1]
   .exact hj j (by omega)
theorem FE(hV:lw t)(hA:(old.l.length:Int)=t.br)(hrow:∀s,s<old.l.length->(gt old.l s).l.length=t.bf.l.length)(hb:∀r∈rd.l,r.2.2.l.length<9223372036854775808)(hm:mv.l.length<=100)(hR:rd.l.length<=1000)(ho:eg.l.length<100000):
  ∃out',gH t old now mv rd a b c d eg=some (t,old,now,mv,rd,a,b,c,d,out')/\out'.l=eg.l++tO t rd.l mv.l old.l 0 rd.l.length:=by
 have hs:=hV.sw;have hho:=hV.se;have hmk:zV (Sl.nil:Sl Int) (old.l.length:Int) (old.l.length:Int)=some (az old.l.length .nil):=by rw[zV,if_pos (by omega)];simp
 have k1:=GK (old:=old) (fun s hs=>by rw[hrow s hs];omega) (by omega) old.l.length 0 (az old.l.length .nil) (by omega) (by simp) (fun j hj=>by omega);have k1:bE (fH old) (0,.mk (az old.l.length .nil))=_:=k1;obtain⟨o',e1,e2⟩:=Dj (old:=old) (now:=now) (mv:=mv) (rd:=rd) (R:=rd) (a:=a) (b:=b) (c:=c) (d:=d) hV (A:=old.l) hA hrow hb hm hR rd.l.length 0 eg (by omega) (by omega);have e1:bE (eH rd) (0,t,old,now,mv,rd,a,b,c,d,.mk old.l,eg)=_:=e1;exact⟨o',by simp only[gH,hmk,af,k1,e1],e2⟩
def zH(t:ah)(old now:Sl (Sl Int))(p:aK):List am:=xh old now p.i_.l p.eN.l 0 now.l.length++(wI t old now p.i_.l p.eN.l 0 p.i_.l.length++(rS (2*sU p.AD+iA t+1) p.eN.l 1 (p.eN.l.length-1)++tO t p.eN.l p.i_.l old.l 0 p.eN.l.length))
theorem Jw{k n:Nat}:(wI t old now mv.l rd.l k n).length<=n:=by unfold wI;have:=gT (m:=1) (f:=fun(k:Nat)=>bif oS t old now rd.l (gt mv.l k)then[((3,(k:Int),(gt mv.l k).2.1):am)]else[]) (fun k=>by cases oS t old now rd.l (gt mv.l k)<;>simp) (dU k n);rw[jb]at this;omega
theorem JP{gap:Int}{k n:Nat}:(rS gap rd.l k n).length<=n:=by unfold rS;have:=gT (m:=1) (f:=fun(j:Nat)=>bif oc gap rd.l j then[((4,(j:Int),0):am)]else[]) (fun j=>by cases oc gap rd.l j<;>simp) (dU k n);rw[jb]at this;omega
theorem I_(hn:∀s,s<now.l.length->(gt now.l s).l.length<=8){n:Nat}:(xh old now mv.l rd.l 0 n).length<=8*n:=by unfold xh;have:=gT (m:=8) (f:=fun s:Nat=>A5 old now mv.l rd.l s 0 (gt now.l s).l.length) (fun s=>by have h1:=DU (old:=old) (now:=now) (mv:=mv) (rd:=rd) (s:=s) (h:=0) (n:=(gt now.l s).l.length);have h2:=KK hn s;omega) (dU 0 n);rw[jb]at this;exact this
theorem JR{p:aK}(hS1:ml t old)(hS2:ml t now)(hm:p.i_.l.length<=100)(hR:p.eN.l.length<=12)(hb:∀r∈p.eN.l,r.2.2.l.length<=20):
  ∃s,fB t old now p=some s/\s.l=bif tt (gy t old/\gy t now)then zH t old now p else[(1,0,0)]:=by
 have g1:=vH hS1;have g2:=vH hS2;by_cases hG1:gy t old
 .by_cases hG2:gy t now
  .rw [BL hG1]at g1;rw[BL hG2]at g2;obtain⟨mv,rd,miss,life,from_,to_⟩:=p;have hm:mv.l.length<=100:=hm;have hR:rd.l.length<=12:=hR;have hb:∀r∈rd.l,r.2.2.l.length<=20:=hb;have hV:=hG1.1.sJ;have hsw:=hV.sw;have hho:=hV.se;have l1:=hG1.1.len;have l2:=hG2.1.len;have r1:∀s,s<old.l.length->(gt old.l s).l.length=t.bf.l.length:=fun s hs=>hG1.1.dl hs;have r2:∀s,s<now.l.length->(gt now.l s).l.length=t.bf.l.length:=fun s hs=>hG2.1.dl hs;have hb':∀r∈rd.l,r.2.2.l.length<9223372036854775808:=fun r hr=>by have:=hb r hr;omega
   obtain⟨o1,e1,e2⟩:=Lp (t:=t) (old:=old) (now:=now) (mv:=mv) (rd:=rd) (a:=miss) (b:=life) (c:=from_) (d:=to_) (by omega) hb' (by omega) (by omega) (fun s hs=>⟨by rw[r1 s (by omega),r2 s hs],by rw[r2 s hs];omega⟩) (by omega) now.l.length 0 .nil (by omega) (by simp;omega);have e1:bE (e9 now) (0,t,old,now,mv,rd,miss,life,from_,to_,Sl.nil)=_:=e1;have n1:=I_ (old:=old) (now:=now) (mv:=mv) (rd:=rd) (fun s hs=>by rw[r2 s hs];exact hho) (n:=now.l.length);have ho1:o1.l.length<=64:=by rw[e2];simp;omega
   obtain⟨o2,f1,f2⟩:=Gx (t:=t) (old:=old) (now:=now) (mv:=mv) (rd:=rd) (a:=miss) (b:=life) (c:=from_) (d:=to_) (by omega) hb' (by omega) l2 l1 r2 r1 mv.l.length 0 o1 (by omega) (by omega);have f1:bE (eZ mv) (0,t,old,now,mv,rd,miss,life,from_,to_,o1)=_:=f1;have n2:=Jw (t:=t) (old:=old) (now:=now) (mv:=mv) (rd:=rd) (k:=0) (n:=mv.l.length);have ho2:o2.l.length<=164:=by rw[f2,av];omega
   obtain⟨o3,q1,q2⟩:=Ih (t:=t) (old:=old) (now:=now) (mv:=mv) (rd:=rd) (miss:=miss) (b:=life) (c:=from_) (d:=to_) (eg:=o2) hV (by omega) (by omega);have n3:=JP (rd:=rd) (gap:=2*sU miss+iA t+1) (k:=1) (n:=rd.l.length-1);have ho3:o3.l.length<=176:=by rw[q2,av];omega
   obtain⟨o4,u1,u2⟩:=FE (t:=t) (old:=old) (now:=now) (mv:=mv) (rd:=rd) (a:=miss) (b:=life) (c:=from_) (d:=to_) (eg:=o3) hV l1 r1 hb' (by omega) (by omega) (by omega);refine⟨o4,?_,?_⟩
   .have em:gb t old now mv rd miss life from_ to_ .nil=some (t,old,now,mv,rd,miss,life,from_,to_,o2):=by simp only[gb,e1,af,f1]
    have em:gb t old now (aK.i_ (mv,rd,miss,life,from_,to_)) (aK.eN (mv,rd,miss,life,from_,to_)) (aK.AD (mv,rd,miss,life,from_,to_)) (aK.G1 (mv,rd,miss,life,from_,to_)) (aK.pT (mv,rd,miss,life,from_,to_)) (aK.To (mv,rd,miss,life,from_,to_)) .nil=_:=em;simp only[fB,g1,g2,af,bS,cond_false,em,q1,u1]
   .rw [u2,q2,f2,e2,BL ⟨hG1,hG2⟩,cond_true];simp only[Sl.LG,List.nil_append,aJ];rfl
  .rw [BL hG1]at g1;rw[yf hG2]at g2;exact⟨.mk [(1,0,0)],by simp only[fB,g1,g2,af,bS,dV,cond_false,cond_true],by rw[yf (fun h=>hG2 h.2)];rfl⟩
 .rw [yf hG1]at g1;exact⟨.mk [(1,0,0)],by simp only[fB,g1,af,dV,cond_true],by rw[yf (fun h=>hG1 h.1)];rfl⟩
end
end Go.Proofs.YthcplpfiidlinaaDoor.J
