/- Findings: what Check notes, as lists. Conditions: lengths as stated. -/
import Derived.Test.YthcplpfiidlinaaDoorJK
import Derived.Test.YthcplpfiidlinaaDoorJB
open Go.Ev Go
noncomputable section
open Bool renaming not_false->dv,not_true->bO
open List renaming append_assoc->aH,drop_zero->ck,flatMap_cons->bf,length_append->ap,length_range'->ft,mem_flatMap->dn,range->bt,range'->dh,range'_succ->iM,replicate->aA
open Nat renaming zero_le->cO
open Option renaming bind_some->ae
namespace Go.Proofs.YthcplpfiidlinaaDoor.J
def uC(t:af)(P:List (Sl Int)):Bool:=tt (Qe t.aU.toNat (sF t P 0 P.length))
def sN(t:af)(k h:Nat)(P:List (Sl Int)):List ak:=(bif km t h P 0 P.length then[(5,(k:Int),(h:Int))]else[])++(bif uC t P then[(6,(k:Int),(h:Int))]else[])
theorem K3{P:List (Sl Int)}{s:Nat}(h:¬s<P.length):gt P s=(default:Sl Int):=F8 (by omega)
theorem JP{P:List (Sl Int)}{m:Nat}(h:∀s,s<P.length->(gt P s).l.length<=m)(s:Nat):(gt P s).l.length<=m:=by
 by_cases hs:s<P.length
 .exact h s hs
 .rw [K3 hs];exact cO _
theorem Bg{t:af}{P:List (Sl Int)}{m n:Nat}(h:∀s,s<P.length->(gt P s).l.length<=m):(sF t P 0 n).length<=m*n:=by have:=iv (m:=m) (f:=fun s:Nat=>(gt P s).l.flatMap (nG t (s:Int))) (fun s=>by have:=iv (m:=1) (f:=nG t (s:Int)) (fun p=>zG) (gt P s).l;have:=JP h s;omega) (dh 0 n);rw[ft]at this;exact this
theorem Bh{t:af}(hV:kS t){P:List (Sl Int)}(hP:(P.length:Int)=t.aU):tZ (t.aU.toNat:Int) (sF t P 0 P.length):=by
 have hs:=hV.sw;refine⟨by omega,fun e he=>?_⟩;obtain⟨s,h1,h2⟩:=dn.1 he;obtain⟨p,_,h3⟩:=dn.1 h2;rw[List.mem_range'_1]at h1;unfold nG at h3;cases hk:(jb t (s:Int) p).2.2.2 with
 |false=>rw[hk]at h3;cases h3
 |true=>
  rw[hk,cond_true,List.mem_singleton]at h3;subst h3;unfold jb at hk;have hto:0<=(jb t (s:Int) p).1/\(jb t (s:Int) p).1<t.aU:=by unfold jb;cases hc:lP (sL (s:Int) p) t.aY.l 0 with|none=>rw[hc]at hk;cases hk|some q=>obtain⟨a,b,c⟩:=q;exact GY hV hc
  show((0:Int)<=(s:Int)/\(s:Int)<_)/\0<=(jb t (s:Int) p).1/\(jb t (s:Int) p).1<_;omega
section
variable{t:af}{old now:Sl (Sl Int)}{mv:Sl ah}{rd R:Sl aj}{a b c d:Int}{cF:Sl ak}
theorem Kc{k:Bool}{x y z:Int}:(lk cF k x y z).l.length<=cF.l.length+1:=by rw[mB];cases k<;>simp
theorem K2(hV:kS t){P:List (Sl Int)}{k h:Nat}(hP:(P.length:Int)=t.aU)(hr:∀s,s<P.length->(gt P s).l.length<=1000)(hh:h<t.aN.l.length)(ho:cF.l.length<1000000000):
  ∃out',ia t old now mv rd a b c d cF (.mk P) (k:Int) (h:Int)=some (t,old,now,mv,rd,a,b,c,d,out')/\out'.l=cF.l++sN t k h P:=by
 have hs:=hV.sw;have hlk:=hV.xx;have hPl:P.length<=8:=by omega
 obtain⟨es,e1,e2⟩:=F5 (t:=t) (P:=.mk P) (h:=h) (by omega) hh hr (show P.length<=1000 by omega) P.length 0 false .nil (Nat.zero_add _) (by simp;omega);have e1:bc (fm t (.mk P) (h:Int)) (false,0,Sl.nil)=some (false||km t h P 0 P.length,es):=e1;have e2:es.l=sF t P 0 P.length:=e2;have hel:=Bg (t:=t) (P:=P) (n:=P.length) hr;have hF:tZ (t.aU.toNat:Int) es.l:=by rw[e2];exact Bh hV hP
 obtain⟨s,ok,g1,g2⟩:=Ic (l:=es) (by rw[e2];omega) hF;have hsw:((t.aU.toNat:Nat):Int)=t.aU:=by omega
 rw[hsw]at g1;have g1:iH (af.aU t) es=some (s,ok):=g1;have hok:(!ok)=uC t P:=by unfold uC;rw[Bool.eq_iff_iff,Bool.not_eq_true',xV,<-e2];exact g2
 have f1:bP t old now mv rd a b c d cF (km t h P 0 P.length) 5 (k:Int) (h:Int)=_:=oW (by omega);have hl:=Kc (cF:=cF) (k:=km t h P 0 P.length) (x:=5) (y:=(k:Int)) (z:=(h:Int));have f2:bP t old now mv rd a b c d (lk cF (km t h P 0 P.length) 5 (k:Int) (h:Int)) (uC t P) 6 (k:Int) (h:Int)=_:=oW (by omega);refine⟨lk (lk cF (km t h P 0 P.length) 5 (k:Int) (h:Int)) (uC t P) 6 (k:Int) (h:Int),?_,?_⟩
 .simp only[ia,e1,ae,Bool.false_or,g1,hok,f1,f2]
 .rw [mB,mB,aH];rfl
def gq(t:af)(r:aj)(h:Nat)(mv:List ah)(A:List (Sl Int)):List (Sl Int):=u4 t r h mv ((bt A.length).map fun s=>Sl.mk [gt (gt A s).l h])
theorem H5{r:aj}{h:Nat}:∀(mv:List ah)(P:List (Sl Int)),(u4 t r h mv P).length=P.length:=by intro mv;induction mv with|nil=>intro P;rfl|cons m mv ih=>intro P;exact(ih _).trans tX
theorem H4{r:aj}{h:Nat}(s:Nat):∀(mv:List ah)(P:List (Sl Int)),(gt (u4 t r h mv P) s).l.length<=(gt P s).l.length+mv.length:=by intro mv;induction mv with|nil=>intro P;exact Nat.le_refl _|cons m mv ih=>intro P;have h1:=ih (xd t r h P m);have h2:=ED (t:=t) (r:=r) (h:=h) (P:=P) (m:=m) s;have e:u4 t r h (m::mv) P=u4 t r h mv (xd t r h P m):=rfl;rw[e,List.length_cons];omega
theorem A9{A:List (Sl Int)}{h:Nat}(s:Nat):(gt ((bt A.length).map fun s=>Sl.mk [gt (gt A s).l h]) s).l.length<=1:=by
 by_cases hs:s<A.length
 .rw [dV (by simpa using hs)];simp
 .rw [K3 (by simpa using hs)];exact cO _
theorem xr{r:aj}{h:Nat}{mv:List ah}{A:List (Sl Int)}:(gq t r h mv A).length=A.length:=by unfold gq;rw[H5];simp
theorem tu{r:aj}{h:Nat}{mv:List ah}{A:List (Sl Int)}(s:Nat):(gt (gq t r h mv A) s).l.length<=mv.length+1:=by have h1:=H4 (t:=t) (r:=r) (h:=h) s mv ((bt A.length).map fun s=>Sl.mk [gt (gt A s).l h]);have h2:=A9 (A:=A) (h:=h) s;unfold gq;omega
theorem PT{r:aj}:∀(mv:List ah)(A:List (Sl Int)),(Oe t r mv A).length=A.length:=by intro mv;induction mv with|nil=>intro P;rfl|cons m mv ih=>intro P;exact(ih _).trans tG
theorem PS{r:aj}(s:Nat):∀(mv:List ah)(A:List (Sl Int)),(gt (Oe t r mv A) s).l.length=(gt A s).l.length:=by intro mv;induction mv with|nil=>intro P;rfl|cons m mv ih=>intro P;exact(ih _).trans (zh s)
def rO(t:af)(rd:List aj)(mv:List ah)(A:List (Sl Int))(k:Nat):List (Sl Int):=(rd.take k).foldl (fun A r=>Oe t r mv A) A
theorem Ey{rd:List aj}{mv:List ah}{A:List (Sl Int)}{k:Nat}(h:k<rd.length):rO t rd mv A (k+1)=Oe t (gt rd k) mv (rO t rd mv A k):=by unfold rO;rw[dV h,<-List.take_append_getElem h,List.foldl_append];rfl
theorem IJ(mv:List ah):∀(rd:List aj)(A:List (Sl Int)),(rd.foldl (fun A r=>Oe t r mv A) A).length=A.length:=by intro rd;induction rd with|nil=>intro A;rfl|cons r rd ih=>intro A;exact(ih _).trans (PT _ _)
theorem II(mv:List ah)(s:Nat):∀(rd:List aj)(A:List (Sl Int)),(gt (rd.foldl (fun A r=>Oe t r mv A) A) s).l.length=(gt A s).l.length:=by intro rd;induction rd with|nil=>intro A;rfl|cons r rd ih=>intro A;exact(ih _).trans (PS _ _ _)
theorem pI{rd:List aj}{mv:List ah}{A:List (Sl Int)}{k:Nat}:(rO t rd mv A k).length=A.length:=IJ mv _ _
theorem Cp{rd:List aj}{mv:List ah}{A:List (Sl Int)}{k:Nat}(s:Nat):(gt (rO t rd mv A k) s).l.length=(gt A s).l.length:=II mv s _ _
theorem rA{P:List (Sl Int)}{k h:Nat}:(sN t k h P).length<=2:=by unfold sN;rw[ap];cases km t h P 0 P.length<;>cases uC t P<;>simp
theorem F4(hV:kS t){A:List (Sl Int)}{k:Nat}(hA:(A.length:Int)=t.aU)(hrow:∀s,s<A.length->(gt A s).l.length=t.aN.l.length)(hb:(gt R.l k).2.2.l.length<9223372036854775808)(hm:mv.l.length<=100):
  ∀(n h:Nat)(cF:Sl ak),h+n=t.aN.l.length->cF.l.length+2*n<100000000->∃out',bc (eE R k (k:Int) t) ((h:Int),t,old,now,mv,rd,a,b,c,d,.mk A,cF)=some (t,old,now,mv,rd,a,b,c,d,.mk A,out')/\
   out'.l=cF.l++(dh h n).flatMap fun h=>sN t k h (gq t (gt R.l k) h mv.l A):=by
 have hs:=hV.sw;have hho:=hV.qd;intro n;induction n with
 |zero=>
  intro h cF hh ho;obtain rfl:h=t.aN.l.length:=by omega
  exact⟨cF,bC (by simp only[eE,gk,cond_false]),by simp⟩
 |succ n ih=>
  intro h cF hh ho;have hhl:h<t.aN.l.length:=by omega
  have hmk:CE (Sl.nil:Sl Int) (((Sl.mk A).l.length:Nat):Int) (((Sl.mk A).l.length:Nat):Int)=some (aA A.length .nil):=by rw[Sl.lp,CE,if_pos (by omega)];simp
  have k1:=Dl (A:=A) (h:=h) (fun s hs=>by rw[hrow s hs];exact hhl) (by omega) A.length 0 (aA A.length .nil) (by omega) (by simp) (fun j hj=>by omega);have k1:bc (fC (h:Int) (.mk A)) (0,.mk A,.mk (aA A.length .nil))=_:=k1;have k2:=FA (t:=t) (old:=old) (now:=now) (mv:=mv) (rd:=rd) (R:=R) (a:=a) (b:=b) (c:=c) (d:=d) (cF:=cF) (k:=k) (h:=h) hb (by omega) mv.l.length 0 ((bt A.length).map fun s=>Sl.mk [gt (gt A s).l h]) (by omega) (by simpa using hA) (fun s _=>by have:=A9 (A:=A) (h:=h) s;omega);rw[ck]at k2;have k2:bc (eF R k old now cF rd mv (h:Int) t a b c d) (0,.mk ((bt A.length).map fun s=>Sl.mk [gt (gt A s).l h]))=some (.mk (gq t (gt R.l k) h mv.l A)):=k2;obtain⟨o1,f1,f2⟩:=K2 (old:=old) (now:=now) (mv:=mv) (rd:=rd) (a:=a) (b:=b) (c:=c) (d:=d) (cF:=cF) hV (P:=gq t (gt R.l k) h mv.l A) (k:=k) (h:=h) (by rw[xr];exact hA) (fun s _=>by have:=tu (t:=t) (r:=gt R.l k) (h:=h) (mv:=mv.l) (A:=A) s;omega) hhl (by omega);have hl:o1.l.length<=cF.l.length+2:=by rw[f2,ap];have:=rA (t:=t) (P:=gq t (gt R.l k) h mv.l A) (k:=k) (h:=h);omega
  obtain⟨o',e1,e2⟩:=ih (h+1) o1 (by omega) (by omega);refine⟨o',(bL ?_).trans e1,?_⟩
  .simp only[eE,fz hhl,cond_true,hmk,ae,k1,k2,f1,gB (show h<9223372036854775807 by omega)]
  .rw [e2,f2,aH,iM,bf]
def ol(t:af)(rd:List aj)(mv:List ah)(A:List (Sl Int))(k n:Nat):List ak:=(dh k n).flatMap fun k=>(dh 0 t.aN.l.length).flatMap fun h=>sN t k h (gq t (gt rd k) h mv (rO t rd mv A k))
theorem Da(hV:kS t){A:List (Sl Int)}(hA:(A.length:Int)=t.aU)(hrow:∀s,s<A.length->(gt A s).l.length=t.aN.l.length)(hb:∀r∈R.l,r.2.2.l.length<9223372036854775808)(hm:mv.l.length<=100)(hR:R.l.length<=1000):
  ∀(n k:Nat)(cF:Sl ak),k+n=R.l.length->cF.l.length+16*n<1000000->∃out',bc (eC R) ((k:Int),t,old,now,mv,rd,a,b,c,d,.mk (rO t R.l mv.l A k),cF)=some (t,old,now,mv,rd,a,b,c,d,out')/\
   out'.l=cF.l++ol t R.l mv.l A k n:=by
 have hho:=hV.qd;intro n;induction n with
 |zero=>
  intro k cF hk ho;obtain rfl:k=R.l.length:=by omega
  exact⟨cF,bC (by simp only[eC,gk,cond_false]),by simp[ol]⟩
 |succ n ih=>
  intro k cF hk ho;have hkl:k<R.l.length:=by omega
  have hbk:(gt R.l k).2.2.l.length<9223372036854775808:=hb _ (by rw[dV hkl];exact List.getElem_mem _);obtain⟨o1,f1,f2⟩:=F4 (old:=old) (now:=now) (mv:=mv) (rd:=rd) (R:=R) (a:=a) (b:=b) (c:=c) (d:=d) hV (A:=rO t R.l mv.l A k) (k:=k) (by rw[pI];exact hA) (fun s hs=>by rw[Cp];exact hrow s (by rwa[pI]at hs)) hbk hm t.aN.l.length 0 cF (by omega) (by omega);have f1:bc (eE R k (k:Int) t) (0,t,old,now,mv,rd,a,b,c,d,.mk (rO t R.l mv.l A k),cF)=_:=f1;have hl:o1.l.length<=cF.l.length+16:=by rw[f2,ap];have:=iv (m:=2) (f:=fun h=>sN t k h (gq t (gt R.l k) h mv.l (rO t R.l mv.l A k))) (fun h=>rA) (dh 0 t.aN.l.length);rw[ft]at this;omega
  have k2:=KF (t:=t) (old:=old) (now:=now) (mv:=mv) (rd:=rd) (R:=R) (a:=a) (b:=b) (c:=c) (d:=d) (cF:=o1) (k:=k) hbk (by omega) mv.l.length 0 (rO t R.l mv.l A k) (by omega) (by rw[pI];exact hA) (fun s hs=>by rw[Cp];exact hrow s (by rwa[pI]at hs));rw[ck,<-Ey hkl]at k2;have k2:bc (eD R k old mv o1 t now rd a b c d) (0,.mk (rO t R.l mv.l A k))=_:=k2;obtain⟨o',e1,e2⟩:=ih (k+1) o1 (by omega) (by omega);refine⟨o',(bL ?_).trans e1,?_⟩
  .simp only[eC,fz hkl,cond_true,bm hkl,ae,f1,k2,gB (show k<9223372036854775807 by omega)]
  .rw [e2,f2,aH];unfold ol;rw[iM,bf]
theorem Gs(hr:∀s,s<old.l.length->(gt old.l s).l.length<=1000)(hn:old.l.length<=1000):∀(n i:Nat)(S:List (Sl Int)),i+n=old.l.length->S.length=old.l.length->(∀j,j<i->gt S j=gt old.l j)->bc (fD old) ((i:Int),.mk S)=some (.mk old.l):=by
 intro n;induction n with
 |zero=>
  intro i S hi hS hj;obtain rfl:i=old.l.length:=by omega
  have e:S=old.l:=K4 hS hj;exact bC (by simp only[fD,gk,cond_false,e])
 |succ n ih=>
  intro i S hi hS hj;have hil:i<old.l.length:=by omega
  have:=hr i hil;refine(bL ?_).trans (ih (i+1) (S.set i (gt old.l i)) (by omega) (by rw[List.length_set];exact hS) fun j hj2=>?_)
  .simp only[fD,fz hil,cond_true,bm hil,ae,I4 (show(gt old.l i).l.length<=2147483648 by omega),Sl.lp,bm (show i<S.length by omega),gB (show i<9223372036854775807 by omega)]
  .rw [oC];split
   .rename_i hc;rw[hc.1]
   .exact hj j (by omega)
theorem Fp(hV:kS t)(hA:(old.l.length:Int)=t.aU)(hrow:∀s,s<old.l.length->(gt old.l s).l.length=t.aN.l.length)(hb:∀r∈rd.l,r.2.2.l.length<9223372036854775808)(hm:mv.l.length<=100)(hR:rd.l.length<=1000)(ho:cF.l.length<100000):
  ∃out',gA t old now mv rd a b c d cF=some (t,old,now,mv,rd,a,b,c,d,out')/\out'.l=cF.l++ol t rd.l mv.l old.l 0 rd.l.length:=by
 have hs:=hV.sw;have hho:=hV.qd;have hmk:CE (Sl.nil:Sl Int) (old.l.length:Int) (old.l.length:Int)=some (aA old.l.length .nil):=by rw[CE,if_pos (by omega)];simp
 have k1:=Gs (old:=old) (fun s hs=>by rw[hrow s hs];omega) (by omega) old.l.length 0 (aA old.l.length .nil) (by omega) (by simp) (fun j hj=>by omega);have k1:bc (fD old) (0,.mk (aA old.l.length .nil))=_:=k1;obtain⟨o',e1,e2⟩:=Da (old:=old) (now:=now) (mv:=mv) (rd:=rd) (R:=rd) (a:=a) (b:=b) (c:=c) (d:=d) hV (A:=old.l) hA hrow hb hm hR rd.l.length 0 cF (by omega) (by omega);have e1:bc (eC rd) (0,t,old,now,mv,rd,a,b,c,d,.mk old.l,cF)=_:=e1;exact⟨o',by simp only[gA,hmk,ae,k1,e1],e2⟩
def zL(t:af)(old now:Sl (Sl Int))(p:bB):List ak:=y_ old now p.aJ.l p.az.l 0 now.l.length++(vc t old now p.aJ.l p.az.l 0 p.aJ.l.length++(qj (2*g_ p.j4+j_ t+1) p.az.l 1 (p.az.l.length-1)++ol t p.az.l p.aJ.l old.l 0 p.az.l.length))
theorem Ba{k n:Nat}:(vc t old now mv.l rd.l k n).length<=n:=by unfold vc;have:=iv (m:=1) (f:=fun(k:Nat)=>bif ko t old now rd.l (gt mv.l k)then[((3,(k:Int),(gt mv.l k).2.1):ak)]else[]) (fun k=>by cases ko t old now rd.l (gt mv.l k)<;>simp) (dh k n);rw[ft]at this;omega
theorem Bn{gap:Int}{k n:Nat}:(qj gap rd.l k n).length<=n:=by unfold qj;have:=iv (m:=1) (f:=fun(j:Nat)=>bif og gap rd.l j then[((4,(j:Int),0):ak)]else[]) (fun j=>by cases og gap rd.l j<;>simp) (dh k n);rw[ft]at this;omega
theorem A1(hn:∀s,s<now.l.length->(gt now.l s).l.length<=8){n:Nat}:(y_ old now mv.l rd.l 0 n).length<=8*n:=by unfold y_;have:=iv (m:=8) (f:=fun s:Nat=>xw old now mv.l rd.l s 0 (gt now.l s).l.length) (fun s=>by have h1:=y9 (old:=old) (now:=now) (mv:=mv) (rd:=rd) (s:=s) (h:=0) (n:=(gt now.l s).l.length);have h2:=JP hn s;omega) (dh 0 n);rw[ft]at this;exact this
theorem I5{p:bB}(hS1:o5 t old)(hS2:o5 t now)(hm:p.aJ.l.length<=40)(hR:p.az.l.length<=12)(hb:∀r∈p.az.l,r.2.2.l.length<=20):
  ∃s,iG t old now p=some s/\s.l=bif tt (ny t old/\ny t now)then zL t old now p else[(1,0,0)]:=by
 have g1:=D1 hS1;have g2:=D1 hS2;by_cases hG1:ny t old
 .by_cases hG2:ny t now
  .rw [uQ hG1]at g1;rw[uQ hG2]at g2;obtain⟨mv,rd,miss,life,from_,to_⟩:=p;have hm:mv.l.length<=40:=hm;have hR:rd.l.length<=12:=hR;have hb:∀r∈rd.l,r.2.2.l.length<=20:=hb;have hV:=hG1.1.vu;have hsw:=hV.sw;have hho:=hV.qd;have l1:=hG1.1.len;have l2:=hG2.1.len;have r1:∀s,s<old.l.length->(gt old.l s).l.length=t.aN.l.length:=fun s hs=>hG1.1.cU hs;have r2:∀s,s<now.l.length->(gt now.l s).l.length=t.aN.l.length:=fun s hs=>hG2.1.cU hs;have hb':∀r∈rd.l,r.2.2.l.length<9223372036854775808:=fun r hr=>by have:=hb r hr;omega
   obtain⟨o1,e1,e2⟩:=Kq (t:=t) (old:=old) (now:=now) (mv:=mv) (rd:=rd) (a:=miss) (b:=life) (c:=from_) (d:=to_) (by omega) hb' (by omega) (by omega) (fun s hs=>⟨by rw[r1 s (by omega),r2 s hs],by rw[r2 s hs];omega⟩) (by omega) now.l.length 0 .nil (by omega) (by simp;omega);have e1:bc (eU now) (0,t,old,now,mv,rd,miss,life,from_,to_,Sl.nil)=_:=e1;have n1:=A1 (old:=old) (now:=now) (mv:=mv) (rd:=rd) (fun s hs=>by rw[r2 s hs];exact hho) (n:=now.l.length);have ho1:o1.l.length<=64:=by rw[e2];simp;omega
   obtain⟨o2,f1,f2⟩:=Gf (t:=t) (old:=old) (now:=now) (mv:=mv) (rd:=rd) (a:=miss) (b:=life) (c:=from_) (d:=to_) (by omega) hb' (by omega) l2 l1 r2 r1 mv.l.length 0 o1 (by omega) (by omega);have f1:bc (eT mv) (0,t,old,now,mv,rd,miss,life,from_,to_,o1)=_:=f1;have n2:=Ba (t:=t) (old:=old) (now:=now) (mv:=mv) (rd:=rd) (k:=0) (n:=mv.l.length);have ho2:o2.l.length<=104:=by rw[f2,ap];omega
   obtain⟨o3,q1,q2⟩:=HG (t:=t) (old:=old) (now:=now) (mv:=mv) (rd:=rd) (miss:=miss) (b:=life) (c:=from_) (d:=to_) (cF:=o2) hV (by omega) (by omega);have n3:=Bn (rd:=rd) (gap:=2*g_ miss+j_ t+1) (k:=1) (n:=rd.l.length-1);have ho3:o3.l.length<=116:=by rw[q2,ap];omega
   obtain⟨o4,u1,u2⟩:=Fp (t:=t) (old:=old) (now:=now) (mv:=mv) (rd:=rd) (a:=miss) (b:=life) (c:=from_) (d:=to_) (cF:=o3) hV l1 r1 hb' (by omega) (by omega) (by omega);refine⟨o4,?_,?_⟩
   .have em:fW t old now mv rd miss life from_ to_ .nil=some (t,old,now,mv,rd,miss,life,from_,to_,o2):=by simp only[fW,e1,ae,f1]
    have em:fW t old now (bB.aJ (mv,rd,miss,life,from_,to_)) (bB.az (mv,rd,miss,life,from_,to_)) (bB.j4 (mv,rd,miss,life,from_,to_)) (bB.EK (mv,rd,miss,life,from_,to_)) (bB.mV (mv,rd,miss,life,from_,to_)) (bB.To (mv,rd,miss,life,from_,to_)) .nil=_:=em;simp only[iG,g1,g2,ae,bO,cond_false,em,q1,u1]
   .rw [u2,q2,f2,e2,uQ ⟨hG1,hG2⟩,cond_true];simp only[Sl.DU,List.nil_append,aH];rfl
  .rw [uQ hG1]at g1;rw[rU hG2]at g2;exact⟨.mk [(1,0,0)],by simp only[iG,g1,g2,ae,bO,dv,cond_false,cond_true],by rw[rU (fun h=>hG2 h.2)];rfl⟩
 .rw [rU hG1]at g1;exact⟨.mk [(1,0,0)],by simp only[iG,g1,ae,dv,cond_true],by rw[rU (fun h=>hG1 h.1)];rfl⟩
end
end Go.Proofs.YthcplpfiidlinaaDoor.J
