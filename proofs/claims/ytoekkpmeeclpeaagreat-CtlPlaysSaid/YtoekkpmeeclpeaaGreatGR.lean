/- The document's routes and moves, of good routes. Conditions: as stated. -/
import Derived.Test.YtoekkpmeeclpeaaGreatGP
open Bool renaming eq_iff_iff->cF,not_true->bX
open List renaming getElem_mem->cW,length_append->au,length_range->bB,length_singleton->aH,map_append->dm,map_cons->bN,map_nil->iv,mem_append->aK,mem_append_left->bM,mem_cons_self->aL,mem_flatMap->bL,mem_singleton->aB,pairwise_flatMap->gN,pairwise_lt_range->fR,range->aG
open Nat renaming le_refl->aw,le_trans->bg,zero_le->cG
open Option renaming bind_some->aa
open Go.Ev Go
noncomputable section
namespace Go.Proofs.YtoekkpmeeclpeaaGreat.S
section
variable{t:am}{r:Sl (Sl Int)}{h:Nat}
theorem JA(hV:kK t r):w8 t r=some true:=by
 have hT:=hV.EA;have hl:=hV.len;have hsm:=hV.zW;have hho:=hV.sq;have hlk:=hT.xQ;unfold w8;rw[DL (by omega) (by omega),decide_eq_true hT];have e:((r.l.length:Int) !=t.ao)=false:=by simpa using hl
 simp[e]
 have h:=wm (f:=uG t r) r.l (fun _=>false) (by omega) (fun i hi=>by
  have hm:gt r.l i∈r.l:=by rw[dx hi];exact cW _
  obtain⟨hrl,hp⟩:=hV.XY _ hm;simp only[uG,fT hi,aY hi];have h1:=wm (f:=uH r (i:Int)) (gt r.l i).l (fun _=>false) (by omega) (fun j hj=>by have hq:=hp (gt (gt r.l i).l j) (by rw[dx hj];exact cW _);simp only[uH,fT hj,aY hi,aY hj,aa,decide_eq_false (show¬gt (gt r.l i).l j<0 by omega),decide_eq_false (show¬gt (gt r.l i).l j>7 by omega)];rfl) (by simp only[uH,aY hi,aa,ij,cond_false]);simp_all) (by simp only[uG,ij,cond_false])
 rw[h,if_pos fun _ _=>rfl];rfl
theorem HY(hV:kK t r)(hh:h<t.aU.l.length){s:Nat}(hs:s<r.l.length):
  B0 t r (s:Int) (h:Int)=some ((Cv t s (gA r h s)).1,(Cv t s (gA r h s)).2.2.2):=by
 have hhr:h<(gt r.l s).l.length:=by rw[hV.dK hs];exact hh
 have hlk:=hV.EA.xQ;have h1:decide ((s:Int)<0)=false:=by rw[decide_eq_false_iff_not];omega
 have h2:decide ((s:Int)>=(r.l.length:Int))=false:=by rw[decide_eq_false_iff_not];omega
 have h3:decide ((h:Int)<0)=false:=by rw[decide_eq_false_iff_not];omega
 have h4:decide ((h:Int)>=((gt r.l s).l.length:Int))=false:=by rw[decide_eq_false_iff_not];omega
 simp only[B0,h1,h2,h3,h4,Bool.or_self,cond_false,aY hs,aY hhr,aa,FO _ _ (show t.aS.l.length<9223372036854775808 by omega),gA]
theorem QU(hV:kK t r)(hh:h<t.aU.l.length){n:Nat}(hn:n<9223372036854775807):∀(m s i:Nat),i+m=n->s<r.l.length->aJ (lQ t r (h:Int) (n:Int)) ((s:Int),(i:Int))=some (.inl (vL t r h m s)):=by
 intro m;induction m with
 |zero=>
  intro s i hi hs;obtain rfl:i=n:=by omega
  refine bW ?_;simp only[lQ,Gc hV hh hs,decide_eq_true (Int.le_refl _),beq_self_eq_true,vL];cases decide (GC t r h s)<;>rfl
 |succ m ih=>
  intro s i hi hs;have hle:decide ((i:Int)<=(n:Int))=true:=by rw[decide_eq_true_eq];omega
  have hne:((i:Int)==(n:Int))=false:=by rw[beq_eq_false_iff_ne];omega
  by_cases hH:GC t r h s
  .simp_all [bW,lQ,Gc,vL,if_pos]
  .rcases GZ (h:=h) hV s with⟨e1,e2⟩|⟨s',b,c,e1,hs',e2⟩
   .refine bW ?_;simp only[lQ,Gc hV hh hs,aa,hle,cond_true,decide_eq_false hH,hne,vL,if_neg hH,e1,HY hV hh hs,e2,Bool.not_false,cond_false]
   .rw [dD (a':=((s':Int),((i+1:Nat):Int))) (by simp only[lQ,Gc hV hh hs,aa,hle,cond_true,decide_eq_false hH,hne,HY hV hh hs,e2,bX,cond_false,pN (show i<9223372036854775807 by omega)]),ih s' (i+1) (by omega) hs'];simp only[vL,if_neg hH,e1]
theorem FN(hV:kK t r)(hh:h<t.aU.l.length){n:Nat}(hn:n<9223372036854775807){s:Nat}(hs:s<r.l.length):w7 t r (s:Int) (h:Int) (n:Int)=some (vL t r h n s):=by simp[w7,show aJ (lQ t r (h:Int) (n:Int)) ((s:Int),0)=_ from QU hV hh hn n s 0 (by omega) hs,aa]
theorem FM(hV:kK t r)(hh:h<t.aU.l.length){s k:Nat}(hs:s<r.l.length)(ha:yl t r h s k):∃l:List Int,yN t r (s:Int) (h:Int)=some (.mk l,0)/\l.length=k+1:=by
 have hk:=ha.lt hV hs;have hsm:=hV.zW;have hlen:=hV.len
 have main:∀(d i:Nat)(l:Sl Int),i+d=k->l.l.length=i->∃l2:List Int,aJ (rX t r (s:Int) (h:Int)) ((i:Int),l)=some (.inl (0,.mk l2))/\l2.length=k+1:=by
  intro d;induction d with
  |zero=>
   intro i l hi hl;obtain rfl:i=k:=by omega
   obtain⟨y,hy⟩:=Xy ha;have hc:decide ((i:Int)<t.ao)=true:=by rw[decide_eq_true_eq];omega
   have hm:((y:Int)==-1)=false:=by rw[beq_eq_false_iff_ne];omega
   exact⟨l.l++[(y:Int)],bW (by simp only[rX,hc,cond_true,FN hV hh (show i<9223372036854775807 by omega) hs,hy,aa,hm,cond_false,kz (show(l.l++[(y:Int)]).length<=2147483648 by grind)]),by simp[hl]⟩
  |succ d ih=>
   intro i l hi hl;obtain⟨y,hy⟩:=MJ ha (show i<k by omega);have hc:decide ((i:Int)<t.ao)=true:=by rw[decide_eq_true_eq];omega
   have hm:((y:Int)==-1)=false:=by rw[beq_eq_false_iff_ne];omega
   obtain⟨l2,h1,h2⟩:=ih (i+1) (.mk (l.l++[(y:Int)])) (by omega) (by simp[hl]);exact⟨l2,(dD (by simp only[rX,hc,cond_true,FN hV hh (show i<9223372036854775807 by omega) hs,hy,aa,hm,cond_false,kz (show(l.l++[(y:Int)]).length<=2147483648 by grind),pN (show i<9223372036854775807 by omega)])).trans h1,h2⟩
 obtain⟨l2,h1,h2⟩:=main k 0 .nil (by omega) rfl;have h1:aJ (rX t r (s:Int) (h:Int)) (0,Sl.nil)=_:=h1;exact⟨l2,by simp only[yN,JA hV,aa,OR hV hh hs,cond_false,h1],h2⟩
theorem HZ(hG:jS t r):yO t r=some true:=by
 have hV:=hG.1;have hsm:=hV.zW;have hho:=hV.sq;unfold yO;simp[JA hV]
 have hin:∀s,s<r.l.length->aJ (rY t r (s:Int)) 0=some (.inr ()):=by
  intro s hs
  have h1:=wm (f:=rY t r (s:Int)) (aG t.aU.l.length) (fun _=>false) (by simp;omega) (fun i hi=>by
   have hi:=by simpa using hi
   obtain⟨k,hk⟩:=hG.2 s hs i hi;obtain⟨l,h2,_⟩:=FM hV hi hs hk;simp only[rY,fT hi,cond_true,h2,aa,bne_self_eq_false,cond_false]) (by simp[rY,bB,ij,cond_false])
  rw[h1,if_pos fun _ _=>rfl]
 have h1:=wm (f:=wA t r) (aG r.l.length) (fun _=>false) (by simp;omega) (fun i hi=>by
  have hi:=by simpa using hi
  simp only[wA,fT hi,hin i hi];rfl) (by simp[wA,bB,ij,cond_false])
 rw[h1,if_pos fun _ _=>rfl];rfl
theorem OS{t:am}(hb:t.aS.l.length<9223372036854775808):wC t=some (wZ t.aS.l):=by
 have h:aJ (i8 t) (0,0)=some (wZ t.aS.l):=by
  have h1:=Kg (f:=i8 t) (fun i(m:Int)=>(m,(i:Int))) t.aS.l.length (fun i m=>m=wZ (t.aS.l.take i)) _ (fun i m hi hm=>by
   left;refine⟨_,?_,(LM _ hi).symm⟩;simp[i8,aY hi,pN (show i<9223372036854775807 by omega)]
   grind)
   (fun m hm=>⟨m,by simp[i8,ij,cond_false],by rw[hm]⟩) 0 0 (cG _) rfl
  simp_all
 simp[wC,h,aa]
theorem OT{t:am}(hV:gB t):BY t=some (jR t):=by have:=wH hV;have hl:=hV.xQ;simp only[BY,OS (show t.aS.l.length<9223372036854775808 by omega)];exact congrArg some (gZ (n:=jR t) (by omega) (by omega))
end
section
variable{t:am}{old now:Sl (Sl Int)}
def rmv(t:am)(old now:Sl (Sl Int))(n i h:Nat):List aD:=if jz t now h i=n/\gA old h i≠gA now h i then[((i:Int),(h:Int),gA now h i,(n:Int))]else[]
def OL(t:am)(old now:Sl (Sl Int))(n i:Nat):List aD:=(aG t.aU.l.length).flatMap (rmv t old now n i)
def MP(t:am)(old now:Sl (Sl Int))(n:Nat):List aD:=(aG now.l.length).flatMap (OL t old now n)
def X0(t:am)(old now:Sl (Sl Int)):List aD:=(aG now.l.length).flatMap (MP t old now)
theorem BU{n i h:Nat}{m:aD}(hm:m∈rmv t old now n i h):m=((i:Int),(h:Int),gA now h i,(n:Int))/\jz t now h i=n/\gA old h i≠gA now h i:=by
 grind [rmv]
theorem SW(n i h:Nat):(rmv t old now n i h).length<=1:=by unfold rmv;split<;>simp
theorem OK(n i:Nat):(OL t old now n i).length<=t.aU.l.length:=by have:=lH (SW (t:=t) (old:=old) (now:=now) n i) (aG t.aU.l.length);unfold OL;simpa using this
theorem X1(n:Nat):(MP t old now n).length<=t.aU.l.length*now.l.length:=by have:=lH (OK (t:=t) (old:=old) (now:=now) n) (aG now.l.length);unfold MP;simpa using this
theorem OJ:(X0 t old now).Pairwise Mw:=by
 unfold X0;rw[gN];refine⟨fun n _=>?_,(fR).imp fun{a b}hab x hx y hy=>?_⟩
 .unfold MP;rw[gN];refine⟨fun i _=>?_,(fR).imp fun{a b}hab x hx y hy=>?_⟩
  .unfold OL;rw[gN];refine⟨fun h _=>?_,(fR).imp fun{a b}hab x hx y hy=>?_⟩
   .unfold rmv;split<;>simp
   .obtain ⟨rfl,_⟩:=BU hx;obtain⟨rfl,_⟩:=BU hy;exact .inr ⟨rfl,.inr ⟨rfl,by show(a:Int)<(b:Int);omega⟩⟩
  .obtain ⟨h1,_,hx⟩:=bL.1 hx;obtain⟨h2,_,hy⟩:=bL.1 hy;obtain⟨rfl,_⟩:=BU hx;obtain⟨rfl,_⟩:=BU hy;exact .inr ⟨rfl,.inl (by omega)⟩
 .obtain ⟨i1,_,hx⟩:=bL.1 hx;obtain⟨h1,_,hx⟩:=bL.1 hx;obtain⟨i2,_,hy⟩:=bL.1 hy;obtain⟨h2,_,hy⟩:=bL.1 hy;obtain⟨rfl,_⟩:=BU hx;obtain⟨rfl,_⟩:=BU hy;unfold Mw;simp;omega
theorem abv(hN:jS t now):X0 t old now=tF t old now:=by
 refine Yu (fun x y h1 h2=>by unfold Mw at*;omega) OJ L7 fun m=>?_;rw[JU,Cd];simp only[X0,MP,OL,bL,List.mem_range];constructor
 .rintro ⟨n,_,i,hi,h,hh,hm⟩;obtain⟨rfl,hd,hne⟩:=BU hm
  grind
 .rintro ⟨h,i,hh,hi,hne,rfl⟩;refine⟨jz t now h i,hN.lt hi hh,i,hi,h,hh,?_⟩;rw[rmv,if_pos ⟨rfl,fun e=>hne e.symm⟩];exact aL ..
theorem MQ(hO:jS t old)(hN:jS t now):∃s,z7 t old now=some (s,0)/\s.l=tF t old now:=by
 have hsm:=hN.1.zW;have hho:=hN.1.sq;have hsw:=hN.1.len;have hle:old.l.length=now.l.length:=by have:=hO.1.len;omega
 have hcond:∀n:Nat,decide ((n:Int)<t.ao)=decide ((n:Int)<(now.l.length:Int)):=fun n=>by rw[hsw]
 have hin:∀(n i:Nat),n<9->i<now.l.length->∀s0:Sl aD,s0.l.length<=2000->∃s,aJ (lP t old now (n:Int) (i:Int)) (0,s0)=some s/\s.l=s0.l++OL t old now n i:=by
  intro n i hn hi s0 h0;refine xR (f:=lP t old now (n:Int) (i:Int)) (aG t.aU.l.length) (rmv t old now n i) s0 (by simp;omega) (fun h s hh hs=>?_) (fun s=>by simp only[lP,bB,ij,cond_false]);have hh:h<t.aU.l.length:=by simpa using hh
  rw[uM hh];have hiO:i<old.l.length:=by omega
  have hhn:h<(gt now.l i).l.length:=by rw[hN.1.dK hi];exact hh
  have hhO:h<(gt old.l i).l.length:=by rw[hO.1.dK hiO];exact hh
  obtain⟨l,h1,h2⟩:=FM hN.1 hh hi (hN.jz hi hh)
  have hlen:s.l.length<=3000:=by
   have:=lH (m:=1) (SW (t:=t) (old:=old) (now:=now) n i) ((aG t.aU.l.length).take h)
   grind
  have hw:wr .i64 ((n:Int)+1)=((n+1:Nat):Int):=pN (by omega);have hl:(((Sl.mk l).l.length:Int)==((n+1:Nat):Int))=decide (jz t now h i=n):=by rw[cF,beq_iff_eq,decide_eq_true_eq,Sl.lc,h2];omega
  have hp:(gt (gt old.l i).l h !=gt (gt now.l i).l h)=decide (gA old h i≠gA now h i):=by rw[cF,bne_iff_ne,decide_eq_true_eq];rfl
  by_cases hc:jz t now h i=n/\gA old h i≠gA now h i
  .refine ⟨.mk (s.l++[((i:Int),(h:Int),gt (gt now.l i).l h,(n:Int))]),?_,by rw[rmv,if_pos hc];rfl⟩;simp only[lP,fT hh,cond_true,h1,aa,hw,hl,decide_eq_true hc.1,aY hi,aY hiO,aY hhn,aY hhO,hp,decide_eq_true hc.2];rw[kz (by grind)];rfl
  .refine ⟨s,?_,by rw[rmv,if_neg hc,List.append_nil]⟩;by_cases hd:jz t now h i=n
   .simp_all [gA,lP,fT,cond_true,h1,aa,decide_eq_true,aY,decide_eq_false,cond_false]
   .simp only[lP,fT hh,cond_true,h1,aa,hw,hl,decide_eq_false hd,cond_false]
 have hmid:∀(n:Nat),n<9->∀s0:Sl aD,s0.l.length<=1000->∃s,aJ (qt t old now (n:Int)) (0,s0)=some s/\s.l=s0.l++MP t old now n:=by
  intro n hn s0 h0;refine xR (f:=qt t old now (n:Int)) (aG now.l.length) (OL t old now n) s0 (by simp;omega) (fun i s hi hs=>?_) (fun s=>by simp_all[qt,bB,ij,cond_false]);have hi:i<now.l.length:=by simpa using hi
  have hlen:s.l.length<=2000:=by
   have:=lH (m:=8) (f:=OL t old now n) (fun i=>bg (OK n i) hho) ((aG now.l.length).take i)
   grind
  obtain⟨s',h1,h2⟩:=hin n i hn hi s hlen;exact⟨s',by simp only[qt,hcond,fT hi,cond_true,h1,aa],by rw[h2,uM hi]⟩
 obtain⟨s,h1,h2⟩:=xR (f:=uF t old now) (aG now.l.length) (MP t old now) .nil (by simp;omega) (fun n s hn hs=>by
  have hn:n<now.l.length:=by simpa using hn
  have hlen:s.l.length<=1000:=by have:=lH (m:=64) (f:=MP t old now) (fun n=>bg (X1 n) (bg (Nat.mul_le_mul hho hsm) (by decide))) ((aG now.l.length).take n);rw[List.length_take,bB]at this;have e:s.l=((aG now.l.length).take n).flatMap (MP t old now):=hs;rw[e];omega
  obtain⟨s',h1,h2⟩:=hmid n (by omega) s hlen;exact⟨s',by simp only[uF,hcond,fT hn,cond_true,h1,aa],by rw[h2,uM hn]⟩) (fun s=>by simp_all[uF,bB,ij,cond_false])
 have h2:s.l=X0 t old now:=h2;simp_all[z7,HZ,aa,bX,cond_false,h1,h2,abv]
theorem Rc(hN:jS t now){l:Sl aD}(hl:l.l=tF t old now)(n:Nat):∃s,DN t l (n:Int)=some s/\Dy l.l (n:Int) s.l:=by
 have hsm:=hN.1.zW;have hsw:=hN.1.len;have hml:=Nh (old:=old) hN;have hcond:∀n:Nat,decide ((n:Int)<t.ao)=decide ((n:Int)<(now.l.length:Int)):=fun n=>by rw[hsw]
 have hcount:∀i:Nat,∃c:Int,aJ (oN l (n:Int) (i:Int)) (0,0)=some c/\(c>0<->∃m∈l.l,m.2.2.2=(n:Int)/\m.1=(i:Int)):=by
  intro i
  have h:=Kg (f:=oN l (n:Int) (i:Int)) (fun k(c:Nat)=>((c:Int),(k:Int))) l.l.length (fun k c=>c<=k/\(0<c<->∃m∈l.l.take k,m.2.2.2=(n:Int)/\m.1=(i:Int))) (fun b=>∃c:Nat,b=(c:Int)/\(0<c<->∃m∈l.l,m.2.2.2=(n:Int)/\m.1=(i:Int))) (fun k c hk⟨i1,i2⟩=>by
   left;have et:l.l.take (k+1)=l.l.take k++[gt l.l k]:=by rw[dx hk,List.take_append_getElem hk]
   have hkl:k<100:=by rw[hl]at hk;omega
   have hw:wr .i64 ((c:Int)+1)=((c+1:Nat):Int):=pN (by omega);by_cases h1:(gt l.l k).1=(i:Int)
   .have b1:((gt l.l k).1==(i:Int))=true:=by rw[beq_iff_eq];exact h1
    by_cases h2:(gt l.l k).2.2.2=(n:Int)
    .have b2:((gt l.l k).2.2.2==(n:Int))=true:=by rw[beq_iff_eq];exact h2
     refine⟨c+1,by simp only[oN,fT hk,cond_true,aY hk,aa,b1,b2,hw,pN (show k<9223372036854775807 by omega)],by omega,fun _=>⟨gt l.l k,by rw[et];simp,h2,h1⟩,fun _=>by omega⟩
    .have b2:((gt l.l k).2.2.2==(n:Int))=false:=by rw[beq_eq_false_iff_ne];exact h2
     refine⟨c,by simp only[oN,fT hk,cond_true,aY hk,aa,b1,b2,cond_false,pN (show k<9223372036854775807 by omega)],by omega,?_⟩;rw[i2,et];constructor
     .rintro ⟨m,hm,h⟩;exact⟨m,bM _ hm,h⟩
     .rintro ⟨m,hm,h⟩;rcases aK.1 hm with hm|hm
      .exact ⟨m,hm,h⟩
      .obtain rfl:=aB.1 hm;exact absurd h.1 h2
   .have b1:((gt l.l k).1==(i:Int))=false:=by rw[beq_eq_false_iff_ne];exact h1
    refine⟨c,by simp only[oN,fT hk,cond_true,aY hk,aa,b1,cond_false,pN (show k<9223372036854775807 by omega)],by omega,?_⟩;rw[i2,et];constructor
    .rintro ⟨m,hm,h⟩;exact⟨m,bM _ hm,h⟩
    .rintro ⟨m,hm,h⟩;rcases aK.1 hm with hm|hm
     .exact ⟨m,hm,h⟩
     .obtain rfl:=aB.1 hm;exact absurd h.2 h1)
   (fun c⟨i1,i2⟩=>⟨_,by simp only[oN,ij,cond_false],c,rfl,by rw[List.take_length]at i2;exact i2⟩) 0 0 (cG _) ⟨aw _,by simp⟩
  obtain⟨b,h1,c,rfl,h2⟩:=h;exact⟨_,h1,by rw[<-h2];omega⟩
 have h:=Kg (f:=qX t l (n:Int)) (fun i(s:Sl Int)=>((i:Int),s)) now.l.length (fun i s=>s.l.length<=i/\s.l.Pairwise (·<·)/\∀x,x∈s.l<->(0<=x/\x<(i:Int))/\∃m∈l.l,m.2.2.2=(n:Int)/\m.1=x) (fun s=>Dy l.l (n:Int) s.l) (fun i s hi⟨i1,i2,i3⟩=>by
   left;obtain⟨c,h1,h2⟩:=hcount i;by_cases hc:c>0
   .refine ⟨.mk (s.l++[(i:Int)]),by simp only[qX,hcond,fT hi,cond_true,h1,aa,decide_eq_true hc,kz (show(s.l++[(i:Int)]).length<=2147483648 by rw[au,aH];omega),pN (show i<9223372036854775807 by omega)],by simp;omega,KL i2 fun y hy=>by have:=((i3 y).1 hy).1;omega,fun x=>?_⟩;rw[Sl.lc,aK,aB,i3];constructor
    .rintro (⟨h,hm⟩|rfl)
     .exact ⟨by omega,hm⟩
     .exact ⟨by omega,h2.1 hc⟩
    .rintro ⟨h,hm⟩;by_cases he:x=(i:Int)
     .exact .inr he
     .exact .inl ⟨by omega,hm⟩
   .refine ⟨s,by simp only[qX,hcond,fT hi,cond_true,h1,aa,decide_eq_false hc,cond_false,pN (show i<9223372036854775807 by omega)],by omega,i2,fun x=>?_⟩;rw[i3];constructor
    .rintro ⟨h,hm⟩;exact⟨by omega,hm⟩
    .rintro ⟨h,hm⟩;by_cases he:x=(i:Int)
     .exact absurd (h2.2 (he▸hm)) hc
     .exact ⟨by omega,hm⟩)
   (fun s⟨i1,i2,i3⟩=>⟨s,by simp only[qX,hcond,ij,cond_false],i2,fun x=>by rw[i3];refine⟨fun h=>h.2,fun h=>⟨?_,h⟩⟩;obtain⟨m,hm,_,rfl⟩:=h;obtain⟨h,i,_,hi,_,rfl⟩:=Cd.1 (JU.1 (hl▸hm));simp only;omega⟩) 0 .nil (cG _) ⟨aw _,by simp,fun x=>by simp;omega⟩
 obtain⟨s,h1,h2⟩:=h;have h1:aJ (qX t l (n:Int)) (0,Sl.nil)=some s:=h1;exact⟨s,by simp only[DN,h1,aa],h2⟩
end
end Go.Proofs.YtoekkpmeeclpeaaGreat.S
open Go.Ev Go
namespace Go.Proofs.YtoekkpmeeclpeaaGreat.S
section
variable{t:am}{old now:Sl (Sl Int)}
theorem TI{α:Type}[Inhabited α]{l:List α}{x:α}:gt (l++[x]) l.length=x:=by rw[dx (by simp)];simp
theorem TN{α:Type}[Inhabited α]{l:List α}{x:α}{j:Nat}(hj:j<l.length):gt (l++[x]) j=gt l j:=by rw[dx (by simp;omega),List.getElem_append_left hj,<-dx hj]
theorem MR(hN:jS t now){at' miss dL:Int}(hI:In at' miss dL){s:Sl aD}(hs:s.l=tF t old now)(hz:tF t old now≠[]):
  ∃R:Sl bj,aJ (pE t miss s) (ju t at' miss dL,0,s,miss,jR t,at'+dL+1,0,Sl.nil)=some (s,miss,jR t,at'+dL+1,xS t at' miss dL R.l.length,R)/\Rds (tF t old now) (ju t at' miss dL) (sA t miss) R.l/\0<R.l.length:=by
 have hV:=hN.1.EA;have hlf:=wH hV;have hI2:=hI;unfold In at hI2;have hsm:=hN.1.zW;have hsw:=hN.1.len;have hga:sA t miss=2*miss+jR t+1:=rfl;have hcond:∀n:Nat,decide ((n:Int)<t.ao)=decide ((n:Int)<(now.l.length:Int)):=fun n=>by rw[hsw]
 have h:=Kg (f:=pE t miss s) (fun n(q:Int×Int×Sl bj)=>(q.1,(n:Int),s,miss,jR t,at'+dL+1,q.2.1,q.2.2)) now.l.length
  (fun n q=>(q.2.2.l.map fun x=>x.1).Pairwise (·<·)/\(∀x,x∈(q.2.2.l.map fun x=>x.1)<->(0<=x/\x<(n:Int))/\∃m∈s.l,m.2.2.2=x)/\(∀j,j<q.2.2.l.length->(gt q.2.2.l j).2.1=ju t at' miss dL+(j:Int)*sA t miss)/\
   (∀j,j<q.2.2.l.length->Dy s.l (gt q.2.2.l j).1 (gt q.2.2.l j).2.2.l)/\q.1=ju t at' miss dL+(q.2.2.l.length:Int)*sA t miss/\(0<q.2.2.l.length->q.2.1=xS t at' miss dL q.2.2.l.length))
  (fun b=>∃(R:Sl bj)(to:Int),b=(s,miss,jR t,at'+dL+1,to,R)/\Rds (tF t old now) (ju t at' miss dL) (sA t miss) R.l/\(0<R.l.length->to=xS t at' miss dL R.l.length))
  (fun n q hn⟨i1,i2,i3,i4,i5,i6⟩=>by
   obtain⟨tm,to,R⟩:=q;simp only at i1 i2 i3 i4 i5 i6;left
   have hk:R.l.length<=8:=by
    have:=I4 i1 fun x hx=>by have:=((i2 x).1 hx).1;omega
    simpa using this
   have ht:=MD hV hI hk;obtain⟨S,q1,q2⟩:=Rc hN hs n
   have hlenS:(((S.l.length:Int)==0)=true<->¬∃m∈s.l,m.2.2.2=(n:Int)):=by
    rw[beq_iff_eq];constructor
    .rintro h ⟨m,hm,e⟩;have:m.1∈S.l:=(q2.yq _).2 ⟨m,hm,e,rfl⟩;have:=List.length_pos_of_mem this;omega
    .intro h;cases hS:S.l with|nil=>rfl|cons x r=>obtain⟨m,hm,e,_⟩:=(q2.yq x).1 (by rw[hS];exact aL ..);exact absurd ⟨m,hm,e⟩ h
   by_cases hc:∃m∈s.l,m.2.2.2=(n:Int)
   .have hb:((S.l.length:Int)==0)=false:=by rw[<-Bool.not_eq_true];exact fun h=>hlenS.1 h hc
    have em:((R.l.length+1:Nat):Int)*sA t miss=(R.l.length:Int)*sA t miss+sA t miss:=by rw[show((R.l.length+1:Nat):Int)=(R.l.length:Int)+1 by omega,Int.add_mul,Int.one_mul]
    have w1:wr .i64 (tm+miss)=tm+miss:=gZ (by omega) (by omega);have w2:wr .i64 (wr .i64 (wr .i64 (tm+miss+miss)+jR t)+1)=tm+sA t miss:=by rw[gZ (n:=tm+miss+miss) (by omega) (by omega),gZ (n:=tm+miss+miss+jR t) (by omega) (by omega),gZ (by omega) (by omega)];omega
    refine⟨(tm+sA t miss,tm+miss,.mk (R.l++[((n:Int),tm,S)])),?_,?_,fun x=>?_,fun j hj=>?_,fun j hj=>?_,?_,fun _=>?_⟩
    .simp only[pE,hcond,fT hn,cond_true,q1,aa,hb,cond_false,w1,w2,kz (show(R.l++[(((n:Int),tm,S):bj)]).length<=2147483648 by rw[au,aH];omega),pN (show n<9223372036854775807 by omega)]
    .simp only[Sl.lc,dm,bN,iv];exact KL i1 fun y hy=>by have:=((i2 y).1 hy).1;omega
    .simp only[Sl.lc,dm,bN,iv];rw[aK,aB,i2];constructor
     .rintro (⟨h,hm⟩|rfl)
      .exact ⟨by omega,hm⟩
      .exact ⟨by omega,hc⟩
     .rintro ⟨h,hm⟩;by_cases he:x=(n:Int)
      .exact .inr he
      .exact .inl ⟨by omega,hm⟩
    .simp only[Sl.lc]at hj|-;by_cases he:j=R.l.length
     .subst he;rw[TI];exact i5
     .rw [TN (by rw[au,aH]at hj;omega)];exact i3 j (by rw[au,aH]at hj;omega)
    .simp only[Sl.lc]at hj|-;by_cases he:j=R.l.length
     .subst he;rw[TI];exact q2
     .rw [TN (by rw[au,aH]at hj;omega)];exact i4 j (by rw[au,aH]at hj;omega)
    .simp only[Sl.lc,au,aH];rw[em,i5];omega
    .simp only[Sl.lc,au,aH];rw[xS,Nat.add_sub_cancel,i5]
   .have hb:=hlenS.2 hc;refine⟨(tm,to,R),?_,i1,fun x=>?_,i3,i4,i5,i6⟩
    .simp only[pE,hcond,fT hn,cond_true,q1,aa,hb,pN (show n<9223372036854775807 by omega)]
    .simp only;rw[i2];constructor
     .rintro ⟨h,hm⟩;exact⟨by omega,hm⟩
     .rintro ⟨h,hm⟩;by_cases he:x=(n:Int)
      .exact absurd (he▸hm) hc
      .exact ⟨by omega,hm⟩)
  (fun q⟨i1,i2,i3,i4,i5,i6⟩=>by obtain⟨tm,to,R⟩:=q;refine⟨_,by simp only[pE,hcond,ij,cond_false],R,to,rfl,⟨i1,fun x=>?_,i3,fun j hj=>by rw[<-hs];exact i4 j hj⟩,i6⟩;have i2:=i2 x;simp only at i2;rw[i2,hs];refine⟨fun h=>h.2,fun h=>⟨?_,h⟩⟩;obtain⟨m,hm,rfl⟩:=h;have:=JT hN hm;omega) 0 (ju t at' miss dL,0,.nil) (cG _) ⟨by simp,fun x=>by simp;omega,fun j hj=>by simp at hj,fun j hj=>by simp at hj,by simp,fun h=>by simp at h⟩
 obtain⟨b,h1,R,to,rfl,h2,h3⟩:=h;have hp:0<R.l.length:=by have hm:=List.head_mem hz;have:((tF t old now).head hz).2.2.2∈R.l.map fun x=>x.1:=(h2.yq _).2 ⟨_,hm,rfl⟩;have:=List.length_pos_of_mem this;simpa using this
 rw[h3 hp]at h1;exact⟨R,h1,h2,hp⟩
theorem LU{at' miss dL:Int}:((((((decide (at'<0))||(decide (at'>1099511627776)))||(decide (miss<0)))||(decide (miss>1048576)))||(decide (dL<0)))||(decide (dL>1048576)))=decide (¬In at' miss dL):=by rw[cF,decide_eq_true_eq (p:=¬In at' miss dL)];simp only[Bool.or_eq_true,decide_eq_true_eq];unfold In;omega
theorem MS(hO:jS t old)(hN:jS t now){at' miss dL:Int}(hI:In at' miss dL):∃p e,lO t old now at' miss dL=some (p,e)/\QB t old now at' miss dL p e:=by
 have hV:=hN.1.EA;obtain⟨s,h1,h2⟩:=MQ hO hN;have hnI:decide (¬In at' miss dL)=false:=decide_eq_false fun h=>h hI;by_cases hz:tF t old now=[]
 .refine ⟨DR,7,?_,fun _=>⟨rfl,rfl⟩,fun h=>absurd hz h⟩;have hl:((s.l.length:Int)==0)=true:=by rw[h2,hz];rfl
  unfold lO;rw[LU,hnI];simp only[aa,cond_false,h1,bne_self_eq_false,hl,cond_true];rfl
 .have hl:((s.l.length:Int)==0)=false:=by have:0<(tF t old now).length:=List.length_pos_iff.2 hz;rw[h2,beq_eq_false_iff_ne];omega
  obtain⟨R,h3,h4,h5⟩:=MR hN hI h2 hz;have hlf:=wH hV;have hI2:=hI;unfold In at hI2;have w1:wr .i64 (wr .i64 (wr .i64 (wr .i64 (at'+dL)+miss)+jR t)+1)=ju t at' miss dL:=by unfold ju;rw[gZ (n:=at'+dL) (by omega) (by omega),gZ (n:=at'+dL+miss) (by omega) (by omega),gZ (n:=at'+dL+miss+jR t) (by omega) (by omega),gZ (by omega) (by omega)]
  have w2:wr .i64 (wr .i64 (at'+dL)+1)=at'+dL+1:=by rw[gZ (n:=at'+dL) (by omega) (by omega),gZ (by omega) (by omega)]
  have hrun:lO t old now at' miss dL=some (bif decide (xS t at' miss dL R.l.length>1099511627776)then(DR,11)else((s,R,miss,jR t,at'+dL+1,xS t at' miss dL R.l.length),0)):=by unfold lO;rw[LU,hnI];simp only[aa,cond_false,h1,bne_self_eq_false,hl,OT hV,w1,w2,h3];cases decide (xS t at' miss dL R.l.length>1099511627776)<;>rfl
  by_cases ho:xS t at' miss dL R.l.length>1099511627776
  .rw [decide_eq_true ho]at hrun;exact⟨_,_,hrun,fun h=>absurd h hz,fun _=>⟨s,R,h2,h4,h5,.inl ⟨ho,rfl,rfl⟩⟩⟩
  .rw [decide_eq_false ho]at hrun;exact⟨_,_,hrun,fun h=>absurd h hz,fun _=>⟨s,R,h2,h4,h5,.inr ⟨by omega,rfl,rfl⟩⟩⟩
theorem Sl.eq{α:Type}{a b:Sl α}(h:a.l=b.l)(hn:a.l≠[]):a=b:=by
 cases a with
 |nil=>exact absurd rfl hn
 |mk a=>cases b with|nil=>exact absurd h hn|mk b=>exact congrArg Sl.mk h
theorem QB.zH{a b c:Int}{p q:aC}{e f:Int}(hN:jS t now)(h:QB t old now a b c p e)(h':QB t old now a b c q f):p=q/\e=f:=by
 by_cases hz:tF t old now=[]
 .obtain ⟨rfl,rfl⟩:=h.none hz;obtain⟨rfl,rfl⟩:=h'.none hz;exact⟨rfl,rfl⟩
 obtain⟨s,R,hs,hR,hp,hc⟩:=h.Yt hz;obtain⟨s',R',hs',hR',hp',hc'⟩:=h'.Yt hz;obtain⟨hlen,hel⟩:=hR.zH hR';have e1:s=s':=Sl.eq (hs.trans hs'.symm) (by rw[hs];exact hz);have e2:R=R':=Sl.eq (List.ext_getElem hlen fun i h1 h2=>by obtain⟨g1,g2,g3⟩:=hel i h1;have hm:(gt R.l i).1∈R.l.map fun x=>x.1:=List.mem_map.2 ⟨gt R.l i,by rw[dx h1];exact cW _,rfl⟩;obtain⟨m,m1,m2⟩:=(hR.yq _).1 hm;have hne:(gt R.l i).2.2.l≠[]:=List.ne_nil_of_mem (((hR.sws i h1).yq _).2 ⟨m,m1,m2,rfl⟩);rw[<-dx h1,<-dx h2];exact Prod.ext g1 (Prod.ext g2 (Sl.eq g3 hne))) (List.ne_nil_of_length_pos hp);subst e1 e2;rcases hc with⟨ho,rfl,rfl⟩|⟨ho,rfl,rfl⟩<;>rcases hc' with⟨ho',rfl,rfl⟩|⟨ho',rfl,rfl⟩
 .exact ⟨rfl,rfl⟩
 .omega
 .omega
 .exact ⟨rfl,rfl⟩
theorem VH(hO:jS t old)(hN:jS t now){a b c:Int}(hI:In a b c):∃p e,lG t old now a b c=some (p,e)/\lO t old now a b c=some (p,e)/\QB t old now a b c p e:=by obtain⟨p,e,h1,h2⟩:=VI hO hN hI;obtain⟨q,f,h3,h4⟩:=MS hO hN hI;obtain⟨rfl,rfl⟩:=h2.zH hN h4;exact⟨p,e,h1,h3,h2⟩
end
end Go.Proofs.YtoekkpmeeclpeaaGreat.S
