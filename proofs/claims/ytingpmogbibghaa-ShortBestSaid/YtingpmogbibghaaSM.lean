/- The law ShortBest: no way over links is cheaper than what Costs tells. Conditions: words of 64 bits. -/
import Derived.Test.YtingpmogbibghaaSL
open Bool renaming or_eq_true->dl
open Nat renaming zero_le->eQ
open Option renaming bind_some->ae
open Go.Ev Go Go.Fl Go.Ways
namespace Go.Proofs.Ytingpmogbibghaa.S
theorem Zb{t:aj}(hV:lF t){sw p a b c:Int}(h:LF t sw p=(a,b,c,true)):(⟨p,a,c⟩:aE)∈fU t sw:=by
 unfold LF at h;split at h
 .rename_i a' b' c' hs;cases h;obtain⟨j,l,h1,h2,h3⟩:=(Er hV).1 hs;exact(wD hV).2 ⟨j,l,b,h1,h2,h3⟩
 .cases h
section
variable{t:aj}{L:List Nat}(hV:lF t)(hL:L.length=t.aP.l.length)(hn:∀x∈L,nn x)(h30:t.aP.l.length<=30)
include hV hL hn h30
theorem Zp{ps:Sl Int}(hps:ps.l.length<=12){from_:Nat}(hf:from_<t.ah.toNat):∀(d k:Nat)(i:Nat)(s:Sl Int),ps.l.length-k=d->k<=ps.l.length->Zs t from_ s.l i->s.l.length<=k->
  ∃(g:Nat)(s':Sl Int),aY (YV t ps (dW L)) ((i:Int),(k:Int),s)=some (((g:Nat):Int),s')/\Zs t from_ s'.l g/\s'.l.length<=12:=by
 intro d;induction d with
 |zero=>
  intro k i s hd hk hw hs;have e:k=ps.l.length:=by omega
  refine⟨i,s,bH ?_,hw,by omega⟩;simp only[YV];rw[e,Bl,cond_false]
 |succ d ih=>
  intro k i s hd hk hw hs;have hlt:k<ps.l.length:=by omega
  have hi:=hw.lt hV hf;have hpe:=CM (t:=t) (i:Int) (gt ps.l k) (by omega);generalize hq:LF t (i:Int) (gt ps.l k)=q at hpe;obtain⟨a,b,c,o⟩:=q;have hstay:∀(r:Option (Option (Int×Sl Int))),True:=fun _=>trivial;by_cases hup:o=true/\wt L c<oK
  .obtain ⟨rfl,hup⟩:=hup;have hin:=Zb hV hq;have hnk:0<=a/\a<t.ah/\a≠(i:Int)/\0<=c/\c<t.aP.l.length:=nk hV hin
   have h1:YV t ps (dW L) ((i:Int),(k:Int),s)=some (.inl (((a.toNat:Nat):Int),((k+1:Nat):Int),Sl.mk (s.l++[c]))):=by
    simp only[YV];rw[vD hlt,cond_true,nV hlt,ae,hpe,ae];simp only[cond_true];rw[Qm hn (L:=L) (by have:=hnk.2.2.2.1;exact this) (by have:=hnk.2.2.2.2;omega),decide_eq_true hup];simp only[ae,cond_true];rw[iM.2 ⟨rfl,by simp;omega⟩,ae,ae,u4 (by omega)];have:((a.toNat:Nat):Int)=a:=by have:=hnk.1;omega
    rw[this]
   obtain⟨g,s',h2,h3,h4⟩:=ih (k+1) a.toNat (Sl.mk (s.l++[c])) (by omega) (by omega) (hw.ZQ hin) (by rw[h_,List.length_append];simp;omega);exact⟨g,s',(cz h1).trans h2,h3,h4⟩
  .have h1:YV t ps (dW L) ((i:Int),(k:Int),s)=some (.inl ((i:Int),((k+1:Nat):Int),s)):=by simp only[YV];rw[vD hlt,cond_true,nV hlt,ae,hpe,ae];cases o with|false=>simp only[cond_false,ae];rw[u4 (by omega)]|true=>have hin:=Zb hV hq;have hnk:0<=a/\a<t.ah/\a≠(i:Int)/\0<=c/\c<t.aP.l.length:=nk hV hin;simp only[cond_true];rw[Qm hn (L:=L) (by have:=hnk.2.2.2.1;exact this) (by have:=hnk.2.2.2.2;omega),decide_eq_false (fun h=>hup ⟨rfl,h⟩)];simp only[ae,cond_false];rw[u4 (by omega)]
   obtain⟨g,s',h2,h3,h4⟩:=ih (k+1) i s (by omega) (by omega) hw (by omega);exact⟨g,s',(cz h1).trans h2,h3,h4⟩
end
theorem Zv(t:aj)(b:Sl Int)(from_:Int)(ps:Sl Int)(hb:∀x∈b.l,0<=x/\x<=18446744073709551615):Y1 t b from_ ps=some true:=by
 obtain⟨L,hl,hw⟩:=OV hb;have e0:b.l.length=L.length:=by rw[hl,List.length_map]
 unfold Y1;rw[Jg,ae,xI];by_cases hs:t.aP.l.length<=30/\t.bg.l.length<=12/\b.l.length<=30
 .obtain ⟨h1,h2,h3⟩:=hs;have hLb:L.length<=30:=by omega
  rw[decide_eq_true ⟨h1,h2,h3⟩,Bool.not_true,cond_false,qv hl hLb h1 h2,ae,ae];cases hok:EO t L with
  |false=>rfl
  |true=>
   obtain⟨hV,hL,hn,hcl⟩:=zZ hok;obtain⟨s1,s2,s3⟩:=l_ hV;by_cases hin:0<=from_/\from_<t.ah/\ps.l.length<=12
   .obtain ⟨k1,k2,k3⟩:=hin;obtain⟨g,rfl⟩:∃g:Nat,from_=g:=⟨from_.toNat,by omega⟩
    have hgn:g<t.ah.toNat:=by omega
    have hg:((((!true)||(decide ((g:Int)<0)))||(decide ((g:Int)>=(aj.ah t))))||(decide ((ps.l.length:Int)>12)))=false:=by rw[decide_eq_false (show¬(g:Int)<0 by omega),decide_eq_false (show¬(g:Int)>=t.ah by omega),decide_eq_false (show¬(ps.l.length:Int)>12 by omega)];rfl
    obtain⟨j,s',h4,h5,h6⟩:=Zp hV hL hn h1 k3 hgn ps.l.length 0 g Sl.nil (by omega) (by omega) (.nil g) (eQ _);have hj:=h5.lt hV hgn;have h4:aY (YV t ps (dW L)) ((g:Int),0,Sl.nil)=some (((j:Nat):Int),s'):=h4;rw[hg,cond_false,QW hl hw hLb,ae,hcl,h4,ae];simp only[];have f5:(((t.ah.toNat:Nat):Int)==(aj.ah t))=true:=by rw[beq_iff_eq];show((t.ah.toNat:Nat):Int)=t.ah;omega
    have c0:=(Ze hV hL hn hj).1;have hge:=ZK hV hL hn h5 hgn;have n1:=qC (yr t L j g);have n2:=qC (Zc L s'.l);have z:nn 0:=qC (eQ _)
    rw[IY hV hL hn hj,ae,h_,cu,f5,cond_true,nV hj,ae,g_ hj,c0,As (nL (uU z) (mq z)) (nL (uU z) (mq z)),decide_eq_true rfl,cond_true,nV hgn,ae,Yb hL hn (h5.ZX hV) (by omega),ae,g_ hgn,
     Hk (nL (uU n1) (mq n1)) (nL (uU n2) (mq n2)),As (nL (uU n1) (mq n1)) (nL (uU n2) (mq n2)),yg n1,yg n2,rn (yr t L j g),rn (Zc L s'.l)]
    have:(decide (((cB t L j g:Nat):Int)<((Zg L s'.l:Nat):Int))||decide (((cB t L j g:Nat):Int)=((Zg L s'.l:Nat):Int)))=true:=by rw[dl,decide_eq_true_eq,decide_eq_true_eq];omega
    rw[this];rfl
   .have hg:((((!true)||(decide (from_<0)))||(decide (from_>=(aj.ah t))))||(decide ((ps.l.length:Int)>12)))=true:=by
     simp only[dl,decide_eq_true_eq];by_cases k1:0<=from_
     .by_cases k2:from_<t.ah
      .right;omega
      .left;right;omega
     .left;left;right;omega
    rw[hg];rfl
 .rw [decide_eq_false hs];rfl
end Go.Proofs.Ytingpmogbibghaa.S
