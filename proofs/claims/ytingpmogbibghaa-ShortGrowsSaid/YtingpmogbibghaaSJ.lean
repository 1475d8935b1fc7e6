/- The law ShortGrows: a weight that grows makes no way cheaper. Conditions: words of 64 bits. -/
import Derived.Test.YtingpmogbibghaaSI
open Bool renaming or_false->kw
open List renaming getD_eq_getElem?_getD->jL,length_map->aF
open Option renaming bind_some->ae
open Go.Ev Go Go.Fl Go.Ways
namespace Go.Proofs.Ytingpmogbibghaa.S
theorem Ww(t:aj)(b:Sl Int)(sw Mi JW:Int)(hb:∀x∈b.l,0<=x/\x<=18446744073709551615)(hm:0<=JW/\JW<=18446744073709551615):eI t b sw Mi JW=some true:=by
 obtain⟨L,hl,hw⟩:=OV hb;obtain⟨m,rfl,hmw⟩:∃m:Nat,JW=(m:Int)/\x7 m:=⟨JW.toNat,by omega,by unfold x7;omega⟩
 have e0:b.l.length=L.length:=by rw[hl,aF]
 unfold eI;rw[Jg,ae,xI];by_cases hs:t.aP.l.length<=30/\t.bg.l.length<=12/\b.l.length<=30
 .obtain ⟨h1,h2,h3⟩:=hs;have hLb:L.length<=30:=by omega
  rw[decide_eq_true ⟨h1,h2,h3⟩,Bool.not_true,cond_false,qv hl hLb h1 h2,ae,ae];cases hok:EO t L with
  |false=>rfl
  |true=>
   obtain⟨hV,hL,hn,hcl⟩:=zZ hok;obtain⟨s1,s2,s3⟩:=l_ hV;by_cases hin:0<=sw/\sw<t.ah/\0<=Mi/\Mi<(b.l.length:Int)
   .obtain ⟨k1,k2,k3,k4⟩:=hin;have hg:(((((!true)||(decide (sw<0)))||(decide (sw>=(aj.ah t))))||(decide (Mi<0)))||(decide (Mi>=(b.l.length:Int))))=false:=by rw[decide_eq_false (show¬sw<0 by omega),decide_eq_false (show¬sw>=t.ah by omega),decide_eq_false (show¬Mi<0 by omega),decide_eq_false (show¬Mi>=(b.l.length:Int)by omega)];rfl
    obtain⟨q,rfl⟩:∃q:Nat,Mi=q:=⟨Mi.toNat,by omega⟩
    obtain⟨g,rfl⟩:∃g:Nat,sw=g:=⟨sw.toNat,by omega⟩
    have hq:q<L.length:=by omega
    have hgn:g<t.ah.toNat:=by omega
    have hap:(yI (Sl.nil:Sl Int) b.l b.l).l=b.l:=by cases hbl:b.l with|nil=>rw[hbl]at e0;simp at e0;omega|cons x r=>rfl
    have hl2:(Sl.mk (b.l.set q (m:Int))).l=eh (L.set q m):=by rw[h_,hl,eh,eh,List.map_set]
    have hw2:∀x∈L.set q m,x7 x:=fun x hx=>by
     rcases List.mem_or_eq_of_mem_set hx with hx|hx
     .exact hw x hx
     .rw [hx];exact hmw
    have hset:(L.set q m).length=L.length:=List.length_set;rw[hg,cond_false,List.nil_append,iM.2 ⟨rfl,by omega⟩,ae,hap,nV (by omega),ae,QW hl hw hLb,ae,QW hl2 hw2 (by omega),ae,qv hl2 (by omega) h1 h2,ae,hcl];have f1:((((dW L).l.length:Nat):Int) !=(b.l.length:Int))=false:=by rw[rF,e0,bne_self_eq_false]
    have f2:((((dW ((L.set q m).map gM)).l.length:Nat):Int) !=(b.l.length:Int))=false:=by rw[rF,aF,hset,e0,bne_self_eq_false]
    have f3:((((dW L).l.length:Nat):Int)==(b.l.length:Int))=true:=by rw[rF,e0];simp
    have f4:((((dW ((L.set q m).map gM)).l.length:Nat):Int)==(b.l.length:Int))=true:=by rw[rF,aF,hset,e0];simp
    rw[f1,f2,f3,f4];cases hok2:EO t (L.set q m)with
    |false=>rfl
    |true=>
     obtain⟨_,hL2,hn2,hcl2⟩:=zZ hok2;have hnq:nn (gt L q):=hn _ (mP hq);have hmm:gt (L.set q m) q=m:=by rw[oM (by omega),List.getElem_set_self]
     have hnm:nn m:=by rw[<-hmm];exact hn2 _ (mP (by omega))
     rw[hcl2,rF,rF,nV (by omega),ae,nV hq,ae,hmm];simp only[Bool.not_true,kw,Bool.false_or,cond_false,ae];rw[Hk (nL (uU hnm) (mq hnm)) (nL (uU hnq) (mq hnq)),yg hnm,yg hnq];by_cases hlt:((ab m:Nat):Int)<((ab (gt L q):Nat):Int)
     .rw [decide_eq_true hlt];rfl
     .rw [decide_eq_false hlt,cond_false,IY hV hL hn hgn,ae,IY hV hL2 hn2 hgn,ae,h_,h_,cu,cu];have f5:(((t.ah.toNat:Nat):Int) !=(aj.ah t))=false:=by rw[bne_eq_false_iff_eq];show((t.ah.toNat:Nat):Int)=t.ah;omega
      have hwt:∀k:Int,wt L k<=wt (L.set q m) k:=fun k=>by
       unfold wt;by_cases e:k.toNat=q
       .rw [e,hmm];omega
       .have:gt (L.set q m) k.toNat=gt L k.toNat:=by unfold gt;rw[jL,jL,List.getElem?_set_ne (fun h=>e h.symm)]
        rw[this];exact Nat.le_refl _
      have hmono:∀i,cB t L g i<=cB t (L.set q m) g i:=fun i=>Wv (fun i=>by refine⟨by unfold iF;rw[aF,aF],fun j hj=>?_⟩;unfold iF at hj|-;rw[aF]at hj;simp only[jL,List.getElem?_map,List.getElem?_eq_getElem hj,Option.map_some,Option.getD_some];exact⟨trivial,hwt _⟩) _ i
      have:=Bc (f:=er (Sl.mk (bw t.ah.toNat (cB t L g))) (Sl.mk (bw t.ah.toNat (cB t (L.set q m) g)))) (fun i:Nat=>(i:Int)) t.ah.toNat (b:=.inr ()) (fun i hi=>by
       have n1:=qC (yr t L g i);have n2:=qC (yr t (L.set q m) g i);have hmi:=hmono i;simp only[er];rw[h_,h_,cu,cu,decide_eq_true (by omega),cond_true,nV hi,ae,ae,g_ hi,g_ hi,Hk (nL (uU n2) (mq n2)) (nL (uU n1) (mq n1)),yg n2,yg n1,rn (yr t L g i),rn (yr t (L.set q m) g i),decide_eq_false (by omega),cond_false,u4 (by omega)]) (by
       simp only[er];rw[h_,h_,cu,cu,decide_eq_false (by omega),cond_false])
      have e3:aY (er (Sl.mk (bw t.ah.toNat (cB t L g))) (Sl.mk (bw t.ah.toNat (cB t (L.set q m) g)))) 0=some (.inr ()):=this;rw[f5,kw,cond_false,e3];rfl
   .have hg:(((((!true)||(decide (sw<0)))||(decide (sw>=(aj.ah t))))||(decide (Mi<0)))||(decide (Mi>=(b.l.length:Int))))=true:=by
     by_cases a1:sw<0
     .rw [decide_eq_true a1];simp
     .by_cases a2:sw>=t.ah
      .rw [decide_eq_true a2];simp
      .by_cases a3:Mi<0
       .rw [decide_eq_true a3];simp
       .rw [decide_eq_true (show Mi>=(b.l.length:Int)by omega)];simp
    rw[hg];rfl
 .rw [decide_eq_false hs];rfl
end Go.Proofs.Ytingpmogbibghaa.S
