/- The law ShortTree: a tree's ports lead to the host's switch, over as many steps and at the cost that are told. Conditions: words of 64 bits. -/
import Derived.Test.YtingpmogbibghaaSL
open Bool renaming and_eq_true->ai,or_false->kw
open List renaming mem_map->bv
open Option renaming bind_some->ae
open Go.Ev Go Go.Fl Go.Ways
namespace Go.Proofs.Ytingpmogbibghaa.S
theorem Z6{E:Nat->List (Nat×Nat)}{c:Nat->Nat}{g:Nat}:∀k i,j5 E c g k i=0->i=g
 |0,i,h=>by simp only[j5]at h;split at h<;>first|assumption|omega
 |k+1,i,h=>by
  simp only[j5]at h;split at h
  .omega
  .exact Z6 k i h
theorem aae{E:Nat->List (Nat×Nat)}{c:Nat->Nat}{g:Nat}(k:Nat):j5 E c g k g=0:=by
 have h0:j5 E c g 0 g=0:=by simp[j5]
 rw[aab (k:=0) (by rw[h0];omega) k (Nat.zero_le _),h0]
theorem aac{t:aj}{i:Nat}{x:aE}(h:x∈fU t (i:Int)):0<=x.f_:=by obtain⟨p,_,h1⟩:=List.mem_filterMap.1 h;obtain⟨q,_,h3⟩:=Option.map_eq_some_iff.1 h1;rw[<-h3];exact Int.natCast_nonneg p
section
variable{t:aj}{L:List Nat}(hV:lF t)(hL:L.length=t.aP.l.length)(hn:∀x∈L,nn x)(h30:t.aP.l.length<=30)
include hV
theorem Z9{i:Nat}{x:aE}(h:x∈fU t (i:Int)):∃b,LF t (i:Int) x.f_=(x.To,b,x.iI,true):=by obtain⟨j,l,b,h1,h2,h3⟩:=(wD hV).1 h;refine⟨b,?_⟩;unfold LF;rw[(Er hV).2 ⟨j,l,h1,h2,h3⟩]
include hL hn h30
omit h30 in
theorem XA{h:Nat}(hh:h<t.bg.l.length){i:Nat}(hi:i<t.ah.toNat)(hne:i≠hg t h):
  (qQ t L h i=-1/\¬cB t L (hg t h) i<oK)\/∃x∈fU t (i:Int),qQ t L h i=x.f_/\cB t L (hg t h) i<oK/\wt L x.iI<oK/\P (wt L x.iI) (cB t L (hg t h) x.To.toNat)=cB t L (hg t h) i/\
   rT t L (cB t L (hg t h)) (hg t h) x.To.toNat+1=rT t L (cB t L (hg t h)) (hg t h) i:=by
 have hgn:hg t h<t.ah.toNat:=by have:=IJ hV hh;unfold hg;omega
 obtain⟨s1,s2,s3⟩:=l_ hV;have hE:=wJ hV L;have e:qQ t L h i=vU t L (cB t L (hg t h)) (hg t h) i:=by unfold qQ PP;rw[if_neg hne]
 rw[e];unfold vU;cases hf:(fU t (i:Int)).find? (fun x=>jU (iF t L) (cB t L (hg t h)) i (ed L x)&&(rT t L (cB t L (hg t h)) (hg t h) x.To.toNat+1==rT t L (cB t L (hg t h)) (hg t h) i))with
 |none=>
  refine .inl ⟨rfl,fun hlt=>?_⟩;obtain⟨_,_,cl,hcl,htp⟩:=Ze hV hL hn hgn;obtain⟨k,hk⟩:=Z_ hE (fun j _=>yr t L (hg t h) j) hcl hgn (htp i hi hlt) hi hlt;have hfar:=aad hE hi hk;have hr:=th (E:=iF t L) (c:=cB t L (hg t h)) (g:=hg t h) (t.ah.toNat-1) i;have h0:j5 (iF t L) (cB t L (hg t h)) (hg t h) (t.ah.toNat-1) i≠0:=fun h0=>hne (Z6 _ _ h0);obtain⟨m,hm⟩:∃m:Nat,j5 (iF t L) (cB t L (hg t h)) (hg t h) (t.ah.toNat-1) i=(m:Int)+1:=⟨(j5 (iF t L) (cB t L (hg t h)) (hg t h) (t.ah.toNat-1) i-1).toNat,by omega⟩
  obtain⟨e,he,ht,hm2⟩:=E_ _ _ _ hm;obtain⟨x,hx,rfl⟩:=bv.1 he;have:=List.find?_eq_none.1 hf x hx;apply this;rw[ai];refine⟨ht,?_⟩;rw[beq_iff_eq];unfold rT;rw[hm];have hm2:j5 (iF t L) (cB t L (hg t h)) (hg t h) (t.ah.toNat-1) x.To.toNat=(m:Int):=hm2;rw[hm2]
 |some x=>have hx:=List.mem_of_find?_eq_some hf;have hp:=List.find?_some hf;rw[ai,beq_iff_eq]at hp;obtain⟨ht,hfr⟩:=hp;unfold jU at ht;rw[ai,ai,decide_eq_true_eq,decide_eq_true_eq,beq_iff_eq]at ht;exact .inr ⟨x,hx,rfl,ht.1.1,ht.1.2,ht.2,hfr⟩
theorem Z8{h:Nat}(hh:h<t.bg.l.length){n8:Nat}(h8:(gt t.bg.l n8).At=((hg t h:Nat):Int))(h12:t.ah.toNat<=8):∀(m i k:Nat)(s:Sl Int),i<t.ah.toNat->rT t L (cB t L (hg t h)) (hg t h) i=(m:Int)->k+m<t.ah.toNat->s.l.length=k->
  cB t L (hg t h) i<oK\/i=hg t h->
  ∃ls:List Int,aY (ZY t (dW L) (Sl.mk (bw t.ah.toNat (qQ t L h))) n8) ((i:Int),(k:Int),s)=some (.inr (if ls=[]then s else Sl.mk (s.l++ls)))/\Zg L ls=cB t L (hg t h) i/\ls.length=m/\(∀l∈ls,0<=l/\l<t.aP.l.length):=by
 obtain⟨s1,s2,s3⟩:=l_ hV;have hgn:hg t h<t.ah.toNat:=by have:=IJ hV hh;unfold hg;omega
 intro m;induction m with
 |zero=>
  intro i k s hi hm hk hs hc;have:i=hg t h:=Z6 _ _ hm;subst this;refine⟨[],bH ?_,by rw[(Ze hV hL hn hgn).1];rfl,rfl,fun _ h=>nomatch h⟩;simp only[ZY];have:((hg t h:Int) !=(gt t.bg.l n8).At)=false:=by rw[h8,bne_self_eq_false]
  rw[this,cond_false,if_pos trivial]
 |succ m ih=>
  intro i k s hi hm hk hs hc;have hne:i≠hg t h:=fun e=>by have h0:=aae (E:=iF t L) (c:=cB t L (hg t h)) (g:=hg t h) (t.ah.toNat-1);unfold rT at hm;rw[e,h0]at hm;omega
  have hlt:cB t L (hg t h) i<oK:=hc.resolve_right hne;rcases XA hV hL hn hh hi hne with⟨_,hno⟩|⟨x,hx,hp,h1,h2,h3,h4⟩
  .exact absurd hlt hno
  .have hnk:=nk hV hx;have hto:x.To.toNat<t.ah.toNat:=by omega
   obtain⟨b,hpeer⟩:=Z9 hV hx
   have hstep:ZY t (dW L) (Sl.mk (bw t.ah.toNat (qQ t L h))) n8 ((i:Int),(k:Int),s)=some (.inl (((x.To.toNat:Nat):Int),((k+1:Nat):Int),Sl.mk (s.l++[x.iI]))):=by
    simp only[ZY];have b1:((i:Int) !=(gt t.bg.l n8).At)=true:=by rw[h8,bne_iff_ne];omega
    have hpe:=X8 (t:=t) (i:Int) x.f_ (by omega);rw[hpeer]at hpe;rw[b1,cond_true,decide_eq_false (show¬(k:Int)>=t.ah by omega),cond_false,h_,cu,nV hi,ae,g_ hi,hp,hpe,ae];simp only[Bool.not_true,cond_false];rw[Qm hn (L:=L) hnk.2.2.2.1 (by omega),decide_eq_true h2,ae,ae,Bool.not_true,cond_false,iM.2 ⟨rfl,by simp;omega⟩,ae,u4 (by omega)];have:((x.To.toNat:Nat):Int)=x.To:=by omega
    rw[this]
   have hclt:cB t L (hg t h) x.To.toNat<oK:=by have:=DA (a:=wt L x.iI) (yr t L (hg t h) x.To.toNat);omega
   obtain⟨ls,h5,h6,h7,h9⟩:=ih x.To.toNat (k+1) (Sl.mk (s.l++[x.iI])) hto (by omega) (by omega) (by rw[h_,List.length_append];simp;omega) (.inl hclt);refine⟨x.iI::ls,(cz hstep).trans (h5.trans ?_),?_,by rw[List.length_cons,h7],fun l hl=>?_⟩
   .rw [if_neg (show x.iI::ls≠[]by simp),h_];by_cases hl:ls=[]
    .rw [if_pos hl,hl]
    .rw [if_neg hl,List.append_assoc];rfl
   .show P (wt L x.iI) (Zg L ls)=_;rw[h6];exact h3
   .rcases List.mem_cons.1 hl with rfl|hl
    .omega
    .exact h9 l hl
end
theorem aaa(t:aj)(b:Sl Int)(h from_:Int)(hb:∀x∈b.l,0<=x/\x<=18446744073709551615):Z1 t b h from_=some true:=by
 obtain⟨L,hl,hw⟩:=OV hb;have e0:b.l.length=L.length:=by rw[hl,List.length_map]
 unfold Z1;rw[Jg,ae,xI];by_cases hs:t.aP.l.length<=30/\t.bg.l.length<=12/\b.l.length<=30
 .obtain ⟨h1,h2,h3⟩:=hs;have hLb:L.length<=30:=by omega
  rw[decide_eq_true ⟨h1,h2,h3⟩,Bool.not_true,cond_false,qv hl hLb h1 h2,ae,ae];cases hok:EO t L with
  |false=>rfl
  |true=>
   obtain⟨hV,hL,hn,hcl⟩:=zZ hok;obtain⟨s1,s2,s3⟩:=l_ hV;by_cases hin:0<=h/\h<t.bg.l.length/\0<=from_/\from_<t.ah
   .obtain ⟨k1,k2,k3,k4⟩:=hin;obtain⟨q,rfl⟩:∃q:Nat,h=q:=⟨h.toNat,by omega⟩
    obtain⟨f,rfl⟩:∃f:Nat,from_=f:=⟨from_.toNat,by omega⟩
    have hq:q<t.bg.l.length:=by omega
    have hfn:f<t.ah.toNat:=by omega
    have hho:=IJ hV hq;have hgn:hg t q<t.ah.toNat:=by unfold hg;omega
    have hat:(gt t.bg.l q).At=((hg t q:Nat):Int):=by unfold hg;omega
    have hg0:(((((!true)||(decide ((q:Int)<0)))||(decide ((q:Int)>=(((aj.bg t).l).length:Int))))||(decide ((f:Int)<0)))||(decide ((f:Int)>=(aj.ah t))))=false:=by rw[decide_eq_false (show¬(q:Int)<0 by omega),decide_eq_false (show¬(q:Int)>=((t.bg.l.length:Nat):Int)by omega),decide_eq_false (show¬(f:Int)<0 by omega),decide_eq_false (show¬(f:Int)>=t.ah by omega)];rfl
    have f5:(((t.ah.toNat:Nat):Int) !=(aj.ah t))=false:=by rw[bne_eq_false_iff_eq];show((t.ah.toNat:Nat):Int)=t.ah;omega
    rw[hg0,cond_false,QW hl hw hLb,ae,hcl,DS hV hL hn hq,ae];simp only[];rw[nV hq,ae,hat,IY hV hL hn hgn,ae,h_,h_,cu,cu,f5,bne_self_eq_false,kw,kw,cond_false,nV hfn,ae,g_ hfn];have hport:qQ t L q (hg t q)=(gt t.bg.l q).f_:=by unfold qQ PP;rw[if_pos rfl]
    have hcase:(qQ t L q f=-1/\¬cB t L (hg t q) f<oK)\/(qQ t L q f≠-1/\(cB t L (hg t q) f<oK\/f=hg t q)/\∃m:Nat,rT t L (cB t L (hg t q)) (hg t q) f=(m:Int)):=by
     by_cases hfg:f=hg t q
     .refine .inr ⟨by rw[hfg,hport];omega,.inr hfg,0,?_⟩;unfold rT;rw[hfg,aae];rfl
     .rcases XA hV hL hn hq hfn hfg with hh|⟨x,hx,hp,p1,p2,p3,p4⟩
      .exact .inl hh
      .have hpn:=aac hx;have hr:=th (E:=iF t L) (c:=cB t L (hg t q)) (g:=hg t q) (t.ah.toNat-1) x.To.toNat;refine .inr ⟨by rw[hp];omega,.inl p1,(rT t L (cB t L (hg t q)) (hg t q) f).toNat,?_⟩;have hr':-1<=rT t L (cB t L (hg t q)) (hg t q) x.To.toNat:=hr.1;omega
    rcases hcase with⟨e1,e2⟩|⟨e1,e2,m,e3⟩
    .have hup:tU (Sl.mk (bw t.ah.toNat (cB t L (hg t q)))) (f:Int)=some false:=by have:=Qm (L:=bw t.ah.toNat (cB t L (hg t q))) (fun x hx=>by obtain⟨i,_,rfl⟩:=bv.1 hx;exact qC (yr t L _ i)) (k:=(f:Int)) (by omega) (by rw[cu];omega);rw[o9 (by intro h;have:=congrArg List.length h;rw[cu]at this;simp at this;omega)]at this;rw[this];unfold wt;rw[Int.toNat_natCast,g_ hfn,rn (yr t L _ f),decide_eq_false e2]
     rw[e1,hup];rfl
    .have b1:(qQ t L q f==(-1))=false:=by rw[beq_eq_false_iff_ne];exact e1
     have hm:0+m<t.ah.toNat:=by have:=Mj (c:=cB t L (hg t q)) (g:=hg t q) (wJ hV L) (t.ah.toNat-1) hfn;have e3':j5 (iF t L) (cB t L (hg t q)) (hg t q) (t.ah.toNat-1) f=(m:Int):=e3;omega
     obtain⟨ls,w1,w2,w3,w4⟩:=Z8 hV hL hn h1 hq hat s3 m f 0 Sl.nil hfn e3 hm rfl e2;have w1:aY (ZY t (dW L) (Sl.mk (bw t.ah.toNat (qQ t L q))) q) ((f:Int),0,Sl.nil)=some (.inr (if ls=[]then Sl.nil else Sl.mk ((Sl.nil:Sl Int).l++ls))):=w1;have hres:(if ls=[]then(Sl.nil:Sl Int)else Sl.mk ((Sl.nil:Sl Int).l++ls))=dW ls:=by cases ls with|nil=>rfl|cons=>rfl
     rw[hres]at w1;rw[b1,cond_false,w1,ae];simp only[];have n1:=qC (yr t L (hg t q) f);rw[Yb hL hn (by rw[rF];exact w4) (by rw[rF];omega),rF,w2,w3,ae,ae,g_ hfn,As (nL (uU n1) (mq n1)) (nL (uU n1) (mq n1)),decide_eq_true rfl,decide_eq_true (show((m:Nat):Int)<t.ah by omega),Bool.and_self,cond_true,nV hgn,ae,ae,g_ hgn,hport,beq_self_eq_true];rfl
   .have hg0:(((((!true)||(decide (h<0)))||(decide (h>=(((aj.bg t).l).length:Int))))||(decide (from_<0)))||(decide (from_>=(aj.ah t))))=true:=by
     simp only[Bool.or_eq_true,decide_eq_true_eq];by_cases k1:0<=h
     .by_cases k2:h<t.bg.l.length
      .by_cases k3:0<=from_
       .right;omega
       .left;right;omega
      .left;left;right;omega
     .left;left;left;right;omega
    rw[hg0];rfl
 .rw [decide_eq_false hs];rfl
end Go.Proofs.Ytingpmogbibghaa.S
