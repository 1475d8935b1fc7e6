/- The law ShortTells. Conditions: words of 64 bits. -/
import Derived.Test.YtingpmogbibghaaSH
open Bool renaming not_true->ir,or_false->kw
open List renaming length_append->au,length_map->aF,mem_map->bv
open Option renaming bind_some->ae
open Go.Ev Go Go.Fl Go.Ways
namespace Go.Proofs.Ytingpmogbibghaa.S
theorem Jg(t:aj)(b:Sl Int):ri t b=some (decide (t.aP.l.length<=30/\t.bg.l.length<=12/\b.l.length<=30)):=by unfold ri;have h1:decide ((((aj.aP t).l).length:Int)<=30)=decide (t.aP.l.length<=30):=decide_eq_decide.2 (by omega);have h2:decide ((((aj.bg t).l).length:Int)<=12)=decide (t.bg.l.length<=12):=decide_eq_decide.2 (by omega);have h3:decide ((b.l.length:Int)<=30)=decide (b.l.length<=30):=decide_eq_decide.2 (by omega);rw[h1,h2,h3];by_cases a1:t.aP.l.length<=30<;>by_cases a2:t.bg.l.length<=12<;>by_cases a3:b.l.length<=30<;>simp[a1,a2,a3]
theorem QW{b:Sl Int}{L:List Nat}(hl:b.l=eh L)(hw:∀x∈L,x7 x)(hb:L.length<=30):vS b=some (dW (L.map gM)):=by
 unfold vS;have e0:b.l.length=L.length:=by rw[hl,aF]
 have:=z_ (f:=qV b) L gM (fun i s hi hs=>by
  simp only[qV];rw[decide_eq_true (by omega),cond_true,nV (by omega),ae,hl,ph hi];unfold Al;rw[Aj,ae,Cg (hw _ (mP hi)),ae,ae,iM.2 ⟨rfl,by rw[au];simp;omega⟩,ae,u4 (by omega)]) (fun s=>by
  simp only[qV];rw[decide_eq_false (by omega),cond_false])
 rw[this];rfl
theorem No{n:Nat}{c:Nat->Nat}(hn:n<=8)(h0:1<=n)(hc:∀i,i<n->c i<=oK):nu (Sl.mk (bw n c))=some (Sl.mk (eh (bw n c))):=by
 unfold nu
 have:=z_ (f:=o8 (Sl.mk (bw n c))) (bw n c) (fun x=>((x:Nat):Int)) (fun i s hi hs=>by
  rw[cu]at hi;simp only[o8];have hq:=qC (hc i hi);rw[h_,cu,decide_eq_true (by omega),cond_true,nV hi,ae,g_ hi,Nn (uU hq),pD (mq hq),ae,iM.2 ⟨rfl,by rw[au];simp;omega⟩,ae,u4 (by omega)]) (fun s=>by
  simp only[o8];rw[h_,decide_eq_false (by omega),cond_false])
 rw[this,ae,o9 (by intro h;have:=congrArg List.length h;rw[aF,cu]at this;simp at this;omega)]
theorem Np:nu Sl.nil=some Sl.nil:=by unfold nu;rw[bH (b:=(Sl.nil:Sl Int)) rfl];rfl
theorem QC(s:Sl Int)(h:s.l.length<9223372036854775807):sW s s=some true:=by
 unfold sW;rw[bne_self_eq_false,cond_false]
 have:=Bc (f:=mV s s) (fun i:Nat=>(i:Int)) s.l.length (b:=.inr ()) (fun i hi=>by
  simp only[mV];rw[decide_eq_true (by omega),cond_true,nV hi,ae,ae,bne_self_eq_false,cond_false,u4 (by omega)]) (by
  simp only[mV];rw[decide_eq_false (by omega),cond_false])
 have e:aY (mV s s) 0=some (.inr ()):=this;rw[e];rfl
theorem Gq(s:Sl Int)(h:s.l.length<9223372036854775807):oX s s=some true:=by
 unfold oX;rw[bne_self_eq_false,cond_false]
 have:=Bc (f:=mZ s s) (fun i:Nat=>(i:Int)) s.l.length (b:=.inr ()) (fun i hi=>by
  simp only[mZ];rw[decide_eq_true (by omega),cond_true,nV hi,ae,ae,bne_self_eq_false,cond_false,u4 (by omega)]) (by
  simp only[mZ];rw[decide_eq_false (by omega),cond_false])
 have e:aY (mZ s s) 0=some (.inr ()):=this;rw[e];rfl
theorem Jq{s:Sl (Sl Int)}(h:s.l.length<=100)(h2:∀r∈s.l,r.l.length<=100):aY (iW s s) 0=some (.inr ()):=by
 have:=Bc (f:=iW s s) (fun i:Nat=>(i:Int)) s.l.length (b:=.inr ()) (fun i hi=>by
  simp only[iW];rw[decide_eq_true (by omega),cond_true,nV hi,ae,ae,Gq _ (by have:=h2 _ (mP hi);omega),ae,ir,cond_false,u4 (by omega)]) (by
  simp only[iW];rw[decide_eq_false (by omega),cond_false])
 exact this
theorem FE{t:aj}{b:Sl Int}{L:List Nat}(hl:b.l=eh L)(hw:∀x∈L,x7 x)(h1:t.aP.l.length<=30)(h2:t.bg.l.length<=12)(hb:L.length<=30)(sw:Int):
  ∃(c:Sl Nat)(d:Sl Int)(s:Sl Int),gD t (dW (L.map gM)) sw=some c/\nu c=some d/\iB t b sw=some d/\kc t (dW (L.map gM)) sw=some s/\mi t b sw=some s/\d.l.length<=100/\s.l.length<=100:=by
 by_cases hok:EO t L=true/\0<=sw/\sw<t.ah
 .obtain ⟨hok,k1,k2⟩:=hok;obtain⟨hV,hL,hn,hcl⟩:=zZ hok;obtain⟨s1,s2,s3⟩:=l_ hV;obtain⟨g,rfl⟩:∃g:Nat,sw=g:=⟨sw.toNat,by omega⟩
  have hg:g<t.ah.toNat:=by omega
  have hcs:=IY hV hL hn hg;have hcr:=yp hV hL hn hl h2 hg;refine⟨_,_,_,by rw[hcl];exact hcs,No s3 s2 fun i _=>yr t L g i,hcr,by rw[hcl];exact zu hV hL hn hg (fun i _=>yr t L g i) hcs,x_ hV hL hn (fun i _=>yr t L g i) hl h2 hg hcr,?_,?_⟩
  .rw [h_,aF,cu];omega
  .rw [h_,cu];omega
 .have hr:=rY (t:=t) hw hb;have hrR:=qv (t:=t) hl hb h1 h2
  have hguard:(((!(EO t L))||(decide (sw<0)))||(decide (sw>=(aj.ah t))))=true:=by
   cases h:EO t L with
   |false=>rfl
   |true=>
    by_cases h3:0<=sw
    .rw [decide_eq_true (show sw>=t.ah by
      rcases Int.lt_or_le sw t.ah with h4|h4
      .exact absurd ⟨h,h3,h4⟩ hok
      .exact h4)]
     simp
    .rw [decide_eq_true (show sw<0 by omega)];rfl
  have hc:gD t (dW (L.map gM)) sw=some Sl.nil:=by unfold gD;rw[hr,ae,hguard];rfl
  have hcR:iB t b sw=some Sl.nil:=by unfold iB;rw[hrR,ae,hguard];rfl
  refine⟨Sl.nil,Sl.nil,Sl.nil,hc,Np,hcR,?_,?_,by simp[Sl.l],by simp[Sl.l]⟩
  .unfold kc;rw[hc];rfl
  .unfold mi;have l1:aY (kR Sl.nil) (0,Sl.nil)=some Sl.nil:=bH rfl;have l4:aY (kQ t b Sl.nil) (1,Sl.nil)=some Sl.nil:=bH rfl;rw[hcR,ae,l1,ae];show((some Sl.nil:Option (Sl Int)).bind fun s10=>_)=_;rw[ae,l4];rfl
theorem K4{t:aj}{b:Sl Int}{L:List Nat}(hl:b.l=eh L)(hw:∀x∈L,x7 x)(h1:t.aP.l.length<=30)(h2:t.bg.l.length<=12)(hb:L.length<=30)(h:Int):
  ∃(s:Sl Int)(e:Int),kp t (dW (L.map gM)) h=some (s,e)/\me t b h=some (s,e)/\s.l.length<=100:=by
 have hr:=rY (t:=t) hw hb;have hrR:=qv (t:=t) hl hb h1 h2;cases hok:EO t L with
 |false=>rw[hok]at hr hrR;exact⟨Sl.nil,2,by unfold kp;rw[hr];rfl,by unfold me;rw[hrR];rfl,by simp[Sl.l]⟩
 |true=>
  rw[hok]at hr hrR;obtain⟨hV,hL,hn,hcl⟩:=zZ hok;by_cases hh:0<=h/\h<t.bg.l.length
  .obtain ⟨k,rfl⟩:∃k:Nat,h=k:=⟨h.toNat,by omega⟩
   have hk:k<t.bg.l.length:=by omega
   have h8:=l_ hV;exact⟨_,_,by rw[hcl];exact DS hV hL hn hk,xk hV hL hn hl h2 hk,by rw[h_,cu];omega⟩
  .have hguard:((decide (h<0))||(decide (h>=(((aj.bg t).l).length:Int))))=true:=by
    rw[Bool.or_eq_true];by_cases h3:0<=h
    .right;exact decide_eq_true (by omega)
    .left;exact decide_eq_true (by omega)
   exact⟨Sl.nil,7,by unfold kp;rw[hr,ae,hguard];rfl,by unfold me;rw[hrR,ae,hguard];rfl,by simp[Sl.l]⟩
theorem Lq{t:aj}{b:Sl Int}{L:List Nat}(hl:b.l=eh L)(hw:∀x∈L,x7 x)(h1:t.aP.l.length<=30)(h2:t.bg.l.length<=12)(hb:L.length<=30):
  ∃(s:Sl (Sl Int))(e:Int),ip t (dW (L.map gM))=some (s,e)/\lk t b=some (s,e)/\s.l.length<=100/\∀r∈s.l,r.l.length<=100:=by
 have hr:=rY (t:=t) hw hb;have hrR:=qv (t:=t) hl hb h1 h2;cases hok:EO t L with
 |false=>rw[hok]at hr hrR;exact⟨Sl.nil,2,by unfold ip;rw[hr];rfl,by unfold lk;rw[hrR];rfl,by simp[Sl.l],by simp[Sl.l]⟩
 |true=>
  obtain⟨hV,hL,hn,hcl⟩:=zZ hok;have h8:=l_ hV;obtain⟨r1,r2⟩:=Ea hV hL hn hl h2;rw[hcl];rcases Gy hV hL hn h2 with⟨q1,q2⟩|⟨q1,q2⟩
  .exact ⟨_,_,q2,r1 q1,by simp[Sl.l],by simp[Sl.l]⟩
  .refine ⟨_,_,q2,r2 q1,by rw[h_,cu];omega,fun r hr=>?_⟩;rw[h_]at hr;obtain⟨i,_,rfl⟩:=bv.1 hr;rw[rF];unfold lc;simp;omega
theorem OV{l:List Int}(h:∀x∈l,0<=x/\x<=18446744073709551615):∃L:List Nat,l=eh L/\∀x∈L,x7 x:=by
 refine⟨l.map Int.toNat,?_,fun x hx=>?_⟩
 .rw [eh,List.map_map];refine(List.map_id l).symm.trans (List.map_congr_left fun x hx=>?_);have:=h x hx;show x=((x.toNat:Nat):Int)
  omega
 .obtain ⟨y,hy,rfl⟩:=bv.1 hx;have:=h y hy;unfold x7;omega
theorem Je(t:aj)(b:Sl Int)(sw h:Int)(hb:∀x∈b.l,0<=x/\x<=18446744073709551615):oZ t b sw h=some true:=by
 obtain⟨L,hl,hw⟩:=OV hb;have e0:b.l.length=L.length:=by rw[hl,aF]
 unfold oZ;rw[Jg,ae,xI];by_cases hs:t.aP.l.length<=30/\t.bg.l.length<=12/\b.l.length<=30
 .obtain ⟨h1,h2,h3⟩:=hs;have hLb:L.length<=30:=by omega
  obtain⟨c,d,s,c1,c2,c3,c4,c5,c6,c7⟩:=FE hl hw h1 h2 hLb sw;obtain⟨s2,e2,t1,t2,t3⟩:=K4 hl hw h1 h2 hLb h;obtain⟨s3,e3,r1,r2,r3,r4⟩:=Lq hl hw h1 h2 hLb;rw[decide_eq_true ⟨h1,h2,h3⟩,ir,cond_false,QW hl hw hLb,ae,c1,ae,c2,ae,c3,ae,QC d (by omega),ae,ir,cond_false,c4,ae,c5,ae,Gq s (by omega),ae,ir,ae,cond_false,t1,ae];simp only[];rw[t2,ae];simp only[];rw[Gq s2 (by omega),ae,ir,bne_self_eq_false,kw,cond_false,r1,ae];simp only[];rw[r2,ae];simp only[];rw[bne_self_eq_false,bne_self_eq_false,kw,cond_false,Jq r3 r4];rfl
 .rw [decide_eq_false hs];rfl
end Go.Proofs.Ytingpmogbibghaa.S
