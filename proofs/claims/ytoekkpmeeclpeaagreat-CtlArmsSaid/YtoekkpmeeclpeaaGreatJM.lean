/- The law CtlArms, but for its example. Conditions: as stated. -/
import Derived.Test.YtoekkpmeeclpeaaGreatJL
open Bool renaming or_eq_false_iff->cJ
open List renaming getElem_mem->aX,length_append->aA,length_singleton->aP,mem_append->aF,mem_cons->aI,mem_map->aL,not_mem_nil->aW
open Nat renaming le_refl->aq,zero_le->cp
open Option renaming bind_some->ad
open Go.Ev Go
namespace Go.Proofs.YtoekkpmeeclpeaaGreat.S
section
variable{c:ai}{R:Sl (Sl (Sl Int))}{H:List bR}{l:Sl ba}
def RX(m:aa):bR:=(m.U,m.Rd,m.Sw,m.T2)
def t8(l:List aa):List bR:=(l.filter fun m=>m.cN==4).map RX
theorem Af{l:List aa}{h:bR}:h∈t8 l<->∃m∈l,m.cN=4/\RX m=h:=by simp only[t8,aL,List.mem_filter,beq_iff_eq];exact⟨fun⟨m,⟨a,b⟩,d⟩=>⟨m,a,b,d⟩,fun⟨m,a,b,d⟩=>⟨m,⟨a,b⟩,d⟩⟩
theorem OJ{w:Mp Int aa}(hw:Ca w){e e':Int×aa×Nat}(h:e∈w.es)(h':e'∈w.es)(h1:e.2.1.Rd=e'.2.1.Rd)(h2:e.2.1.Sw=e'.2.1.Sw):e=e':=by
 have hk:e.1=e'.1:=by rw[(hw.key e h).2.2,(hw.key e' h').2.2,h1,h2]
 have:∀(es:List (Int×aa×Nat)),(es.map (·.1)).Nodup->e∈es->e'∈es->e=e':=by
  intro es;induction es with
  |nil=>intro _ h;exact(aW h).elim
  |cons a es ih=>
   intro hn h h';simp only[List.map_cons,List.nodup_cons]at hn;rcases aI.1 h with h1|h1
   .rcases aI.1 h' with h2|h2
    .exact h1.trans h2.symm
    .exact absurd (aL.2 ⟨e',h2,by rw[<-h1];exact hk.symm⟩) hn.1
   .rcases aI.1 h' with h2|h2
    .exact absurd (aL.2 ⟨e,h1,by rw[<-h2];exact hk⟩) hn.1
    .exact ih hn.2 h1 h2
 exact this w.es hw.kd h h'
theorem Gy{a b:Nat}{x y:Cx}(hP:DX c R H a b x y){m:aa}(hm:m∈y.out.l)(hk:m.cN=4):∃e∈y.cZ.es,e.2.1=m/\y.cu=2/\m.U=y.cw.U/\y.cw.jg=true/\y.cw.bH=false/\m.Rd<y.cw.fC:=by obtain⟨e,he,rfl⟩:=hP.out m hm hk;obtain⟨p2,hu,hr⟩:=hP.inv.wk e he hk;obtain⟨ha,hc,_,hcn⟩:=hP.inv.p2 p2;exact⟨e,he,rfl,p2,hu,(hP.inv.Oo (by omega) (by omega)).1,hcn,by omega⟩
theorem VL{a b:Nat}{x y:Cx}(hP:DX c R H a b x y):Jv c R (H++t8 y.out.l) y/\Inv c R (H++t8 y.out.l) y:=by
 refine⟨⟨hP.jv.hc,hP.jv.hR,hP.jv.jr,hP.jv.u,hP.jv.out,hP.jv.now,hP.jv.op,fun h hh=>?_⟩,⟨hP.inv.ph,hP.inv.Ka,hP.inv.T6,hP.inv.Oo,hP.inv.p1,hP.inv.p2,hP.inv.p3,hP.inv.p5,hP.inv.OA,hP.inv.wk,fun e he hk h hh=>?_⟩⟩
 .rcases aF.1 hh with hh|hh
  .exact hP.jv.Ol h hh
  .obtain ⟨m,hm,hk,rfl⟩:=Af.1 hh;obtain⟨e,he,hem,_,hu,_,_,ha⟩:=Gy hP hm hk;exact⟨by show m.U<=_;omega,fun _ _=>ha⟩
 .rcases aF.1 hh with hh|hh
  .exact hP.inv.wh e he hk h hh
  .obtain ⟨m,hm,hk',rfl⟩:=Af.1 hh;obtain⟨e',he',rfl,_⟩:=Gy hP hm hk';intro _ h2 h3;have:=OJ hP.inv.OA he' he h2 h3;rw[this];rfl
theorem P_{m:Sl aa}{k:Nat}(hk:k<m.l.length){s:Sl bR}(hs:s.l.length<=1000000)(h:∀a∈s.l,a.u=(gt m.l k).U->a.rd=(gt m.l k).Rd->a.sw=(gt m.l k).Sw->a.cw=(gt m.l k).T2):
  aU (nc m (k:Int) s) 0=some (.inr ()):=by
 have H:Wq (aU (nc m (k:Int) s) 0) fun r=>r=.inr ():=by
  refine Wq.loop (fun i=>s.l.length-i.toNat) (fun i=>0<=i/\i<=s.l.length) ⟨by omega,by omega⟩ ?_;rintro i ⟨h0,h4⟩;unfold nc;refine Wq.cond (fun hb=>?_) (fun _=>Wq.some rfl);have hlt:i<s.l.length:=of_decide_eq_true hb;rw[jq h0 hlt,bS hk];simp only[ad];have ha:=h (gt s.l i.toNat) (by rw[cU (by omega)];exact aX _);refine Wq.bind (P:=fun b=>b=false) ?_ ?_
  .refine Wq.cond (fun b1=>?_) fun _=>Wq.some rfl;refine Wq.cond (fun b2=>?_) fun _=>Wq.some rfl;refine Wq.cond (fun b3=>?_) fun _=>Wq.some rfl;have:=ha (eq_of_beq b1) (eq_of_beq b2) (eq_of_beq b3);refine Wq.some ?_;rw[bne_eq_false_iff_eq];exact this
  .rintro _ rfl;refine Wq.some ?_;show(0<=wr .i64 (i+1)/\wr .i64 (i+1)<=_)/\_-(wr .i64 (i+1)).toNat<_-i.toNat;rw[pX (by omega) (by omega)];omega
 obtain⟨r,hr,rfl⟩:=H;exact hr
theorem Oi{l:List aa}{k:Nat}(hk:k<l.length):t8 (l.take (k+1))=t8 (l.take k)++(if l[k].cN=4 then[RX l[k]]else[]):=by
 rw[List.take_succ_eq_append_getElem hk];unfold t8;rw[List.filter_append,List.map_append];congr 1;by_cases h:l[k].cN=4
 .rw [if_pos h,List.filter_cons_of_pos (by simpa using h)];rfl
 .rw [if_neg h,List.filter_cons_of_neg (by simpa using h)];rfl
theorem Nx{a b:Nat}{x y:Cx}(hP:DX c R H a b x y)(hlen:y.out.l.length<=1000){s:Sl bR}(hs:s.l=H)(hsl:s.l.length<=100000):
  Wq (aU (qy y.out y.cw) (0,s)) fun r=>∃t:Sl bR,r=.inr t/\t.l=H++t8 y.out.l:=by
 have hI:=(VL hP).2;refine Wq.up y.out.l.length (by omega) (fun k t=>t.l=H++t8 (y.out.l.take k)/\t.l.length<=100000+k) ⟨by rw[hs];simp[t8],by omega⟩ ?_;rintro k t hk ⟨ht,htl⟩;dsimp only[qy];refine Wq.cond (fun hb=>?_) (fun hb=>Wq.some ⟨t,rfl,?_⟩)
 .have hlt:k<y.out.l.length:=by have:=of_decide_eq_true hb;omega
  rw[bS hlt];simp only[ad];have hmem:gt y.out.l k∈y.out.l:=by rw[cU hlt];exact aX _
  have htake:=Oi hlt;refine Wq.bind (P:=fun r=>∃t':Sl bR,r=.inl t'/\t'.l=H++t8 (y.out.l.take (k+1))/\t'.l.length<=100000+(k+1)) ?_ ?_
  .refine Wq.cond (fun h4=>Wq.some ⟨t,rfl,?_,by omega⟩) fun h4=>?_
   .have h4:(gt y.out.l k).cN≠4:=by simpa using h4
    rw[htake,if_neg (by rw[cU hlt]at h4;exact h4),List.append_nil,ht]
   .have h4:(gt y.out.l k).cN=4:=by simpa using h4
    obtain⟨e,he,hem,p2,hu,ho,hc,ha⟩:=Gy hP hmem h4;refine Wq.bind (P:=fun b=>b=false) ?_ ?_
    .refine Wq.cond (fun hb=>?_) fun _=>Wq.some ?_
     .rw [hu,ho,hc]at hb;simp at hb
     .exact decide_eq_false (by omega)
    .rintro _ rfl;refine Wq.cond (fun hb=>nomatch hb) fun _=>?_;rw[P_ hlt (by omega) fun a ha'=>?_]
     .dsimp only[ad];rw[pJ (by rw[aA,aP];omega)];refine Wq.some ⟨_,rfl,?_,?_⟩
      .rw [Sl.qz,htake,if_pos (by rw[cU hlt]at h4;exact h4),ht,List.append_assoc,cU hlt];rfl
      .rw [Sl.qz,aA,aP];omega
     .have hin:a∈H++t8 y.out.l:=by rw[ht]at ha';refine aF.2 ((aF.1 ha').imp id fun h=>?_);obtain⟨m,hm,h1,h2⟩:=Af.1 h;exact Af.2 ⟨m,List.mem_of_mem_take hm,h1,h2⟩
      rw[<-hem];exact hI.wh e he (by rw[hem];exact h4) a hin
  .rintro _ ⟨t',rfl,h1,h2⟩;exact Wq.some ⟨t',rfl,hlt,h1,h2⟩
 .have:¬(k:Int)<(y.out.l.length:Int):=of_decide_eq_false hb;rw[ht,List.take_of_length_le (by omega)]
abbrev Ta:Type:=ai×Sl (Sl (Sl Int))×af×Int×am×Int×Int×Int×Int×Int×Arr 8 ak×Arr 8 Int×Sl bR×Sl aa×Sl aj×Mp Int aa×Sl aa×Sl ax
@[reducible] def Cx.ta (x:Cx) (BJ:Sl bR) (eU:Sl aa):Ta:=(x.c,x.d_,x.cw,x.cu,x.dp,x.lU,x.eU,x.bh,x.skip,x.dJ,x.vP,x.eQ,BJ,eU,x.l,x.cZ,x.out,x.bX)
theorem Oj(hE:gV c R)(hS:GD l){x:Cx}(h0:KW c R x):Wq (aU (qx l) (0,x.ta Sl.nil Sl.nil)) fun r=>r=.inr ():=by
 have hl:=hS.1;obtain⟨j0,i0⟩:=MQ hE h0;refine Wq.up l.l.length (by omega) (fun i t=>∃(x:Cx)(BJ:Sl bR)(eU:Sl aa),t=x.ta BJ eU/\Vg c R BJ.l i x eU/\BJ.l.length<=100*i) ⟨x,_,_,rfl,⟨j0,i0,by rw[h0.2.2.2.2.2.2.2.1];rfl,by rw[h0.2.2.2.2.2.2.2.2];rfl,by rw[h0.2.2.1];exact aq _,aq _⟩,aq _⟩ ?_;rintro i _ hi ⟨x,BJ,eU,rfl,hB,hal⟩;dsimp only[qx];refine Wq.cond (fun hb=>?_) (fun _=>Wq.some rfl);have hlt:i<l.l.length:=by have:=of_decide_eq_true hb;omega
 rw[bS hlt];simp only[ad];have h1:=hB.out;have h2:=hB.ev;have h3:=hB.len;have h4:=hB.eU;refine(XL hE hB.jv hB.inv (fun m hm=>by rw[h1]at hm;exact(aW hm).elim) ⟨by omega,by rw[h2];exact cp _,by rw[h1];exact cp _⟩ (hS.2 _ (by rw[cU hlt];exact aX _)) (by omega)).bind ?_;rintro _ ⟨e,y,rfl,hP⟩;dsimp only;rw[Fc];simp only[ad];unfold kh uA;dsimp only[ad];have g1:=hP.sz.l;have g3:=hP.sz.o;rw[h1]at g3;simp only[List.length_nil]at g3;refine(Nx hP (by omega) rfl (by omega)).bind ?_;rintro _ ⟨t,rfl,ht⟩;dsimp only;rw[pJ (by rw[aA];omega)];have hle:(t8 y.out.l).length<=100:=by unfold t8;rw[List.length_map];have:=List.length_filter_le (fun m:aa=>m.cN==4) y.out.l;omega
 obtain⟨q1,q2⟩:=VL hP;refine Wq.some ⟨_,rfl,hlt,{y with out:=Sl.nil,bX:=Sl.nil},t,_,rfl,⟨by rw[ht];exact q1,by rw[ht];exact q2,rfl,rfl,by show y.l.l.length<=i+1;omega,?_⟩,by rw[ht,aA];omega⟩;rw[XU,aA];omega
theorem RU(haw:jL=some true)(hf:Va c)(h1:c.eo.l.length<=9223372036854775807)(h2:l.l.length<=9223372036854775807):qL c l=some true:=by
 have H:Wq (qL c l) fun b=>b=true:=by
  unfold qL;refine(TI hf).bind ?_;rintro _ (⟨e,rfl,he⟩|⟨R,x,rfl,hE,h0⟩)
  .dsimp only;refine(Bq h1 h2).bind ?_;rintro b _;refine Wq.cond (fun _=>?_) fun hb=>?_
   .rw [haw];exact Wq.some rfl
   .simp only[cJ,bne_eq_false_iff_eq]at hb;exact absurd hb.2 he
  .dsimp only;refine(Bq h1 h2).bind ?_;rintro b hS;refine Wq.cond (fun _=>?_) fun hb=>?_
   .rw [haw];exact Wq.some rfl
   .simp only[cJ,Bool.not_eq_false']at hb;refine(Oj hE (hS hb.1) h0).bind ?_;rintro _ rfl;dsimp only;rw[haw];exact Wq.some rfl
 obtain⟨b,hb,rfl⟩:=H;exact hb
end
end Go.Proofs.YtoekkpmeeclpeaaGreat.S
