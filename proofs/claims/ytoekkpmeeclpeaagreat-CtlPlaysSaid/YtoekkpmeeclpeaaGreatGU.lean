/- Aiming, side by side; masks as sums. Conditions: as stated. -/
import Derived.Test.YtoekkpmeeclpeaaGreatGR
open BitVec renaming ofInt->aW
open List renaming mem_append->aK,mem_singleton->aB,take_of_length_le->cH
open Nat renaming le_refl->aw,le_trans->bg,pow_le_pow_right->dq,pow_succ->mR
open Option renaming bind_some->aa
open Go.Ev Go
noncomputable section
namespace Go.Proofs.YtoekkpmeeclpeaaGreat.S
theorem t7{α:Type}[Inhabited α]{l:List α}{i:Nat}(h:i<l.length):gt l i∈l:=by rw[dx h];exact List.getElem_mem _
theorem uu{α:Type}[Inhabited α]{l:List α}{i:Nat}(h:i<l.length):l.take (i+1)=l.take i++[gt l i]:=by rw[dx h,List.take_append_getElem h]
theorem af1{i n:Nat}(h:decide ((i:Int)<(n:Int))=true):i<n:=by have:=of_decide_eq_true h;omega
theorem agj{i n:Nat}(hi:i<=n)(h:decide ((i:Int)<(n:Int))=false):i=n:=by have:=of_decide_eq_false h;omega
theorem fm1{α β:Type}{f:α->β}{l:List α}:(l.flatMap fun s=>[f s])=l.map f:=List.map_eq_flatMap.symm
def Wz(e:aZ)(t m:Int):Int×Int×Bool:=(Bh e t m).getD (0,0,false)
theorem agK{e:aZ}(he:Et e){t m:Int}:Bh e t m=some (Wz e t m)/\yp e t m=some (Wz e t m):=by obtain⟨a,h,b,h1,h2⟩:=agJ he (t:=t) (m:=m);unfold Wz;rw[h1,h2];exact⟨rfl,rfl⟩
def Ix(x:Cx)(t s:Int):Bool:=(!(Wz (gt x.vF.1 s.toNat) t x.c.BF).2.2)||decide ((Wz (gt x.vF.1 s.toNat) t x.c.BF).2.1>x.c.qf)
def tmA(x:Cx)(t s:Int):Int:=(Wz (gt x.vF.1 s.toNat) t x.c.BF).1
section
variable{n:Nat}{x:Cx}{r:Rx}{now up:Int}
theorem aeQ(he:∀i,i<8->Et (gt x.vF.1 i)){q:bj}(hl:q.jm.l.length<=8)(hs:∀s∈q.jm.l,0<=s/\s<8):
  ∃t,qM x.tu q=some (t,decide (∀s∈q.jm.l,Ix x q.At s=false),x.tu)/\((∀s∈q.jm.l,Ix x q.At s=false)->t.l=q.jm.l.map (tmA x q.At)):=by
 have H:Wq (aJ (ve x.tu q) (0,Sl.nil)) fun r=>(r=.inl false/\¬∀s∈q.jm.l,Ix x q.At s=false)\/∃t:Sl Int,r=.inr t/\(∀s∈q.jm.l,Ix x q.At s=false)/\t.l=q.jm.l.map (tmA x q.At):=by
  refine Wq.up q.jm.l.length (by omega) (fun i t=>(∀s∈q.jm.l.take i,Ix x q.At s=false)/\t.l=(q.jm.l.take i).map (tmA x q.At)) ⟨by simp,by simp⟩ ?_;rintro i t hi ⟨h1,h2⟩;dsimp only[ve];simp only[Cx.pr];refine Wq.cond (fun hb=>?_) (fun hb=>Wq.some (.inr ⟨t,rfl,?_⟩))
  .have hlt:i<q.jm.l.length:=by have:=of_decide_eq_true hb;omega
   have hm:=t7 hlt;have hx:=hs _ hm;rw[aY hlt];simp only[aa];rw[p8 hx.1 (by omega)];simp only[aa];rw[(agK (he _ (by omega))).1];simp only[aa];refine Wq.cond (fun hf=>Wq.some (.inl ⟨rfl,fun ha=>?_⟩)) (fun hf=>?_)
   .have:Ix x q.At (gt q.jm.l i)=true:=hf;rw[ha _ hm]at this;exact nomatch this
   .rw [jw (by rw[List.length_append,List.length_singleton,h2,List.length_map,List.length_take];omega)];refine Wq.some ⟨_,rfl,hlt,?_,?_⟩
    .rw [uu hlt];intro s hs';rcases aK.1 hs' with h|h
     .exact h1 s h
     .rw [aB.1 h];exact hf
    .rw [uu hlt,List.map_append,Sl.lc,h2];rfl
  .have:i=q.jm.l.length:=by have:=of_decide_eq_false hb;omega
   rw[this,cH (aw _)]at h1 h2;exact⟨h1,h2⟩
 unfold qM;obtain⟨r,hr,⟨rfl,h⟩|⟨t,rfl,h,ht⟩⟩:=H
 .rw [hr];exact⟨_,by rw[decide_eq_false h];rfl,fun h'=>absurd h' h⟩
 .rw [hr];exact⟨t,by rw[decide_eq_true h];rfl,fun _=>ht⟩
theorem Ur(h:Rl n x r)(he:∀i,i<8->Et (gt x.vF.1 i)){p:aC}{k:Nat}(hk:k<p.aF.l.length)(hl:(gt p.aF.l k).jm.l.length<=8)(hs:∀s∈(gt p.aF.l k).jm.l,0<=s/\s<n):
  pn r.tu p (k:Int)=some (decide (∀s∈(gt p.aF.l k).jm.l,Ix x (gt p.aF.l k).At s=false),r.tu):=by
 have h8:=h.sw.2;obtain⟨e1,e2⟩:=h.vF
 have h1:=wm (f:=oJ r.tu p (k:Int)) (gt p.aF.l k).jm.l (Ix x (gt p.aF.l k).At) (by omega) (fun i hi=>by
  have hx:=hs _ (t7 hi);simp only[oJ,Rx.pr,h.c,aY hk,aa,fT hi,cond_true,aY hi];rw[p8 (n:=r.GG.l.length) hx.1 (by omega)];simp only[aa];rw[e2 _ (by omega),(agK (he _ (by omega))).2];simp only[aa];show(bif Ix x (gt p.aF.l k).At (gt (gt p.aF.l k).jm.l i)then _ else _)=_;cases Ix x (gt p.aF.l k).At (gt (gt p.aF.l k).jm.l i)<;>rfl) (by
  simp only[oJ,aY hk,aa,ij,cond_false])
 unfold pn;rw[h1];by_cases hc:∀s∈(gt p.aF.l k).jm.l,Ix x (gt p.aF.l k).At s=false
 .rw [if_pos hc,decide_eq_true hc];rfl
 .rw [if_neg hc,decide_eq_false hc];rfl
end
theorem aeI{a:Int}(h:0<=a)(h1:a<1000){k:Nat}:bt a k=a.toNat.testBit k:=by unfold bt;rw[BitVec.getLsbD];congr 1;simp;omega
def ui(f:Nat->Bool):Nat->Nat
 |0=>0
 |i+1=>ui f i+bif f i then 2^i else 0
theorem Fz(f:Nat->Bool):∀i,ui f i<2^i
 |0=>by show 0<2^0;decide
 |i+1=>by
  have:=Fz f i;show ui f i+(bif f i then 2^i else 0)<2^(i+1);rw[mR];cases f i
  .show ui f i+0<_;omega
  .show ui f i+2^i<_;omega
theorem Oc(f:Nat->Bool)(k:Nat):∀i,(ui f i).testBit k=(decide (k<i)&&f k)
 |0=>by simp[ui]
 |i+1=>by
  have h1:=Fz f i;have ih:=Oc f k i;show(ui f i+(bif f i then 2^i else 0)).testBit k=_;cases hf:f i with
  |false=>
   show(ui f i+0).testBit k=_;rw[Nat.add_zero,ih];by_cases e:k=i
   .subst e;rw[hf];simp
   .congr 1;rw[decide_eq_decide];omega
  |true=>
   show(ui f i+2^i).testBit k=_;have e2:=Nat.two_pow_add_eq_or_of_lt h1 1;rw[Nat.mul_one]at e2;rw[Nat.add_comm,e2,Nat.testBit_or,ih,Nat.testBit_two_pow];by_cases e:k=i
   .subst e;rw[hf];simp
   .have e3:decide (i=k)=false:=decide_eq_false fun h=>e h.symm;have e4:decide (k<i)=decide (k<i+1):=by rw[decide_eq_decide];omega
    rw[e3,e4,Bool.false_or]
theorem SN(f:Nat->Bool){i:Nat}(h:i<=8):M8 (ui f i:Int):=by have h1:=Fz f i;have h2:2^i<=2^8:=dq (by decide) h;exact⟨by omega,by omega⟩
theorem abi(f:Nat->Bool){i:Nat}(h:i<=8)(k:Nat):bt (ui f i:Int) k=(decide (k<i)&&f k):=by have h1:=SN f h;unfold M8 at h1;rw[aeI h1.1 (by omega),Int.toNat_natCast,Oc]
theorem M8.sum{a:Int}(ha:M8 a)(f:Nat->Bool){i:Nat}(h:i<=8)(he:∀k,k<8->bt a k=(decide (k<i)&&f k)):a=(ui f i:Int):=ha.ext (SN f h) fun k hk=>by rw[he k hk,abi f h]
theorem adf{a:Int}{s:Nat}(h:s<8):(pT .i64 (pR .i64 a (s:Int)) 1==0)=!bt a s:=by
 have h1:=Ff (a:=a) h
 have h2:pT .i64 (pR .i64 a (s:Int)) 1=0\/pT .i64 (pR .i64 a (s:Int)) 1=1:=by
  generalize pR .i64 a (s:Int)=c;rw[p_];unfold qN;show IntKind.wrap .i64 ((aW 64 c&&&aW 64 1).toNat:Int)=0\/IntKind.wrap .i64 ((aW 64 c&&&aW 64 1).toNat:Int)=1;have:(aW 64 c&&&aW 64 1).toNat<2:=by rw[BitVec.toNat_and];show _&&&1<2;exact Nat.lt_of_le_of_lt Nat.and_le_right (by decide)
  rw[Gw (by omega)];omega
 rw[<-h1];rcases h2 with h|h<;>rw[h]<;>rfl
end Go.Proofs.YtoekkpmeeclpeaaGreat.S
open Go.Ev Go
namespace Go.Proofs.YtoekkpmeeclpeaaGreat.S
structure Pk(n:Nat)(p:aC):Prop where
 rl:0<p.aF.l.length/\p.aF.l.length<=8
 sw:∀r∈p.aF.l,r.jm.l.length<=8/\(∀s∈r.jm.l,0<=s/\s<(n:Int))/\r.jm.l.Pairwise (·<·)
 mv:p.sH.l.length<=1000/\∀m∈p.sH.l,0<=m.2.1/\m.2.1<=255
 yZ:0<=p.jb/\p.jb<=8000
theorem Pk.bK{n:Nat}{p:aC}(h:Pk n p){k:Nat}(hk:k<p.aF.l.length):(gt p.aF.l k).jm.l.length<=8/\(∀s∈(gt p.aF.l k).jm.l,0<=s/\s<(n:Int))/\(gt p.aF.l k).jm.l.Pairwise (·<·):=h.sw _ (t7 hk)
theorem acn{t:am}{old now:Sl (Sl Int)}(hN:jS t now){a b c:Int}{p:aC}(h:QB t old now a b c p 0):Pk t.ao.toNat p:=by
 have h1:=aco hN h;have hV:=hN.1.EA;by_cases hm:tF t old now=[]
 .exact absurd (h.none hm).2 (by decide)
 obtain⟨s,R,hs,hR,h0,h⟩:=h.Yt hm;rcases h with⟨_,_,h⟩|⟨_,rfl,_⟩
 .exact absurd h (by decide)
 refine⟨h1.rl,fun r hr=>⟨(h1.sw r hr).1,fun s hs=>by have:=(h1.sw r hr).2 s hs;omega,?_⟩,h1.mv,wH hV⟩;obtain⟨i,hi,rfl⟩:=List.mem_iff_getElem.1 hr;have:=hR.sws i hi;rw[dx hi]at this;exact this.N2
def WS(p:aC)(s:Int):Prop:=∃r∈p.aF.l,s∈r.jm.l
instance{p:aC}{s:Int}:Decidable (WS p s):=by unfold WS;infer_instance
def Mg(p:aC)(s:Int)(k:Nat):Bool:=decide (s∈(gt p.aF.l k).jm.l)
section
variable{n:Nat}{p:aC}
theorem Ye(hp:Pk n p)(s:Int):pg p s=some (decide (WS p s)):=by
 have hr:=hp.rl
 have H:Wq (aJ (tA p s) 0) fun r=>(r=.inl true/\WS p s)\/(r=.inr ()/\¬WS p s):=by
  refine Wq.loop (fun a=>p.aF.l.length-a.toNat) (fun a=>∃i:Nat,a=i/\i<=p.aF.l.length/\∀r∈p.aF.l.take i,s∉r.jm.l) ⟨0,rfl,by omega,by simp⟩ ?_;rintro _ ⟨i,rfl,hi,hm⟩;refine Wq.cond (fun hb=>?_) fun hb=>Wq.some (.inr ⟨rfl,?_⟩)
  .have hlt:i<p.aF.l.length:=af1 hb;rw[aY hlt];simp[aa];rw[IY (bg (hp.bK hlt).1 (by decide))];refine Wq.cond (fun e=>Wq.some (.inl ⟨rfl,_,t7 hlt,of_decide_eq_true e⟩)) fun e=>Wq.some ⟨⟨i+1,fE (by omega) (by omega),by omega,?_⟩,?_⟩
   .rw [uu hlt]
    grind
   .rw [fE (by omega) (by omega)];omega
  .have hi:=agj hi hb;rw[hi,cH (aw _)]at hm;rintro⟨r,h1,h2⟩;exact hm r h1 h2
 unfold pg;obtain⟨r,hr,⟨rfl,h⟩|⟨rfl,h⟩⟩:=H
 .rw [hr,decide_eq_true h];rfl
 .rw [hr,decide_eq_false h];rfl
theorem afz(hp:Pk n p)(s:Int):BX p s=some (ui (Mg p s) p.aF.l.length:Int):=by
 have hr:=hp.rl
 have H:Wq (aJ (AJ p s) (0,1,0)) fun r=>r=(ui (Mg p s) p.aF.l.length:Int):=by
  refine Wq.loop (fun a=>p.aF.l.length-a.2.2.toNat) (fun a=>∃i:Nat,a=((ui (Mg p s) i:Int),((2^i:Nat):Int),(i:Int))/\i<=p.aF.l.length) ⟨0,rfl,by omega⟩ ?_;rintro _ ⟨i,rfl,hi⟩;refine Wq.cond (fun hb=>?_) fun hb=>Wq.some ?_
  .have hlt:i<p.aF.l.length:=af1 hb;have h8:2^i<=2^8:=dq (by decide) (by omega);have hsl:=Fz (Mg p s) i;rw[aY hlt];simp only[aa];rw[IY (bg (hp.bK hlt).1 (by decide))];refine Wq.bind (P:=fun t=>t=(ui (Mg p s) (i+1):Int)) ?_ ?_
   .refine Wq.cond (fun e=>Wq.some ?_) fun e=>Wq.some ?_
    .grind [Mg,ui,fE]
    grind [Mg,ui]
   .rintro _ rfl;refine Wq.some ⟨⟨i+1,?_,by omega⟩,?_⟩
    .grind [fE,mR]
    .show _-(wr .i64 ((i:Int)+1)).toNat<_-((i:Int)).toNat;rw[fE (by omega) (by omega)];omega
  grind
 unfold BX;obtain⟨r,hr,rfl⟩:=H;rw[hr];rfl
theorem U_{a up:Int}(ha:M8 a):(fQ .i64 a up !=0)=!decide (∀s:Nat,s<8->bt a s=true->bt up s=true):=by
 have h:=(M8.acV (b:=up) ha).zero;have e:(fQ .i64 a up=0)<->∀s,s<8->bt a s=true->bt up s=true:=by rw[h];refine forall_congr' fun s=>forall_congr' fun hs=>?_;rw[Gx (by omega)];cases bt a s<;>cases bt up s<;>simp
 grind
def Rch(p:aC)(up:Int):Prop:=∀s:Nat,s<8->WS p (s:Int)->bt up s=true
instance{p:aC}{up:Int}:Decidable (Rch p up):=Classical.propDecidable _
theorem LW(hp:Pk n p)(up:Int):rV p up=some (decide (Rch p up)):=by
 have h1:=wm (f:=vX p up) (List.range 8) (fun s=>decide _&&!bt up s) (by decide) (fun i hi=>by
  have hi:=by simpa using hi
  rw[uM hi];simp[vX,decide_eq_true (show(i:Int)<8 by omega),Ye hp,zR hi];cases decide (WS p (i:Int))<;>cases bt up i<;>rfl) (by rfl)
 unfold rV;rw[h1];by_cases hc:Rch p up
 .rw [if_pos,decide_eq_true hc]
  .rfl
  .intro s hs;have hs:=by simpa using hs
   by_cases hd:WS p (s:Int)
   .rw [hc s hs hd];simp
   .rw [decide_eq_false hd];rfl
 .rw [if_neg,decide_eq_false hc]
  .rfl
  .intro ha;refine hc fun s hs hd=>?_;simp_all
theorem aaJ(hp:Pk n p)(hn:n<=8):∃a v,n9 p=some (a,v)/\M8 a/\(∀s:Nat,s<8->bt a s=decide (WS p (s:Int)))/\∀s:Nat,s<8->gt v.1 s=(ui (Mg p (s:Int)) p.aF.l.length:Int):=by
 have hr:=hp.rl
 have hz:∀s:Nat,s<8->gt (pM (.ar 8 I6)).1 s=0:=fun s hs=>by
  have:∀s:Fin 8,gt (pM (.ar 8 I6)).1 s.val=0:=by decide
  exact this ⟨s,hs⟩
 have m0:M8 0:=⟨by decide,by decide⟩
 have H:Wq (aJ (nZ p) (0,0,pM (.ar 8 I6))) fun q=>M8 q.1/\(∀s:Nat,s<8->bt q.1 s=decide (WS p (s:Int)))/\∀s:Nat,s<8->gt q.2.1 s=(ui (Mg p (s:Int)) p.aF.l.length:Int):=by
  refine Wq.loop (fun a=>p.aF.l.length-a.2.1.toNat) (fun a=>∃i:Nat,a.2.1=i/\i<=p.aF.l.length/\M8 a.1/\(∀s:Nat,s<8->bt a.1 s=decide (∃r∈p.aF.l.take i,(s:Int)∈r.jm.l))/\∀s:Nat,s<8->M8 (gt a.2.2.1 s)/\∀m,m<8->bt (gt a.2.2.1 s) m=(decide (m<i)&&Mg p (s:Int) m)) ⟨0,rfl,by omega,m0,fun s _=>by simp[yk],fun s hs=>by simp_all[gt,pM,I6,yk]⟩ ?_;rintro⟨a,k,v⟩ ⟨i,rfl,hi,ha,hb,hv⟩;dsimp only[nZ]at ha hb hv|-;refine Wq.cond (fun hc=>?_) fun hc=>Wq.some ?_
  .have hlt:i<p.aF.l.length:=af1 hc;obtain⟨q1,q2,_⟩:=hp.bK hlt;rw[aY hlt];simp only[aa];refine Wq.bind (P:=fun q=>M8 q.1/\(∀s:Nat,s<8->bt q.1 s=(bt a s||Mg p (s:Int) i))/\∀s:Nat,s<8->M8 (gt q.2.1 s)/\∀m,m<8->bt (gt q.2.1 s) m=(bt (gt v.1 s) m||(decide (m=i)&&Mg p (s:Int) i))) ?_ ?_
   .refine Wq.loop (fun b=>(gt p.aF.l i).jm.l.length-b.2.1.toNat) (fun b=>∃j:Nat,b.2.1=j/\j<=(gt p.aF.l i).jm.l.length/\M8 b.1/\(∀s:Nat,s<8->bt b.1 s=(bt a s||decide ((s:Int)∈(gt p.aF.l i).jm.l.take j)))/\∀s:Nat,s<8->M8 (gt b.2.2.1 s)/\∀m,m<8->bt (gt b.2.2.1 s) m=(bt (gt v.1 s) m||(decide (m=i)&&decide ((s:Int)∈(gt p.aF.l i).jm.l.take j)))) ⟨0,rfl,by omega,ha,fun s _=>by simp,fun s hs=>⟨(hv s hs).1,fun m _=>by simp⟩⟩ ?_;rintro⟨b,k,u⟩ ⟨j,rfl,hj,hb1,hb2,hb3⟩;dsimp only[re]at hb1 hb2 hb3|-;refine Wq.cond (fun hc=>?_) fun hc=>Wq.some ?_
    .have hjl:j<(gt p.aF.l i).jm.l.length:=by have:=of_decide_eq_true hc;omega
     obtain⟨s0,s1⟩:=q2 _ (t7 hjl);rw[aY hjl];simp only[aa];rw[GO s0,p8 s0 (by omega),GO (by omega)];simp only[aa];have ht:=uu hjl;generalize hs:gt (gt p.aF.l i).jm.l j=s at*;obtain⟨w,rfl⟩:=Int.eq_ofNat_of_zero_le s0;have hw:w<8:=by omega
     refine Wq.some ⟨⟨j+1,fE (by omega) (by omega),by omega,hb1.bit s0 (by omega),fun s hs8=>?_,fun s hs8=>?_⟩,?_⟩
     .show bt (CL .i64 b (pS .i64 1 (w:Int))) s=_;rw[Qo,hb2 s hs8,NI hs8 hw,ht,Bool.or_assoc]
      grind
     .have e:gt (Arr.set u w (CL .i64 (gt u.1 w) (pS .i64 1 (i:Int)))).1 s=if w=s then CL .i64 (gt u.1 w) (pS .i64 1 (i:Int))else gt u.1 s:=Kb (by have:=u.2;omega);show M8 (gt (Arr.set u w (CL .i64 (gt u.1 w) (pS .i64 1 (i:Int)))).1 s)/\∀m,m<8->bt (gt (Arr.set u w (CL .i64 (gt u.1 w) (pS .i64 1 (i:Int)))).1 s) m=_;rw[e];by_cases hws:w=s
      .subst hws;rw[if_pos rfl];refine⟨(hb3 w hw).1.bit (by omega) (by omega),fun m hm=>?_⟩;rw[Qo,(hb3 w hw).2 m hm,NI hm (by omega),ht];simp;cases decide (m=i)<;>cases bt (gt v.1 w) m<;>simp
      .rw [if_neg hws];refine⟨(hb3 s hs8).1,fun m hm=>?_⟩;rw[(hb3 s hs8).2 m hm,ht];have:¬(s:Int)=(w:Int):=by omega
       simp[this]
     .show _-(wr .i64 ((j:Int)+1)).toNat<_-((j:Int)).toNat;rw[fE (by omega) (by omega)];omega
    .have:j=(gt p.aF.l i).jm.l.length:=by have:=of_decide_eq_false hc;omega
     rw[this,cH (aw _)]at hb2 hb3;exact⟨hb1,hb2,hb3⟩
   .rintro ⟨b,u⟩ ⟨g1,g2,g3⟩;refine Wq.some ⟨⟨i+1,fE (by omega) (by omega),by omega,g1,fun s hs=>?_,fun s hs=>⟨(g3 s hs).1,fun m hm=>?_⟩⟩,?_⟩
    .show bt b s=_;rw[g2 s hs,hb s hs,uu hlt,Bool.eq_iff_iff];simp only[Bool.or_eq_true,decide_eq_true_eq,Mg,aK,aB];simp_all
    .grind
    .show _-(wr .i64 ((i:Int)+1)).toNat<_-((i:Int)).toNat;rw[fE (by omega) (by omega)];omega
  .have:i=p.aF.l.length:=agj hi hc;subst this;rw[cH (aw _)]at hb;exact⟨ha,hb,fun s hs=>(hv s hs).1.sum _ hr.2 (hv s hs).2⟩
 unfold n9;obtain⟨⟨a,v⟩,hq,h1,h2,h3⟩:=H
 grind
theorem Uq(hp:Pk n p)(hn:n<=8)(up:Int):∃a v,n9 p=some (a,v)/\(fQ .i64 a up !=0)=!decide (Rch p up)/\(∀s:Nat,s<8->bt a s=decide (WS p (s:Int)))/\∀s:Nat,s<8->gt v.1 s=(ui (Mg p (s:Int)) p.aF.l.length:Int):=by obtain⟨a,v,h1,h2,h3,h4⟩:=aaJ hp hn;refine⟨a,v,h1,?_,h3,h4⟩;rw[U_ h2];congr 1;rw[decide_eq_decide];refine forall_congr' fun s=>forall_congr' fun hs=>?_;rw[h3 s hs,decide_eq_true_eq]
end
end Go.Proofs.YtoekkpmeeclpeaaGreat.S
open Go.Ev Go
namespace Go.Proofs.YtoekkpmeeclpeaaGreat.S
structure kB(c:aA)(R:Sl (Sl (Sl Int))):Prop where
 sw:0<=c.T.ao/\c.T.ao<=8
 ano:∀r∈R.l,jS c.T r
 len:0<R.l.length/\R.l.length<=16
 wide:0<=c.qf/\c.qf<=65536
 dL:0<=c.zQ/\c.zQ<=65536
def Fi(c:aA)(R:Sl (Sl (Sl Int)))(now target at':Int)(p:aC):Prop:=lG c.T (gt R.l now.toNat) (gt R.l target.toNat) at' (2*c.qf+2) c.zQ=some (p,0)
structure Jq(c:aA)(R:Sl (Sl (Sl Int)))(s:ap):Prop where
 u:0<=s.U/\s.U<=65535
 out:M8 s.ik
 now:0<=s.lh/\s.lh<R.l.length
 op:s.hZ=true->(0<=s.dF/\s.dF<R.l.length)/\(0<=s.At/\s.At<=1099511627776)/\(0<=s.fx/\s.fx<=8)/\∃p,Fi c R s.lh s.dF s.At p
structure Iq(c:aA)(R:Sl (Sl (Sl Int)))(s:ap)(cI:Int)(eM:aC)(nv:Int):Prop where
 ph:0<=cI/\cI<=6
 aga:cI=0->s.hZ=false
 act:cI≠0->cI≠6->s.hZ=true/\Fi c R s.lh s.dF s.At eM
 p1:cI=1->s.fx=0/\s.lf=false/\s.bD=false
 p2:cI=2->s.fx=nv+1/\(0<=nv/\nv<eM.aF.l.length)/\s.lf=false/\s.bD=false
 p3:cI=3\/cI=4->s.lf=true/\s.bD=false
 p5:cI=5->s.bD=true/\(0<=nv/\nv<eM.aF.l.length)
section
variable{c:aA}{R:Sl (Sl (Sl Int))}{n k:Nat}{x:Cx}{r:Rx}{now up:Int}
structure Bs(c:aA)(R:Sl (Sl (Sl Int)))(n k:Nat)(x:Cx)(r:Rx):Prop where
 rl:Rl n x r
 hc:x.c=c
 hR:x.gp=R
 j:Jq c R x.bK
 i:Iq c R x.bK x.cI x.eM x.nv
 e:∀i,i<8->Et (gt x.vF.1 i)
 z:IH k x r
structure Bd(c:aA)(R:Sl (Sl (Sl Int)))(n k:Nat)(x:Cx)(r:Rx):Prop extends Bs c R n k x r where
 r5:x.cI=5->(x.bH=-1<->r.fN.l≠[])
 we:x.cI=0\/x.cI=3\/x.cI=6->r.fN.l=[]
theorem Bd.bs(h:Bd c R n k x r):Bs c R n k x r:=⟨h.rl,h.hc,h.hR,h.j,h.i,h.e,h.z⟩
theorem Bs.mono(h:Bs c R n k x r){m:Nat}(hm:k<=m):Bs c R n m x r:=⟨h.rl,h.hc,h.hR,h.j,h.i,h.e,h.z.mono hm⟩
theorem Bd.mono(h:Bd c R n k x r){m:Nat}(hm:k<=m):Bd c R n m x r:=⟨h.bs.mono hm,h.r5,h.we⟩
theorem Bs.tH(h:Bs c R n k x r){m:Nat}{y:Cx}{s:Rx}(hr:Rl n y s)(hz:IH m y s)(hk:Kp x y r s):Bs c R n m y s:=⟨hr,hk.c.trans h.hc,hk.R.trans h.hR,by rw[hk.bK];exact h.j,by rw[hk.bK,hk.ph,hk.pl,hk.nv];exact h.i,by rw[hk.vF];exact h.e,hz⟩
theorem Bd.tH(h:Bd c R n k x r){m:Nat}{y:Cx}{s:Rx}(hr:Rl n y s)(hz:IH m y s)(hk:Kp x y r s):Bd c R n m y s:=⟨h.bs.tH hr hz hk,by rw[hk.ph,hk.bH,hk.eG];exact h.r5,by rw[hk.ph,hk.eG];exact h.we⟩
theorem Y_(h:kB c R){a b t:Int}(ha:0<=a/\a<R.l.length)(hb:0<=b/\b<R.l.length)(ht:0<=t/\t<=1099511627776):
  ∃p e,lG c.T (gt R.l a.toNat) (gt R.l b.toNat) t (2*c.qf+2) c.zQ=some (p,e)/\lO c.T (gt R.l a.toNat) (gt R.l b.toNat) t (2*c.qf+2) c.zQ=some (p,e)/\(e=0->Pk c.T.ao.toNat p):=by
 have hg:∀i:Int,0<=i/\i<R.l.length->jS c.T (gt R.l i.toNat):=fun i hi=>h.ano _ (t7 (by omega));have h1:=h.wide;have h2:=h.dL;obtain⟨p,e,hp,hq,hm⟩:=VH (hg a ha) (hg b hb) (a:=t) (b:=2*c.qf+2) (c:=c.zQ) ⟨ht,by omega,by omega⟩;exact⟨p,e,hp,hq,fun he=>by subst he;exact acn (hg b hb) hm⟩
theorem am7(h:kB c R):Bf c.qf=some (2*c.qf+2):=by have:=h.wide;unfold Bf;rw[if_neg (c:=(0:Int)>c.qf) (by omega),if_neg (by omega),fE (n:=2*c.qf) (by omega) (by omega),fE (by omega) (by omega)]
theorem aeu(h:kB c R):yS c.qf=some (2*c.qf+2):=by have:=h.wide;unfold yS;rw[decide_eq_false (show¬c.qf<0 by omega)];simp only[cond_false,aa];rw[decide_eq_false (show¬c.qf>1073741824 by omega)];simp only[cond_false,aa];rw[fE (n:=c.qf+c.qf) (by omega) (by omega),fE (by omega) (by omega)];congr 1;omega
theorem aev(h:kB c R)(hc:x.c=c)(hR:x.gp=R)(hn:0<=x.bK.lh/\x.bK.lh<R.l.length){b t:Int}(hb:0<=b/\b<R.l.length):
  mK x.tu b t=
  (lG c.T (gt R.l x.bK.lh.toNat) (gt R.l b.toNat) t (2*c.qf+2) c.zQ).bind fun(p,e)=>some (p,e,x.tu):=by
 unfold mK;simp only[Cx.pr,hc,hR];rw[p8 hn.1 hn.2];simp only[aa];rw[p8 hb.1 hb.2];simp only[aa];rw[am7 h];simp only[aa]
theorem Fi.pk(hE:kB c R){s:ap}(h:Jq c R s)(ho:s.hZ=true){p:aC}(hp:Fi c R s.lh s.dF s.At p):Pk c.T.ao.toNat p:=by obtain⟨ht,ha,_,_⟩:=h.op ho;obtain⟨q,e,h1,_,h2⟩:=Y_ hE h.now ht ha;unfold Fi at hp;rw[hp]at h1;cases h1;exact h2 rfl
theorem Rl.pk(hr:Rl n x r)(hc:x.c=c){p:aC}(h:Pk c.T.ao.toNat p):Pk n p:=by have:=hr.sw.1;rw[hc]at this;rw[this]at h;exact h
section
variable{s:ap}
theorem Jq.agz(h:Jq c R s)(h1:s.hZ=true):Jq c R (s.U,s.lh,true,s.dF,s.At,s.fx,s.lf,true,s.ik):=⟨h.u,h.out,h.now,fun _=>h.op h1⟩
theorem Jq.aom(h:Jq c R s)(h1:s.hZ=true):Jq c R (s.U,s.lh,true,s.dF,s.At,s.fx,true,s.bD,s.ik):=⟨h.u,h.out,h.now,fun _=>h.op h1⟩
theorem Jq.anR(h:Jq c R s)(h1:s.hZ=true)(h4:0<=s.fx/\s.fx<8):Jq c R (s.U,s.lh,true,s.dF,s.At,s.fx+1,s.lf,s.bD,s.ik):=⟨h.u,h.out,h.now,fun _=>by obtain⟨a,b,_,d⟩:=h.op h1;exact⟨a,b,⟨by show 0<=s.fx+1;omega,by show s.fx+1<=8;omega⟩,d⟩⟩
theorem Jq.ags(h:Jq c R s)(h1:s.hZ=true):Jq c R (s.U,s.dF,false,0,0,0,false,false,s.ik):=⟨h.u,h.out,(h.op h1).1,fun e=>nomatch e⟩
theorem Jq.W9(h:Jq c R s){a:Int}(h4:M8 a):Jq c R (s.U,s.lh,false,0,0,0,false,false,a):=⟨h.u,h4,h.now,fun e=>nomatch e⟩
theorem Jq.abA(h:Jq c R s){a:Int}:Jq c R (s.U,s.lh,s.hZ,s.dF,s.At,s.fx,s.lf,s.bD,fQ .i64 s.ik (pS .i64 1 a)):=⟨h.u,h.out.acV,h.now,h.op⟩
theorem Jq.anO(h:Jq c R s)(h3:s.U<65535){k t:Int}(hk:0<=k/\k<R.l.length)(ht:0<=t/\t<=1099511627776){p:aC}(hp:Fi c R s.lh k t p):Jq c R (s.U+1,s.lh,true,k,t,0,false,false,0):=by have hu:=h.u;exact⟨⟨by show 0<=s.U+1;omega,by show s.U+1<=65535;omega⟩,⟨Int.le_refl 0,(by decide:(0:Int)<256)⟩,h.now,fun _=>⟨hk,ht,⟨by show(0:Int)<=0;omega,by show(0:Int)<=8;omega⟩,p,hp⟩⟩
end
section
variable{s:ap}{eM:aC}{nv:Int}
theorem TK(ho:s.hZ=true)(hc:s.bD=true)(hp:Fi c R s.lh s.dF s.At eM)(hk:0<=nv/\nv<eM.aF.l.length):Iq c R s 5 eM nv:=⟨by decide,fun h=>absurd h (by decide),fun _ _=>⟨ho,hp⟩,fun h=>absurd h (by decide),fun h=>absurd h (by decide),fun h=>absurd h (by decide),fun _=>⟨hc,hk⟩⟩
theorem af9(ho:s.hZ=true)(hp:Fi c R s.lh s.dF s.At eM)(ha:s.fx=nv+1)(hk:0<=nv/\nv<eM.aF.l.length)(h1:s.lf=false)(h2:s.bD=false):Iq c R s 2 eM nv:=⟨by decide,fun h=>absurd h (by decide),fun _ _=>⟨ho,hp⟩,fun h=>absurd h (by decide),fun _=>⟨ha,hk,h1,h2⟩,fun h=>absurd h (by decide),fun h=>absurd h (by decide)⟩
theorem F9(ho:s.hZ=false):Iq c R s 0 eM nv:=⟨by decide,fun _=>ho,fun h _=>absurd rfl h,fun h=>absurd h (by decide),fun h=>absurd h (by decide),fun h=>absurd h (by decide),fun h=>absurd h (by decide)⟩
theorem Np{ph:Int}(hph:ph=3\/ph=4)(ho:s.hZ=true)(h1:s.lf=true)(h2:s.bD=false)(hp:Fi c R s.lh s.dF s.At eM):Iq c R s ph eM nv:=⟨by omega,fun h=>absurd h (by omega),fun _ _=>⟨ho,hp⟩,fun h=>absurd h (by omega),fun h=>absurd h (by omega),fun _=>⟨h1,h2⟩,fun h=>absurd h (by omega)⟩
theorem Zs(ho:s.hZ=true)(hp:Fi c R s.lh s.dF s.At eM)(ha:s.fx=0)(h1:s.lf=false)(h2:s.bD=false):Iq c R s 1 eM nv:=⟨by decide,fun h=>absurd h (by decide),fun _ _=>⟨ho,hp⟩,fun _=>⟨ha,h1,h2⟩,fun h=>absurd h (by decide),fun h=>absurd h (by decide),fun h=>absurd h (by decide)⟩
theorem af8:Iq c R s 6 eM nv:=⟨by decide,fun h=>absurd h (by decide),fun _ h=>absurd rfl h,fun h=>absurd h (by decide),fun h=>absurd h (by decide),fun h=>absurd h (by decide),fun h=>absurd h (by decide)⟩
end
end
end Go.Proofs.YtoekkpmeeclpeaaGreat.S
