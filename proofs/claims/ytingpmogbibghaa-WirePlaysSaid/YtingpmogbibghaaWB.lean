/- WirePlays: whatever is put, taken, and due, wires have what the reference has. Conditions: none. -/
import Derived.Test.YtingpmogbibghaaWA
open List renaming filter_cons->LX,length_filter_le->Vl
open Nat renaming le_refl->ai
open Option renaming bind_some->aR
open Go.Ev Go
namespace Go.Proofs.Ytingpmogbibghaa.W
theorem VE(x:nn):Vo x x=some true:=by unfold Vo;have h:∀a:Int,(a==a)=true:=fun a=>beq_self_eq_true a;have e:(nn.P x)=(sx.P x):=rfl;have h1:((nn.Id x)==(sx.Id x))=true:=h _;have h2:((nn.Sw x)==(sx.Sw x))=true:=h _;have h3:((nn.RP x)==(sx.RP x))=true:=h _;have h4:((nn.Sn x)==(sx.Sn x))=true:=h _;have h5:((nn.QQ x)==(sx.QQ x))=true:=h _;rw[h1,h2,h3,h4,h5,decide_eq_true e];rfl
theorem VH{a b:Sl nn}(h:a.l=b.l)(hb:a.l.length<9223372036854775807):Vv a b=some true:=by
 unfold Vv;rw[h,bne_self_eq_false,cond_false]
 have:=T6 (f:=Vp a b) a.l (fun _ _=>none) () (by omega) (fun i hi=>by
  simp only[Vp];rw[decide_eq_true (by omega),cond_true,M7 hi,aR,<-h,M7 hi,aR,VE,aR];rfl) (by
  simp only[Vp];rw[decide_eq_false (by omega),cond_false])
 have hn:∀(l:List nn)(i:Nat),R8 (fun(_:Nat)(_:nn)=>(none:Option Bool)) l i=none:=by intro l;induction l with|nil=>intro i;rfl|cons x l ih=>intro i;exact ih (i+1)
 rw[hn]at this;rw[this];rfl
theorem g3(b0 b1 b2:Bool):(bif b0 then some b0 else bif b1 then some b1 else some b2:Option Bool)=some (b0||b1||b2):=by cases b0<;>cases b1<;>cases b2<;>rfl
theorem VM{t:l8}{s:Sl nn}{q:Sl sx}(he:s.l=q.l)(hb:s.l.length<=256)(ht:t.qa.l.length<9223372036854775808)(d:rx):
  ∃s' q':Sl nn,Vw t s t q d=some (true,t,s',t,q')/\s'.l=q'.l/\s'.l.length<=256:=by
 unfold Vw;obtain⟨r1,s1,q1,a1,a2,a3,a4,_⟩:=O8 he hb ht (rx.TC d) (rx.Sw d) (rx.RP d) (rx.Id d) (rx.P d);obtain⟨x2,r2,s2,q2,b1,b2,b3,b4,_⟩:=T5 (t:=t) he hb (rx.TC d) (rx.K d);obtain⟨d3,d3',s3,q3,c1,c2,c3,c4,c5⟩:=VK (t:=t) he hb (rx.TC d);have hl:=Vl (fun x=>!SH (rx.TC d) x) s.l;have hs3:s3.l.length<=256:=by rw[c5.2.2];omega
 have hd3:d3.l.length<9223372036854775807:=by
  have h1:=Vl (SH (rx.TC d)) s.l
  have h2:d3.l.length=(s.l.filter (SH (rx.TC d))).length:=by
   have key:∀(n:Nat)(A B:List nn),A.length<=n->LP TH A B->A.length<=B.length:=by
    intro n;induction n with
    |zero=>intro A B h _;omega
    |succ n ih=>
     intro A B h hs;cases A with
     |nil=>exact Nat.zero_le _
     |cons x A=>
      -- CG ku the class of x
      have e:∀L:List nn,L.length=(L.filter (NU TH x)).length+(L.filter (fun y=>!NU TH x y)).length:=fun L=>by induction L with|nil=>rfl|cons y L ihL=>rw[LX,LX,List.length_cons,ihL];cases NU TH x y<;>simp<;>omega
      have hx:=hs x;have hpos:0<((x::A).filter (NU TH x)).length:=List.length_pos_iff.2 fun h0=>by rw[LX,if_pos (Oa Ti x)]at h0;cases h0
      have h2:=ih ((x::A).filter fun y=>!NU TH x y) (B.filter fun y=>!NU TH x y) (by have:=e (x::A);omega) (fun c=>by
       rw[List.filter_filter,List.filter_filter];have f:∀L:List nn,L.filter (fun a=>NU TH c a&&!NU TH x a)=(L.filter (NU TH c)).filter (fun a=>!NU TH x a):=fun L=>by rw[List.filter_filter];exact List.filter_congr fun y _=>Bool.and_comm _ _
       rw[f,f,hs c])
      rw[e (x::A),e B,hx];omega
   exact Nat.le_antisymm (key _ _ _ (ai _) c5.2.1) (key _ _ _ (ai _) c5.2.1.symm)
  omega
 rw[g3,aR,a1,a2,b1,b2,c1,c2,Ub,TZ,<-he];simp only[aR,VE,beq_self_eq_true,VH c3 hd3,Bool.and_self];generalize((rx.T2 d)==0||(rx.T2 d)==1||(rx.T2 d)==2)=k0;generalize((rx.T2 d)==3)=k3;generalize((rx.T2 d)==4)=k4;generalize((rx.T2 d)==5)=k5;cases k0
 .cases k3
  .cases k4
   .cases k5
    .exact ⟨s,q,rfl,he,hb⟩
    .exact ⟨s,q,rfl,he,hb⟩
   .exact ⟨s3,q3,rfl,c4,hs3⟩
  .exact ⟨s2,q2,rfl,b3,b4⟩
 .exact ⟨s1,q1,rfl,a3,a4⟩
theorem Uf{t:l8}:R4 t=some (if R_ t then .inr (t,Sl.nil,0)else .inl 2):=by
 unfold R4;rw[TD,aR];by_cases h:R_ t
 .rw [decide_eq_true h,if_pos h];rfl
 .rw [decide_eq_false h,if_neg h];rfl
theorem VI{t:l8}(h1:t.qa.l.length<=30)(h2:t.Qy.l.length<=12):Vu t=some (if R_ t then .inr (t,Sl.nil)else .inl ()):=by
 unfold Vu;rw[TT h1 h2,aR];by_cases h:R_ t
 .rw [decide_eq_true h,if_pos h];rfl
 .rw [decide_eq_false h,if_neg h];rfl
theorem VC(t:l8)(l:Sl rx):Vq t l=some true:=by
 unfold Vq;rw[Sd];by_cases hb:t.qa.l.length<=30/\t.Qy.l.length<=12
 .have hc:((decide ((((l8.qa t).l).length:Int)>30))||(decide ((((l8.Qy t).l).length:Int)>12)))=false:=by rw[decide_eq_false (by omega),decide_eq_false (by omega)];rfl
  rw[hc,cond_false,Uf,VI hb.1 hb.2];by_cases hV:R_ t
  .rw [if_pos hV,if_pos hV];have e0:(((0:Int)) !=0)=false:=rfl;simp only[aR,e0,cond_false]
   have key:∀(k i:Nat)(s q:Sl nn),i+k=min l.l.length 300->s.l=q.l->s.l.length<=256->∃z:Bool⊕Unit,zu (wu l) ((i:Int),t,t,s,q)=some z/\(z=.inl true\/z=.inr ()):=by
    intro k;induction k with
    |zero=>
     intro i s q hi _ _;refine⟨_,LJ (b:=.inr ()) ?_,.inr rfl⟩;simp only[wu]
     have:(decide ((i:Int)<(l.l.length:Int))&&decide ((i:Int)<300))=false:=by
      rw[Bool.and_eq_false_iff];by_cases h:i<l.l.length
      .right;exact decide_eq_false (by omega)
      .left;exact decide_eq_false (by omega)
     rw[this];rfl
    |succ k ih=>
     intro i s q hi he hb;have hlt:i<l.l.length:=by omega
     have h60:i<300:=by omega
     have hguard:((decide ((i:Int)<(l.l.length:Int)))&&(decide ((i:Int)<300)))=true:=by rw[decide_eq_true (by omega),decide_eq_true (by omega)];rfl
     obtain⟨s',q',a1,a2,a3⟩:=VM he hb (t:=t) (by have:=hV.TP;omega) (gt l.l i);unfold Vr at*;by_cases htime:((decide ((rx.TC (gt l.l i))>=0))&&(decide ((rx.TC (gt l.l i))<=1125899906842624)))=true
     .obtain ⟨z,i1,i2⟩:=ih (i+1) s' q' (by omega) a2 a3;refine⟨z,(LK (a':=(((i+1:Nat):Int),t,t,s',q')) ?_).trans i1,i2⟩;simp only[wu,Vr];rw[hguard,cond_true,M7 hlt,aR,aR,htime,Bool.not_true,cond_false,aR,a1,aR];simp only[];have e1:Rf ((t,s'):sy)=some (s'.l.length:Int):=rfl;rw[Bool.not_true,cond_false,e1,aR,a2,bne_self_eq_false,cond_false,T9 (by omega),aR,Vz (by rw[<-a2];omega),aR,a2,bne_self_eq_false,aR];simp only[];rw[cond_false,Sx (by omega)]
     .refine ⟨_,LJ (b:=.inl true) ?_,.inl rfl⟩;have htime:=Bool.eq_false_iff.2 htime;simp only[wu,Vr];rw[hguard,cond_true,M7 hlt,aR,aR,htime,Bool.not_false,cond_true,Sd];rfl
   obtain⟨z,k1,k2⟩:=key (min l.l.length 300) 0 Sl.nil Sl.nil (by omega) rfl (by simp[Sl.l]);have k1':zu (wu l) (0,t,t,Sl.nil,Sl.nil)=some z:=k1;rw[k1'];rcases k2 with k2|k2<;>rw[k2]<;>rfl
  .rw [if_neg hV,if_neg hV];rfl
 .have hc:((decide ((((l8.qa t).l).length:Int)>30))||(decide ((((l8.Qy t).l).length:Int)>12)))=true:=by
   rw[Bool.or_eq_true];by_cases h:t.qa.l.length<=30
   .right;exact decide_eq_true (by omega)
   .left;exact decide_eq_true (by omega)
  rw[hc];rfl
end Go.Proofs.Ytingpmogbibghaa.W
