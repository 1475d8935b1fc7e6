/- AgentAgain: the law. Conditions: as stated. -/
import Derived.Test.YtjjajcecekocdaaGreatRJ
open Bool renaming and_self->gI
open Option renaming bind_some->ah
open Go.Ev Go
namespace Go.Proofs.YtjjajcecekocdaaGreat.A
theorem abp{a b:Ag}(m:ad)(h1:b.up=a.up)(h2:b.sw=a.sw):mo b m=mo a m:=by unfold mo;rw[h1,h2]
theorem abl{a:Ag}{now:Int}{m x y:ad}{ok is:Bool}{L L2:List aZ}{a1 a2:Ag}(h1:VX a now m x ok L a1)(h2:VX a1 now m y is L2 a2):
  y=x/\is=ok/\L2=[]/\Eq2 a1 a2/\(ad.gi x).l=[]:=by
 cases h1 with
 |off ho=>cases h2 with|off _=>exact⟨rfl,rfl,rfl,.abk _,rfl⟩|QX h _ _ _=>rw[ho]at h;cases h|JJ h _ _ _ _ _=>rw[ho]at h;cases h
 |QX ho _ hk hd=>obtain⟨e1,e2,e3,e4,e5,e6⟩:=EF hd;have hq:=abp m e3 e1;cases h2 with|off h=>rw[hq,ho]at h;cases h|QX _ _ _ hd2=>obtain⟨rfl,hq2⟩:=Bm (Mv hd) hd2;rw[hq2];exact⟨rfl,rfl,rfl,.abk _,rfl⟩|JJ _ _ hk3 _ _ _=>omega
 |@JJ L1 L2' a0 a1 e ho hr hk3 hd hI0 hm=>obtain⟨e1,e2,e3,e4,e5,e6⟩:=EF hd;obtain⟨d1,d2⟩:=abt hm;have hu:=hr.u hk3.1;have hq:=abp m (d1.trans e3) (d2.trans e1);cases h2 with|off h=>rw[hq,ho]at h;cases h|QX _ _ hk _=>omega|JJ _ _ _ hd2 _ hm2=>obtain⟨rfl,hq2⟩:=Bm (abq hI0 (by omega) hm (Mv hd)) hd2;rw[hq2]at hm2;obtain⟨g1,rfl,g3⟩:=abr hI0 (by omega) hm hm2;refine⟨?_,rfl,rfl,g3,by unfold Ad;split<;>rfl⟩;rw[g1];unfold Ad;rw[g3.sw,g3.lf]
theorem abj(a b:Sl Int)(e:a.l=b.l)(hn:a.l.length<9223372036854775808):k8 a b=some true:=by
 unfold k8;rw[show((a.l.length:Int) !=(b.l.length:Int))=false by rw[e];simp,cond_false];rw[x9 (f:=aa5 a b) a.l.length hn (fun _=>True) () (fun i hi=>?_) (by simp only[aa5];rw[decide_eq_false (by omega),cond_false]),iC fun _ _=>trivial]
 .rfl
 .rw [iC trivial,cond_true];simp only[aa5];rw[decide_eq_true (by omega),cond_true,cB hi,cB (show i<b.l.length by rw[<-e];exact hi)];simp only[ah];rw[e,show(gt b.l i !=gt b.l i)=false by simp];rfl
theorem abu(x:ad)(h:(ad.gi x).l=[]):aa8 x x=some true:=by have hr:aa7 (ad.gi x) (ad.gi x)=some true:=abf _ _ rfl (by rw[h];decide) (fun m hm=>by rw[h]at hm;simp at hm);unfold aa8;simp only[bne_self_eq_false,Bool.or_self,cond_false,beq_self_eq_true,gI,cond_true,hr,ah]
theorem abi{ν:Type}{m n:Mp Int ν}(h:m.es=n.es):ZU m=ZU n:=by unfold ZU;rw[h]
theorem abo(sw:Int)(t:Sl ae)(aD:Int)(l:Sl aE)(now:Int)(m:ad)(hn:t.l.length<9223372036854775808)(hf:∀x∈t.l,CU x)(hl:l.l.length<9223372036854775808)(hd:∀d∈l.l,DF d)
  (hm:(ad.gi m).l.length<9223372036854775808/\∀x∈(ad.gi m).l,rX x):k9 sw t aD l now m=some true:=by
 obtain⟨b,hb⟩:=Dh t l hn fun d h=>(hd d h).n;unfold k9;rcases Rz sw t aD hn hf with e|⟨e,h,hsw0,hsw8⟩
 .rw [e];simp only[ah];rw[hb];simp only[ah];rw[show(((!b)||((2:Int) !=0))||(decide ((((ad.gi m).l).length:Int)>20)))=true by cases b<;>simp,cond_true,oD];rfl
 rw[e];simp only[ah];rw[hb];simp only[ah];cases hc:(((!b)||((0:Int) !=0))||(decide ((((ad.gi m).l).length:Int)>20)))with
 |true=>rw[cond_true,oD];rfl
 |false=>
  rw[cond_false]
  obtain⟨r,h1,h2⟩:=tg (f:=k7 l) (fun i(a:Ag)=>((i:Int),a.sw,a.aD,a.up,a.cz,a.u,a.bU,a.bm,a.cq,a.done,a.fz,a.fT)) (min l.l.length 40) (fun i a=>AI a)
   (fun r=>∃a:Ag,r=(a.sw,a.aD,a.up,a.cz,a.u,a.bU,a.bm,a.cq,a.done,a.fz,a.fT)/\AI a) (fun i a hi hI=>by
   have hi1:i<l.l.length:=by omega
   obtain⟨x,ok,s,a',p1,p2,_,_⟩:=Om hI (hd _ (gy hi1));simp only[k7];rw[decide_eq_true (by omega),decide_eq_true (by omega),gI,cond_true,cB hi1];simp only[ah];rw[p1];simp only[ah];rw[u9 (by omega)];exact .inl ⟨a',rfl,p2⟩) (fun a hI=>by
   simp only[k7];rw[show(decide (((min l.l.length 40:Nat):Int)<(l.l.length:Int))&&decide (((min l.l.length 40:Nat):Int)<40))=false by simp;omega,cond_false];exact⟨_,rfl,a,rfl,hI⟩) 0 (Ag.Yz sw t aD) (Nat.zero_le _) h
  have h1:bw (k7 l) ((0:Int),sw,aD,true,(0:Int),(0:Int),t,Mp.none,Mp.none,Sl.nil,Mp.none,Sl.nil)=some r:=h1;rw[h1];obtain⟨a,rfl,hI⟩:=h2;simp only[ah];obtain⟨x,ok,s,a1,q1,q2,q3,_⟩:=O0 hI now hm.1 hm.2;rw[q1];simp only[ah];rw[si q2];simp only[ah];rw[aaE q2];simp only[ah];rw[Z8 q2];simp only[ah];obtain⟨ds,e1,e2⟩:=Bo q2;rw[e1];simp only[ah];obtain⟨y,is,s2,a2,p1,p2,p3,_⟩:=O0 q2 now hm.1 hm.2;rw[p1];simp only[ah];obtain⟨rfl,rfl,g3,g4,g5⟩:=abl q3 p3;rw[abu _ g5,g3];simp only[ah];rw[show((true&&(is==is))&&((([]:List aZ).length:Int)==0))=true by simp,cond_true,si p2];simp only[ah];have htl:=p2.tl;rw[aaJ a2.bU a1.bU (by rw[g4.t]) (by omega) (Kv p2.T)];simp only[ah,cond_true];rw[aaE p2];simp only[ah];rw[abj _ _ (by rw[abi g4.s]) (by rw[aac];have:=we p2.S;omega)];simp only[ah,cond_true];rw[Z8 p2];simp only[ah];rw[abj _ _ (by rw[abi g4.ar]) (by rw[aac];have:=we p2.A;omega)];simp only[ah,cond_true];obtain⟨ds2,e3,e4⟩:=Bo p2;rw[e3];simp only[ah];rw[abj _ _ (by rw[e4,e2,g4.d]) (by rw[e4,List.length_map];have:=p2.zO;omega)];simp only[ah,cond_true];rw[oD];rfl
end Go.Proofs.YtjjajcecekocdaaGreat.A
