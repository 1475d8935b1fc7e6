/- AgentBack: the law. Conditions: as stated. -/
import Derived.Test.YtjjajcecekocdaaGreatRB
open Option renaming bind_some->ah
open Go.Ev Go
namespace Go.Proofs.YtjjajcecekocdaaGreat.A
abbrev bst(i:Nat)(a:Ag)(aJ:Sl ae)(u:Int):Sl ae×Int×Int×Int×Int×Bool×Int×Int×Sl ae×Mp Int (Sl ai)×Mp Int Int×Sl aB×Mp Int Int×Sl Int:=(aJ,u,(i:Int),a.sw,a.aD,a.up,a.cz,a.u,a.bU,a.bm,a.cq,a.done,a.fz,a.fT)
theorem aaV{l:Sl aE}(hf:∀d∈l.l,DF d){i:Nat}(hi:i<l.l.length)(h40:i<40){a:Ag}(h:AI a):
  ∃a':Ag,fI l (bst i a (Is a) a.u)=some (.inl (bst (i+1) a' (Is a') a'.u))/\AI a'/\a'.sw=a.sw:=by
 have hdf:=hf _ (gy hi);simp only[fI];rw[decide_eq_true (by omega),decide_eq_true (by omega),Bool.and_self,cond_true,cB hi];simp only[ah];generalize gt l.l i=d at hdf;obtain⟨s,a1,d1,d2,d3,_⟩:=Cu h (aE.Kc d)
 have hs:a1.up=true->∀k v,bV a1.cq k=some v->aE.Kc d<v:=fun hu=>by
  rcases d3 with⟨_,hd⟩|⟨hu2,_,rfl⟩
  .exact Mv hd
  .rw [hu2]at hu;cases hu
 have ht:Is a1=Is a/\a1.u=a.u/\a1.sw=a.sw:=by
  rcases d3 with⟨_,hd⟩|⟨_,_,rfl⟩
  .obtain ⟨e1,_,_,_,e5,_⟩:=EF hd;exact⟨aaC hd,e5,e1⟩
  .exact ⟨rfl,rfl,rfl⟩
 rw[d1];simp only[ah];rw[si d2];simp only[ah];obtain⟨x,ok,s2,a2,q1,q2,q3,_⟩:=Om d2 hdf;rw[q1];simp only[ah];rw[Fs];simp only[ah];obtain⟨hc,hsw⟩:=aaS q3 hs;refine⟨a2,?_,q2,hsw.trans ht.2.2⟩;rcases hc with⟨c1,c2⟩|⟨c1,c2⟩
 .rw [show(a2.u !=a.u)=false by simp[c1,ht.2.1],cond_false];simp only[ah];rw[u9 (by omega),c2,ht.1,show a.u=a2.u by rw[c1,ht.2.1]]
 .rw [show(a2.u !=a.u)=true by rw[bne_iff_ne];exact fun e=>c1 (e.trans ht.2.1.symm),cond_true,Fs];simp only[ah];rw[u9 (by omega),c2]
theorem aaA{ν:Type}{m:Mp Int ν}(h:m.es=[]):(ZU m).l.length=0:=by rw[aac,h];rfl
theorem aaQ{a:Ag}(h:AI a){now:Int}{m x:ad}{ok:Bool}{L:List aZ}{a':Ag}(hh:VX a now m x ok L a')(hu:ad.U m=a.u)(hd:a.done.l=[])(hs:a.bm=Mp.none)(ha:a.cq=Mp.none)
  (hk:∀k,0<=k->k<8->(bV a.fz k).isSome):a'.bU=a.bU/\a'.bm.es=[]/\a'.cq.es=[]/\(ok=true->ad.bh m=3\/ad.bh m=4->ad.bh x=8/\ad.Code x=16):=by
 have eU:∀k v,bV a.cq k=some v->now<v:=fun k v hkv=>by rw[ha]at hkv;cases hkv
 have hes:a.bm.es=[]:=by rw[hs];rfl
 have hea:a.cq.es=[]:=by rw[ha];rfl
 cases hh with
 |off _=>exact⟨rfl,hes,hea,fun e=>by cases e⟩
 |QX _ _ hk1 hdu=>obtain⟨rfl,rfl⟩:=Bm eU hdu;exact⟨rfl,hes,hea,fun _ e=>by omega⟩
 |@JJ L1 L2 a1 a' e _ hr hk3 hdu h1 hm=>
  have hq:=(Bm eU hdu).2;rw[hq]at hm;have hup:a.lh (ad.U m)=a:=by unfold Ag.lh;rw[hu,if_neg (Int.lt_irrefl _)]
  have hack:∀b:Ag,ad.bh (Ad b m 16)=8/\ad.Code (Ad b m 16)=16:=fun b=>by unfold Ad;rw[if_neg (by decide)];exact⟨rfl,rfl⟩
  cases hm with
  |old ho=>omega
  |Qa _ hk2=>
   have hrd:=hr.rd (.inl hk2);rw[hup];have e:gE a m=(16,a):=by unfold gE;rw[if_pos (hk _ hrd.1 (by omega))]
   rw[e];exact⟨rfl,hes,hea,fun _ _=>hack _⟩
  |Zm _ hk2=>
   have hrd:=hr.rd (.inr hk2);rw[hup];have e:x5 a now m=(16,a):=by unfold x5;rw[if_pos (hk _ hrd.1 (by omega))]
   rw[e];exact⟨rfl,hes,hea,fun _ _=>hack _⟩
  |To _ hk2 hU=>
   rw[hup]at hU;have hno:∀e,ad.bh m=3\/ad.bh m=4->ad.bh (Ad a' m e)=8/\ad.Code (Ad a' m e)=16:=fun _ e=>by omega
   cases hU with
   |all h0 hd2 ht2 hs2 ha2 _ _ _ _ _ _ _=>refine⟨by rw[ht2];unfold Is;rw[hd];rfl,by rw[hs2];rfl,by rw[ha2];rfl,fun _=>hno _⟩
   |no _ hd2 _ _=>rw[hd]at hd2;simp at hd2
   |RM _ hd2 _ _=>rw[hd]at hd2;simp at hd2
   |oA _ _=>
    refine⟨rfl,?_,?_,fun _=>hno _⟩
    .show (jF a.bm _).es=[]
     rw[hs];rfl
    .show (jF a.cq _).es=[]
     rw[ha];rfl
  |MV _ hk2 _=>rw[hup];exact⟨rfl,hes,hea,fun _ e=>by omega⟩
end Go.Proofs.YtjjajcecekocdaaGreat.A
