/- AgentBack: joined. Conditions: as stated. -/
import Derived.Test.YtjjajcecekocdaaGreatRC
open Option renaming bind_some->ah
open Go.Ev Go
namespace Go.Proofs.YtjjajcecekocdaaGreat.A
abbrev und(sw u:Int):ad:=(⟨5,sw,u,(-1),0,0,0,0,0,Sl.nil⟩:ad)
theorem aaU{a:Ag}(h:AI a)(hup:a.up=true)(hsw:0<=a.sw/\a.sw<8)(hu:1<=a.u){now:Int}{x:ad}{ok:Bool}{L:List aZ}{a':Ag}(hh:VX a now (und a.sw a.u) x ok L a'):
  ok=true/\ad.bh x=7/\a'.done.l=[]/\a'.bU=Is a/\a'.bm=Mp.none/\a'.cq=Mp.none/\(∀k,0<=k->k<8->(bV a'.fz k).isSome)/\a'.u=a.u/\a'.sw=a.sw:=by
 have hok1:mo a (und a.sw a.u)=true:=by unfold mo;rw[aaP hsw ⟨hu,h.uu.2⟩,hup];show(true&&!((((!true)||(a.sw !=a.sw))||((5:Int)==2))||(decide ((5:Int)>=7))))=true;simp
 cases hh with
 |off ho=>rw[hok1]at ho;cases ho
 |QX _ _ hk _=>exact absurd hk (by show¬(5:Int)=1;decide)
 |@JJ L1 L2 a1 a' e _ hr hk hdu h1 hm=>
  obtain⟨e1,e2,e3,e4,e5,e6⟩:=EF hdu;cases hm with
  |old ho=>have ho2:a.u<_:=ho;omega
  |Qa _ hk2=>exact absurd hk2 (by show¬(5:Int)=3;decide)
  |Zm _ hk2=>exact absurd hk2 (by show¬(5:Int)=4;decide)
  |MV _ hk2 _=>exact absurd hk2 (by show¬(5:Int)=6;decide)
  |To _ _ hU=>
   have hupd:a1.lh (ad.U (und a.sw a.u))=a1:=by unfold Ag.lh;rw[if_neg (by show¬a1.u<a.u;omega)]
   rw[hupd]at hU;have hneg:¬(0:Int)<=ad.Rd (und a.sw a.u):=by show¬(0:Int)<=-1;decide
   cases hU with|all h0 hd ht hs ha hk g1 g2 g3 g4 g5 hL=>exact⟨rfl,rfl,hd,ht.trans (aaC hdu),hs,ha,hk,g5.trans e5,g1.trans e1⟩|no h0 _ _ _=>exact absurd h0 hneg|RM h0 _ _ _=>exact absurd h0 hneg|oA h0 _=>exact absurd h0 hneg
theorem aaI{a:Ag}(h:AI a){t b:Sl ae}(e1:t=b)(e2:a.bU=b):qC t b=some true:=aaJ _ _ (by rw[e1]) (by rw[e1,<-e2];have:=h.tl;omega) (by rw[e1,<-e2];exact Kv h.T)
theorem aaY(sw:Int)(t:Sl ae)(aD:Int)(l:Sl aE)(now:Int)(m:ad)(hn:t.l.length<9223372036854775808)(hf:∀x∈t.l,CU x)(hl:l.l.length<9223372036854775808)(hd:∀d∈l.l,DF d)
  (hm:(ad.gi m).l.length<9223372036854775808/\∀x∈(ad.gi m).l,rX x):aay sw t aD l now m=some true:=by
 obtain⟨b,hb⟩:=Dh t l hn fun d h=>(hd d h).n;unfold aay;rcases Rz sw t aD hn hf with e|⟨e,h,hsw0,hsw8⟩
 .rw [e];simp only[ah];rw[hb];simp only[ah];rw[show(((!b)||((2:Int) !=0))||(decide ((((ad.gi m).l).length:Int)>20)))=true by cases b<;>simp,cond_true,oD];rfl
 rw[e];simp only[ah];rw[hb];simp only[ah];cases hc:(((!b)||((0:Int) !=0))||(decide ((((ad.gi m).l).length:Int)>20)))with
 |true=>rw[cond_true,oD];rfl
 |false=>
  rw[cond_false];have hT:=si h;have hT:gf sw aD true 0 0 t Mp.none Mp.none Sl.nil Sl.nil Mp.none=some (t,(Ag.Yz sw t aD).t):=hT;rw[hT];simp only[ah];have hU:jZ sw aD true 0 0 t Mp.none Mp.none Sl.nil Sl.nil Mp.none=some (0,(Ag.Yz sw t aD).t):=rfl;rw[hU];simp only[ah]
  obtain⟨r,h1,h2⟩:=tg (f:=fI l) (fun i(a:Ag)=>bst i a (Is a) a.u) (min l.l.length 40) (fun i a=>AI a/\a.sw=sw)
   (fun r=>∃a:Ag,r=(Is a,a.u,a.sw,a.aD,a.up,a.cz,a.u,a.bU,a.bm,a.cq,a.done,a.fz,a.fT)/\AI a/\a.sw=sw) (fun i a hi hI=>by
   obtain⟨a',j1,j2,j3⟩:=aaV hd (show i<l.l.length by omega) (by omega) hI.1;exact .inl ⟨a',j1,j2,j3.trans hI.2⟩) (fun a hI=>by
   simp only[fI];rw[show(decide (((min l.l.length 40:Nat):Int)<(l.l.length:Int))&&decide (((min l.l.length 40:Nat):Int)<40))=false by simp;omega,cond_false];exact⟨_,rfl,a,rfl,hI⟩) 0 (Ag.Yz sw t aD) (Nat.zero_le _) ⟨h,rfl⟩
  have h1:bw (fI l) (t,(0:Int),(0:Int),sw,aD,true,(0:Int),(0:Int),t,Mp.none,Mp.none,Sl.nil,Mp.none,Sl.nil)=some r:=h1;rw[h1];obtain⟨a,rfl,hI,rfl⟩:=h2;simp only[ah];rw[aag];simp only[ah];cases hc2:((!a.up)||(decide (a.u<1)))with
  |true=>rw[cond_true,oD];rfl
  |false=>
   rw[cond_false];simp only[Bool.or_eq_false_iff,Bool.not_eq_false',decide_eq_false_iff_not]at hc2;obtain⟨x,ok,s,a1,q1,q2,q3,_⟩:=O0 hI now (m:=und a.sw a.u) (by show(0:Nat)<9223372036854775808;decide) (fun y hy=>by have hy:y∈([]:List ai):=hy;simp at hy);obtain⟨k1,k2,k3,k4,k5,k6,k7,k8,k9⟩:=aaU hI hc2.1 ⟨hsw0,hsw8⟩ (by omega) q3;rw[q1];simp only[ah];rw[k1,k2,show((!true)||((7:Int) !=7))=false from rfl,cond_false,si q2];simp only[ah];rw[aaI q2 k4 k4];simp only[ah,Bool.not_true,cond_false];rw[aaE q2];simp only[ah];rw[Z8 q2];simp only[ah];obtain⟨ds,e1,e2⟩:=Bo q2;rw[e1];simp only[ah];rw[aaA (show a1.bm.es=[]by rw[k5];rfl),aaA (show a1.cq.es=[]by rw[k6];rfl),e2,k3];rw[show((wr .i64 ((wr .i64 (((0:Nat):Int)+((0:Nat):Int)))+(((List.map (fun(y:aB)=>y.1) []).length:Nat):Int))) !=0)=false from rfl,cond_false];obtain⟨y,is,s2,a2,p1,p2,p3,_⟩:=O0 q2 now (m:=(⟨ad.bh m,a.sw,a.u,ad.Rd m,ad.T1 m,ad.T2 m,ad.CV m,ad.Of m,ad.Code m,ad.gi m⟩:ad)) hm.1 hm.2;obtain⟨g1,g2,g3,g4⟩:=aaQ q2 p3 (show a.u=a1.u from k8.symm) k3 k5 k6 k7;rw[p1];simp only[ah]
   have hb2:(bif is then(bif(((ad.bh m)==3)||((ad.bh m)==4))then(some (((ad.bh y) !=8)||((ad.Code y) !=16)))else(some false))else(some false):Option Bool)=some false:=by
    cases is with
    |false=>rfl
    |true=>cases hk:(((ad.bh m)==3)||((ad.bh m)==4))with|false=>rfl|true=>obtain⟨c1,c2⟩:=g4 rfl (by simpa using hk);rw[c1,c2];rfl
   rw[hb2];simp only[ah,cond_false];rw[si p2];simp only[ah];rw[aaI p2 (g1.trans k4) (g1.trans k4)];simp only[ah,cond_true];rw[aaE p2];simp only[ah];rw[Z8 p2];simp only[ah];rw[aaA g2,aaA g3,oD];rfl
end Go.Proofs.YtjjajcecekocdaaGreat.A
