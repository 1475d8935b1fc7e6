/- AgentTimes: the law. Conditions: as stated. -/
import Derived.Test.YtjjajcecekocdaaGreatRT
import Derived.Test.YtjjajcecekocdaaGreatAt
open Bool renaming and_eq_true->ak,and_self->gI
open Option renaming bind_some->ah
open Go.Ev Go
namespace Go.Proofs.YtjjajcecekocdaaGreat.A
theorem aai{a:Ag}(h:AI a){d:aE}{x:ad}{ok:Bool}{L:List aZ}{a':Ag}(hp:S_ a d x ok L a')(hs:0<=aE.bh d/\aE.bh d<=5->a.up=true->∀k v,bV a.cq k=some v->aE.Kc d<v)
  {ar:List Bool} {xM:List Int} {de:List Bool} (ht:Tk a ar xM de):
  Rc a' (aE.M d) x ok (bif a'.u==a.u then ar else fB) (bif a'.u==a.u then xM else fI) (bif a'.u==a.u then de else fB)/\
  Fl (bif a'.u==a.u then ar else fB) (bif a'.u==a.u then xM else fI) (bif a'.u==a.u then de else fB) (aE.Kc d) L:=by
 have hself:∀u:Int,(u==u)=true:=fun u=>by simp
 have quiet:∀{b:Ag},b.u=a.u->(∀k v,bV b.cq k=some v->bV a.cq k=some v)->(∀k:Int,(bV a.fz k).isSome->(bV b.fz k).isSome)->∀(y:ad)(o:Bool),(o=true->ad.bh y=7->False)->
   Rc b (aE.M d) y o (bif b.u==a.u then ar else fB) (bif b.u==a.u then xM else fI) (bif b.u==a.u then de else fB):=fun hu h1 h2 y o h3=>by
  rw[hu,hself];exact .of (ht.sub h1 h2) fun e1 e2=>(h3 e1 e2).elim
 have nofl:∀(b:Ag),Fl (bif b.u==a.u then ar else fB) (bif b.u==a.u then xM else fI) (bif b.u==a.u then de else fB) (aE.Kc d) []:=fun b y hy=>by simp at hy
 cases hp with
 |Vu hk hh=>
  cases hh with
  |off ho=>exact⟨quiet rfl (fun _ _ h=>h) (fun _ h=>h) _ _ (fun e=>by cases e),nofl _⟩
  |@QX L a' ho hr hk1 hd=>
   unfold mo at ho;have hup:a.up=true:=by simp only[ak]at ho;exact ho.1
   obtain⟨rfl,rfl⟩:=Bm (hs hk hup) hd;exact⟨quiet rfl (fun _ _ h=>h) (fun _ h=>h) _ _ (fun _ e=>by revert e;show(2:Int)=7->False;decide),nofl _⟩
  |@JJ L1 L2 a1 a' e ho hr hk1 hd h1 hm=>
   unfold mo at ho;have hup:a.up=true:=by simp only[ak]at ho;exact ho.1
   obtain⟨rfl,rfl⟩:=Bm (hs hk hup) hd;obtain⟨_,r1,r2⟩:=aat h hr hm ht;refine⟨r1,fun y hy=>?_⟩;obtain⟨q1,q2⟩:=r2 y (by simpa using hy);exact⟨q1,fun e=>by rw[q2]at e;exact absurd e (by decide)⟩
 |Ph hk hd=>
  rcases hd with⟨hu,hd⟩|⟨_,rfl,rfl⟩
  .obtain ⟨s1,s2⟩:=Z_ hd h.A;obtain⟨_,_,_,_,e5,e6⟩:=EF hd;refine⟨quiet e5 s2 (fun k hk=>e6▸hk) _ _ (fun e=>by cases e),?_⟩;rw[e5,hself];exact ht.fl h s1
  .exact ⟨quiet rfl (fun _ _ h=>h) (fun _ h=>h) _ _ (fun e=>by cases e),nofl _⟩
 |Qy hk=>
  refine⟨?_,nofl _⟩;split
  .exact quiet (b:=a.VP) rfl (fun k v hk=>(by cases hk)) (fun _ h=>h) _ _ (fun e=>by cases e)
  .exact quiet rfl (fun _ _ h=>h) (fun _ h=>h) _ _ (fun e=>by cases e)
 |Hb hk=>exact⟨quiet (b:={a with up:=true}) rfl (fun _ _ h=>h) (fun _ h=>h) _ _ (fun e=>by cases e),nofl _⟩
 |no hk=>exact⟨quiet rfl (fun _ _ h=>h) (fun _ h=>h) _ _ (fun e=>by cases e),nofl _⟩
theorem aad(x:ad)(de:Sl Bool)(hl:de.l.length=8):∃s:Sl Bool,bw (x8 x) (0,de)=some s/\s.l.length=8/\(ad.Of x≠5->s.l=de.l)/\
  (ad.Of x=5->∀i:Nat,i<8->gt s.l i=true->gt de.l i=true\/ad.Rd x=-1\/ad.Rd x=i):=by
 by_cases hk:ad.Of x=5
 .obtain ⟨s,h1,h2,h3⟩:=tg (f:=x8 x) (fun i(s:Sl Bool)=>(((i:Nat):Int),s)) 8 (fun i s=>s.l.length=8/\∀j:Nat,j<8->gt s.l j=true->gt de.l j=true\/ad.Rd x=-1\/ad.Rd x=j)
   (fun s=>s.l.length=8/\∀j:Nat,j<8->gt s.l j=true->gt de.l j=true\/ad.Rd x=-1\/ad.Rd x=j) (fun i s hi hI=>by
   simp only[x8];rw[show(ad.Of x==5)=true by simpa using hk,decide_eq_true (by omega),gI,cond_true,cB (show i<s.l.length by omega),u9 (by omega)];refine .inl ⟨_,rfl,by show(s.l.set _ _).length=8;rw[List.length_set];exact hI.1,fun j hj hg=>?_⟩;have hg2:gt (s.l.set i (((gt s.l i)||((ad.Rd x)==(-1)))||((ad.Rd x)==(i:Int)))) j=true:=hg;rw[HV (by omega)]at hg2;by_cases e:i=j
   .rw [if_pos e]at hg2;subst e;rcases Bool.or_eq_true_iff.1 hg2 with g|g
    .rcases Bool.or_eq_true_iff.1 g with g|g
     .exact hI.2 _ hj g
     .exact .inr (.inl (by simpa using g))
    .exact .inr (.inr (by simpa using g))
   .rw [if_neg e]at hg2;exact hI.2 j hj hg2) (fun s hI=>by
   simp only[x8];rw[show(ad.Of x==5)=true by simpa using hk,decide_eq_false (by omega),Bool.and_false,cond_false];exact⟨_,rfl,hI⟩) 0 de (by omega) ⟨hl,fun j _ h=>.inl h⟩
  exact⟨s,h1,h2,fun e=>absurd hk e,fun _=>h3⟩
 .refine ⟨de,ku ?_,hl,fun _=>rfl,fun e=>absurd e hk⟩;simp only[x8];rw[show(ad.Of x==5)=false by simpa using hk,Bool.false_and,cond_false]
abbrev tst(i:Nat)(a:Ag)(ar:Sl Bool)(xM:Sl Int)(de:Sl Bool):Int×Int×Int×Int×Bool×Int×Int×Sl ae×Sl Bool×Sl Int×Sl Bool×Mp Int (Sl ai)×Mp Int Int×Sl aB×Mp Int Int×Sl Int:=(a.u,(i:Int),a.sw,a.aD,a.up,a.cz,a.u,a.bU,ar,xM,de,a.bm,a.cq,a.done,a.fz,a.fT)
theorem Z5{l:Sl aE}(hf:∀d∈l.l,DF d){i:Nat}(hi:i<l.l.length)(h60:i<60){a:Ag}(h:AI a){ar:Sl Bool}{xM:Sl Int}{de:Sl Bool}(ht:Tk a ar.l xM.l de.l):
  ∃(a':Ag)(ar':Sl Bool)(at':Sl Int)(de':Sl Bool),pd l (tst i a ar xM de)=some (.inl (tst (i+1) a' ar' at' de'))/\AI a'/\Tk a' ar'.l at'.l de'.l:=by
 have hdf:=hf _ (gy hi);simp only[pd];rw[decide_eq_true (by omega),decide_eq_true (by omega),gI,cond_true,cB hi];simp only[ah];generalize gt l.l i=d at hdf
 -- what is Ph
 have hpre:∃a1:Ag,(bif((decide ((aE.bh d)>=0))&&(decide ((aE.bh d)<=5)))then((fL a.sw a.aD a.up a.cz a.u a.bU a.bm a.cq a.fT a.done a.fz).bind fun(r62,q63,q64,q65,q66,q67,q68,q69,q70,s71,s72,q73)=>
   bif r62 then((fg q63 q64 q65 q66 q67 q68 q69 q70 s71 s72 q73 (aE.Kc d)).bind fun(s74,q75,q76,q77,q78,q79,q80,q81,q82,s83,s84,q85)=>
   (ZK s74 ar xM de (aE.Kc d)).bind fun r86=>
   some ((!r86),q75,q76,q77,q78,q79,q80,q81,q82,s84,q85,s83))else
   (some (false,q63,q64,q65,q66,q67,q68,q69,q70,s72,q73,s71)))else
   (some (false,a.sw,a.aD,a.up,a.cz,a.u,a.bU,a.bm,a.cq,a.done,a.fz,a.fT)):Option (Bool×Int×Int×Bool×Int×Int×Sl ae×Mp Int (Sl ai)×Mp Int Int×Sl aB×Mp Int Int×Sl Int))=
   some (false,a1.sw,a1.aD,a1.up,a1.cz,a1.u,a1.bU,a1.bm,a1.cq,a1.done,a1.fz,a1.fT)/\AI a1/\Tk a1 ar.l xM.l de.l/\a1.u=a.u/\
   (0<=aE.bh d/\aE.bh d<=5->a1.up=true->∀k v,bV a1.cq k=some v->aE.Kc d<v):=by
  by_cases hk:0<=aE.bh d/\aE.bh d<=5
  .rw [show(decide ((aE.bh d)>=0)&&decide ((aE.bh d)<=5))=true by simp;omega,cond_true,aag];simp only[ah];cases hu:a.up with|false=>exact⟨a,by rw[cond_false,hu],h,ht,rfl,fun _ e=>by rw[hu]at e;cases e⟩|true=>obtain⟨s,a1,e1,e2,e3,e4,_⟩:=Mw h hu (aE.Kc d);have e1:fg a.sw a.aD a.up a.cz a.u a.bU a.bm a.cq a.fT a.done a.fz (aE.Kc d)=_:=e1;rw[hu]at e1;rw[cond_true,e1];simp only[ah];obtain⟨s1,s2⟩:=Z_ e2 h.A;obtain⟨_,_,_,_,e5,e6⟩:=EF e2;rw[Z0 (by omega) ht.l1 ht.l2 ht.l3 (ht.fl h s1)];exact⟨a1,rfl,e3,ht.sub s2 (fun k hk=>e6▸hk),e5,fun _ _=>Mv e2⟩
  .rw [show(decide ((aE.bh d)>=0)&&decide ((aE.bh d)<=5))=false by simp;omega,cond_false];exact⟨a,rfl,h,ht,rfl,fun e=>absurd e hk⟩
 obtain⟨a1,p1,h1,ht1,hu1,hs1⟩:=hpre;rw[p1];simp only[ah,cond_false];obtain⟨x,ok,s,a2,q1,h2,hP,hlen⟩:=Om h1 hdf;obtain⟨hR,hF⟩:=aai h1 hP hs1 ht1;rw[q1];simp only[ah];rw[Fs];simp only[ah]
 -- an update
 have hupd:∃(ar1:Sl Bool)(at1:Sl Int)(de1:Sl Bool),(bif(a2.u !=a.u)then((jZ a2.sw a2.aD a2.up a2.cz a2.u a2.bU a2.bm a2.cq a2.fT a2.done a2.fz).bind fun(r125,q126,q127,q128,q129,q130,q131,q132,q133,s134,s135,q136)=>
   (OL false 8 8).bind fun l137=>
   (OL 0 8 8).bind fun l138=>
   (OL false 8 8).bind fun l139=>
   some (r125,q126,q127,q128,q129,q130,q131,(Sl.mk l137),(Sl.mk l138),(Sl.mk l139),q132,q133,s135,q136,s134))else
   (some (a.u,a2.sw,a2.aD,a2.up,a2.cz,a2.u,a2.bU,ar,xM,de,a2.bm,a2.cq,a2.done,a2.fz,a2.fT)):Option (Int×Int×Int×Bool×Int×Int×Sl ae×Sl Bool×Sl Int×Sl Bool×Mp Int (Sl ai)×Mp Int Int×Sl aB×Mp Int Int×Sl Int))=
   some (a2.u,a2.sw,a2.aD,a2.up,a2.cz,a2.u,a2.bU,ar1,at1,de1,a2.bm,a2.cq,a2.done,a2.fz,a2.fT)/\ar1.l=(bif a2.u==a1.u then ar.l else fB)/\at1.l=(bif a2.u==a1.u then xM.l else fI)/\de1.l=(bif a2.u==a1.u then de.l else fB):=by
  by_cases hu:a2.u=a.u
  .rw [show(a2.u !=a.u)=false by simpa using hu,cond_false,hu1,show(a2.u==a.u)=true by simpa using hu];exact⟨ar,xM,de,by rw[hu],rfl,rfl,rfl⟩
  .rw [show(a2.u !=a.u)=true by simpa using hu,cond_true,hu1,show(a2.u==a.u)=false by simpa using hu,Fs];simp only[ah];rw[show OL false 8 8=some fB from rfl,show OL (0:Int) 8 8=some fI from rfl];exact⟨.mk fB,.mk fI,.mk fB,rfl,rfl,rfl,rfl⟩
 obtain⟨ar1,at1,de1,u1,u2,u3,u4⟩:=hupd;rw[u1];simp only[ah];rw[<-u2,<-u3,<-u4]at hR hF
 have hl8:ar1.l.length=8/\at1.l.length=8/\de1.l.length=8:=by
  rw[u2,u3,u4];cases(a2.u==a1.u)
  .exact ⟨by simp,by simp,by simp⟩
  .exact ⟨ht.l1,ht.l2,ht.l3⟩
 rw[Z0 (by omega) hl8.1 hl8.2.1 hl8.2.2 hF];simp only[ah,Bool.not_true,cond_false];by_cases hy:ok=true/\ad.bh x=7/\ad.Rd x<=7
 case neg=>
  rw[show(((!ok)||((ad.bh x) !=7))||(decide ((ad.Rd x)>7)))=true by
   cases hb:(((!ok)||((ad.bh x) !=7))||(decide ((ad.Rd x)>7)))with
   |true=>rfl
   |false=>exfalso;simp only[Bool.or_eq_false_iff,Bool.not_eq_false',bne_eq_false_iff_eq,decide_eq_false_iff_not]at hb;exact hy ⟨hb.1.1,hb.1.2,by omega⟩,cond_true]
  simp only[ah];rw[u9 (by omega)];exact⟨a2,ar1,at1,de1,rfl,h2,hR.no hy⟩
 obtain⟨y1,y2,y3⟩:=hy;rw[show(((!ok)||((ad.bh x) !=7))||(decide ((ad.Rd x)>7)))=false by rw[y1,y2,decide_eq_false (by omega)];rfl,cond_false];obtain⟨s',d1,d2,d3,d4⟩:=aad x de1 hl8.2.2
 -- what is cq
 have harm:∃(ar2:Sl Bool)(at2:Sl Int),((bif(((ad.Of x)==4)&&(decide ((ad.Rd x)>=0)))then((ZR a2.sw a2.aD a2.up a2.cz a2.u a2.bU a2.bm a2.cq a2.fT a2.done a2.fz).bind fun(r156,q157,q158,q159,q160,q161,q162,q163,q164,s165,s166,q167)=>
   (rK r156 (ad.Rd x)).bind fun r168=>
   some (r168,q157,q158,q159,q160,q161,q162,q163,q164,s166,q167,s165))else
   (some (false,a2.sw,a2.aD,a2.up,a2.cz,a2.u,a2.bU,a2.bm,a2.cq,a2.done,a2.fz,a2.fT)):Option (Bool×Int×Int×Bool×Int×Int×Sl ae×Mp Int (Sl ai)×Mp Int Int×Sl aB×Mp Int Int×Sl Int)).bind fun(b169,i170,i171,b172,i173,i174,s175,m176,m177,s178,m179,s180)=>
   bif b169 then((eX (ad.Rd x) ar1.l.length).bind fun n181=>
   (eX (ad.Rd x) at1.l.length).bind fun n182=>
   some (i170,i171,b172,i173,i174,s175,(Sl.mk (ar1.l.set n181 true)),(Sl.mk (at1.l.set n182 (ad.T2 (aE.M d)))),m176,m177,s178,m179,s180))else
   (some (i170,i171,b172,i173,i174,s175,ar1,at1,m176,m177,s178,m179,s180)):Option (Int×Int×Bool×Int×Int×Sl ae×Sl Bool×Sl Int×Mp Int (Sl ai)×Mp Int Int×Sl aB×Mp Int Int×Sl Int))=
   some (a2.sw,a2.aD,a2.up,a2.cz,a2.u,a2.bU,ar2,at2,a2.bm,a2.cq,a2.done,a2.fz,a2.fT)/\
   ((ad.Of x=4/\0<=ad.Rd x/\ad.Rd x∈mj a2.cq)->ar2.l=ar1.l.set (ad.Rd x).toNat true/\at2.l=at1.l.set (ad.Rd x).toNat (ad.T2 (aE.M d)))/\
   (¬(ad.Of x=4/\0<=ad.Rd x/\ad.Rd x∈mj a2.cq)->ar2.l=ar1.l/\at2.l=at1.l):=by
  by_cases ho:ad.Of x=4/\0<=ad.Rd x
  .rw [show(((ad.Of x)==4)&&(decide ((ad.Rd x)>=0)))=true by simp;exact ho,cond_true,Z8 h2];simp only[ah];rw[R4 _ _ (by rw[aac];have:=we h2.A;omega)];simp only[ah];by_cases hin:ad.Rd x∈mj a2.cq
   .rw [iC (ZY.2 hin),cond_true,show eX (ad.Rd x) ar1.l.length=some (ad.Rd x).toNat from jr.2 ⟨by omega,by omega⟩,show eX (ad.Rd x) at1.l.length=some (ad.Rd x).toNat from jr.2 ⟨by omega,by omega⟩];exact⟨_,_,rfl,fun _=>⟨rfl,rfl⟩,fun e=>absurd ⟨ho.1,ho.2,hin⟩ e⟩
   .rw [eI (fun e=>hin (ZY.1 e)),cond_false];exact⟨_,_,rfl,fun e=>absurd e.2.2 hin,fun _=>⟨rfl,rfl⟩⟩
  .rw [show(((ad.Of x)==4)&&(decide ((ad.Rd x)>=0)))=false by
    cases hb:(((ad.Of x)==4)&&(decide ((ad.Rd x)>=0)))with
    |false=>rfl
    |true=>simp only[ak,beq_iff_eq,decide_eq_true_eq]at hb;exact absurd hb ho,cond_false]
   simp only[ah,cond_false];exact⟨_,_,rfl,fun e=>absurd ⟨e.1,e.2.1⟩ ho,fun _=>⟨rfl,rfl⟩⟩
 obtain⟨ar2,at2,m1,m2,m3⟩:=harm;rw[m1];simp only[ah];rw[d1];simp only[ah];rw[u9 (by omega)];exact⟨a2,ar2,at2,s',rfl,h2,hR.ZH ⟨y1,y2,y3⟩ _ _ m2 m3 _ d2 d3 d4⟩
theorem aaa(sw:Int)(t:Sl ae)(aD:Int)(l:Sl aE)(hn:t.l.length<9223372036854775808)(hf:∀x∈t.l,CU x)(hl:l.l.length<9223372036854775808)(hd:∀d∈l.l,DF d):ZN sw t aD l=some true:=by
 obtain⟨b,hb⟩:=Dh t l hn fun d h=>(hd d h).n;unfold ZN;rcases Rz sw t aD (by omega) hf with e|⟨e,h,_⟩
 .rw [e];simp only[ah];rw[hb];simp only[ah];rw[show((!b)||((2:Int) !=0))=true by cases b<;>rfl,cond_true,oD];rfl
 .rw [e];simp only[ah];rw[hb];simp only[ah];cases b with
  |false=>rw[show((!false)||((0:Int) !=0))=true from rfl,cond_true,oD];rfl
  |true=>
   rw[show((!true)||((0:Int) !=0))=false from rfl,cond_false,show OL false 8 8=some fB from rfl,show OL (0:Int) 8 8=some fI from rfl];simp only[ah]
   obtain⟨r,h1,h2⟩:=tg (f:=pd l) (fun i(s:Ag×Sl Bool×Sl Int×Sl Bool)=>tst i s.1 s.2.1 s.2.2.1 s.2.2.2) (min l.l.length 60) (fun i s=>AI s.1/\Tk s.1 s.2.1.l s.2.2.1.l s.2.2.2.l) (fun r=>r=.inr ()) (fun i s hi hI=>by
    obtain⟨a',ar',at',de',j1,j2,j3⟩:=Z5 hd (show i<l.l.length by omega) (by omega) hI.1 hI.2;exact .inl ⟨(a',ar',at',de'),j1,j2,j3⟩) (fun s hI=>by
    simp only[pd];rw[show(decide (((min l.l.length 60:Nat):Int)<(l.l.length:Int))&&decide (((min l.l.length 60:Nat):Int)<60))=false by simp;omega,cond_false];exact⟨_,rfl,rfl⟩) 0 (Ag.Yz sw t aD,.mk fB,.mk fI,.mk fB) (Nat.zero_le _) ⟨h,by simp[Sl.l],by simp[Sl.l],by simp[Sl.l],fun k v hk=>(by cases hk),fun k _ hk=>(by rw[show gt (Sl.mk fB).l k=gt fB k from rfl,aaj]at hk;cases hk)⟩
   subst h2;have h1:bw (pd l) ((0:Int),(0:Int),sw,aD,true,(0:Int),(0:Int),t,Sl.mk fB,Sl.mk fI,Sl.mk fB,Mp.none,Mp.none,Sl.nil,Mp.none,Sl.nil)=some (.inr ()):=h1;rw[h1];simp only[ah];rw[oD];rfl
end Go.Proofs.YtjjajcecekocdaaGreat.A
