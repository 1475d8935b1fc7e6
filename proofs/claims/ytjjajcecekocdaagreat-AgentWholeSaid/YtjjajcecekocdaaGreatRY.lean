/- AgentWhole: the law. Conditions: as stated. -/
import Derived.Test.YtjjajcecekocdaaGreatRX
import Derived.Test.YtjjajcecekocdaaGreatAw
open Bool renaming and_eq_true->ak,and_self->gI,not_true->dC
open List renaming replicate->aA
open Nat renaming zero_le->fM
open Option renaming bind_some->ah
open Go.Ev Go
namespace Go.Proofs.YtjjajcecekocdaaGreat.A
theorem MS{aD:Int}(hr:0<=aD/\aD<=64)(M:Sl (Sl ai))(hM:M.l.length=8)(hf:∀s∈M.l,s.l.length<=16/\∀x∈s.l,rX x)(D:List aB)(hD:∀d∈D,0<=d.1/\d.1<8)(hl:D.length<=8)(r:Sl Int)(hrd:r.l=D.map (·.1)){w:List ae}{aJ:Sl ae}(hb:ug aJ.l 8 aD)(hc:BE aD M.l aJ.l D w):
  ∃s:Sl ae,bw (iO aD M r) (aJ,0)=some (.inr s)/\w.map nm=s.l.map nm/\s.l.length<9223372036854775808:=by
 have hrl:r.l.length=D.length:=by rw[hrd,List.length_map]
 obtain⟨x,h1,s,rfl,h2,h3⟩:=tg (f:=iO aD M r) (fun i(s:Sl ae)=>(s,(i:Int))) D.length (fun i s=>ug s.l 8 aD/\BE aD M.l s.l (D.drop i) w) (fun x=>∃s,x=.inr s/\w.map nm=s.l.map nm/\s.l.length<9223372036854775808) (fun i s hi hI=>by
  obtain⟨hT,hC⟩:=hI;have hg:=hD _ (gy hi);have hgr:gt r.l i=(gt D i).1:=by rw[gX (by omega),gX hi];simp only[hrd,List.getElem_map]
  rw[sL hi]at hC;obtain⟨c1,c2,c3⟩:=hC;have hk:(gt D i).1.toNat<M.l.length:=by omega
  obtain⟨f1,f2⟩:=hf _ (gy hk);have hn:=hT.n;obtain⟨q,q1,q2⟩:=Au (t:=s) (l:=gt M.l (gt D i).1.toNat) (aD:=aD) (ports:=8) (by omega) hT f2;simp only[iO];rw[decide_eq_true (by omega),cond_true,cB (show i<r.l.length by omega)];simp only[ah];rw[hgr,decide_eq_false (show¬(gt D i).1<0 by omega),decide_eq_false (show¬(gt D i).1>7 by omega)];simp only[cond_false,ah];rw[show eX (gt D i).1 M.l.length=some (gt D i).1.toNat from jr.2 ⟨by omega,by omega⟩];simp only[ah];rw[q1];simp only[ah];rw[c2,show((0:Int) !=0)=false from rfl,cond_false,u9 (by omega)];refine .inl ⟨q,rfl,?_,?_⟩
  .rw [q2];exact(HE hT _ _ 0 hT).1
  .rw [q2];exact c3) (fun s hI=>by
  obtain⟨hT,hC⟩:=hI;rw[List.drop_length]at hC;have hn:=hT.n;simp only[iO];rw[decide_eq_false (by omega),cond_false];exact⟨_,rfl,s,rfl,hC,by omega⟩) 0 aJ (fM _) ⟨hb,hc⟩
 exact⟨s,h1,h2,h3⟩
abbrev V5(i:Nat)(a:Ag)(aJ:Sl ae)(M:Sl (Sl ai)):Sl ae×Int×Int×Int×Int×Bool×Int×Int×Sl ae×Sl (Sl ai)×Mp Int (Sl ai)×Mp Int Int×Sl aB×Mp Int Int×Sl Int:=(aJ,a.u,(i:Int),a.sw,a.aD,a.up,a.cz,a.u,a.bU,M,a.bm,a.cq,a.done,a.fz,a.fT)
theorem Fi{aD:Int}{l:Sl aE}(hf:∀d∈l.l,DF d){i:Nat}(hi:i<l.l.length)(h60:i<60){a:Ag}(h:AI a){aJ:Sl ae}{M:Sl (Sl ai)}(hW:Wk aD a aJ.l M.l):
  ∃(a':Ag)(base':Sl ae)(M':Sl (Sl ai)),gR aD l (V5 i a aJ M)=some (.inl (V5 (i+1) a' base' M'))/\AI a'/\Wk aD a' base'.l M'.l:=by
 have hdf:=hf _ (gy hi);simp only[gR];rw[decide_eq_true (by omega),decide_eq_true (by omega),gI,cond_true,cB hi];simp only[ah];generalize gt l.l i=d at hdf
 -- what is Ph
 have hpre:∃a1:Ag,(bif((decide ((aE.bh d)>=0))&&(decide ((aE.bh d)<=5)))then((fg a.sw a.aD a.up a.cz a.u a.bU a.bm a.cq a.fT a.done a.fz (aE.Kc d)).bind fun(s80,q81,q82,q83,q84,q85,q86,q87,q88,s89,s90,q91)=>
   some (q81,q82,q83,q84,q85,q86,q87,q88,s90,q91,s89))else
   (some (a.sw,a.aD,a.up,a.cz,a.u,a.bU,a.bm,a.cq,a.done,a.fz,a.fT)):Option (Int×Int×Bool×Int×Int×Sl ae×Mp Int (Sl ai)×Mp Int Int×Sl aB×Mp Int Int×Sl Int))=
   some (a1.sw,a1.aD,a1.up,a1.cz,a1.u,a1.bU,a1.bm,a1.cq,a1.done,a1.fz,a1.fT)/\AI a1/\Wk aD a1 aJ.l M.l/\a1.u=a.u/\
   (0<=aE.bh d/\aE.bh d<=5->a1.up=true->∀k v,bV a1.cq k=some v->aE.Kc d<v):=by
  by_cases hk:0<=aE.bh d/\aE.bh d<=5
  .obtain ⟨s,a1,e1,e2,e3,e4⟩:=Cu h (aE.Kc d);rw[show(decide ((aE.bh d)>=0)&&decide ((aE.bh d)<=5))=true by simp;omega,cond_true,e1];refine⟨a1,rfl,e2,Mu e3 h.S hW,?_,fun _ hup=>?_⟩
   .rcases e3 with⟨_,e3⟩|⟨_,_,rfl⟩
    .exact (EF e3).2.2.2.2.1
    .rfl
   .rcases e3 with⟨_,e3⟩|⟨e5,_,rfl⟩
    .exact Mv e3
    .rw [e5]at hup;cases hup
  .rw [show(decide ((aE.bh d)>=0)&&decide ((aE.bh d)<=5))=false by simp;omega,cond_false];exact⟨a,rfl,h,hW,rfl,fun e=>absurd e hk⟩
 obtain⟨a1,p1,h1,hW1,hu1,hs1⟩:=hpre;rw[p1];simp only[ah];rw[si h1];simp only[ah];obtain⟨pd,e1,e2⟩:=Bo h1;rw[e1];simp only[ah];obtain⟨x,ok,s,a2,q1,h2,hP,_⟩:=Om h1 hdf;obtain⟨k1,k2⟩:=Ol h1 hdf hP hs1 hW1;rw[q1];simp only[ah];rw[Fs];simp only[ah]
 -- an update
 have hupd:∃(base1:Sl ae)(pd1:Sl Int),(bif(a2.u !=a.u)then((jZ a2.sw a2.aD a2.up a2.cz a2.u a2.bU a2.bm a2.cq a2.fT a2.done a2.fz).bind fun(r153,q154,q155,q156,q157,q158,q159,q160,q161,s162,s163,q164)=>
   some (a1.bU,r153,Sl.nil,q154,q155,q156,q157,q158,q159,q160,q161,s163,q164,s162))else
   (some (aJ,a.u,pd,a2.sw,a2.aD,a2.up,a2.cz,a2.u,a2.bU,a2.bm,a2.cq,a2.done,a2.fz,a2.fT)):Option (Sl ae×Int×Sl Int×Int×Int×Bool×Int×Int×Sl ae×Mp Int (Sl ai)×Mp Int Int×Sl aB×Mp Int Int×Sl Int))=
   some (base1,a2.u,pd1,a2.sw,a2.aD,a2.up,a2.cz,a2.u,a2.bU,a2.bm,a2.cq,a2.done,a2.fz,a2.fT)/\base1.l=(bif a2.u==a1.u then aJ.l else a1.bU.l)/\pd1.l=xS a1 a2:=by
  unfold xS;by_cases hu:a2.u=a.u
  .rw [show(a2.u !=a.u)=false by simpa using hu,cond_false,hu1,show(a2.u==a.u)=true by simpa using hu];exact⟨aJ,pd,by rw[hu],rfl,e2⟩
  .rw [show(a2.u !=a.u)=true by simpa using hu,cond_true,hu1,show(a2.u==a.u)=false by simpa using hu,Fs];exact⟨a1.bU,Sl.nil,rfl,rfl,rfl⟩
 obtain⟨base1,pd1,u1,u2,u3⟩:=hupd;rw[u1];simp only[ah];rw[<-u2,<-u3]at k1 k2
 have hpl:pd1.l.length<9223372036854775807:=by
  rw[u3];unfold xS;cases(a2.u==a1.u)
  .simp
  .have:=h1.zO;simp;omega
 -- what is Cd
 have hkeep:∃M2:Sl (Sl ai),((bif((ok&&((ad.bh x)==7))&&((ad.Of x)==3))then((rK pd1 (ad.Rd x)).bind fun r179=>
   some (((!r179)&&(decide ((ad.Rd x)>=0)))&&(decide ((ad.Rd x)<8))))else
   (some false):Option Bool).bind fun b180=>
   bif b180 then((eX (ad.Rd x) M.l.length).bind fun n181=>
   some (Sl.mk (M.l.set n181 (ad.gi (aE.M d)))))else
   (some M):Option (Sl (Sl ai)))=some M2/\Wk aD a2 base1.l M2.l:=by
  rw[R4 _ _ hpl]
  have hiff:(bif((ok&&((ad.bh x)==7))&&((ad.Of x)==3))then((some (tt (ad.Rd x∈pd1.l))).bind fun r179=>
   some (((!r179)&&(decide ((ad.Rd x)>=0)))&&(decide ((ad.Rd x)<8))))else(some false):Option Bool)=some (tt (Af pd1.l ok x)):=by
   unfold Af;by_cases hb:ok=true/\ad.bh x=7/\ad.Of x=3
   .obtain ⟨b1,b2,b3⟩:=hb;rw[b1,b2,b3];simp only[beq_self_eq_true,gI,cond_true,ah,true_and];by_cases hm:ad.Rd x∈pd1.l
    .rw [iC hm,eI fun hc=>hc.1 hm];rfl
    .rw [eI hm];by_cases hr:0<=ad.Rd x/\ad.Rd x<8
     .rw [iC ⟨hm,hr⟩,decide_eq_true hr.1,decide_eq_true hr.2];rfl
     .rw [eI fun hc=>hr hc.2];refine congrArg some ?_;rw[Bool.eq_false_iff];simp only[ne_eq,ak,decide_eq_true_eq,not_and,Bool.not_false];intro hc h8;exact hr ⟨hc.2,h8⟩
   .rw [show((ok&&((ad.bh x)==7))&&((ad.Of x)==3))=false by rw[Bool.eq_false_iff];simp only[ne_eq,ak,beq_iff_eq,not_and];intro hc h3;exact hb ⟨hc.1,hc.2,h3⟩,cond_false,eI fun hc=>hb ⟨hc.1,hc.2.1,hc.2.2.1⟩]
  rw[hiff];simp only[ah];by_cases hk:Af pd1.l ok x
  .rw [iC hk,cond_true,show eX (ad.Rd x) M.l.length=some (ad.Rd x).toNat from jr.2 ⟨by have:=hk.2.2.2.2;omega,by have:=hk.2.2.2.2;have:=hW1.m8;omega⟩];exact⟨_,rfl,k1 hk⟩
  .rw [eI hk,cond_false];exact⟨_,rfl,k2 hk⟩
 obtain⟨M2,m1,hW2⟩:=hkeep;rw[m1];simp only[ah];obtain⟨rd,g1,g2⟩:=Bo h2;rw[g1];simp only[ah];obtain⟨w,w1,w2,w3⟩:=MS (by have:=h2.rm;rw[hW2.rm]at this;exact this) M2 hW2.m8 hW2.mf a2.done.l (fun d hd=>(h2.dr d hd).1) h2.zO rd g2 hW2.bT hW2.ch;rw[w1];simp only[ah];rw[si h2];simp only[ah];have htl:=h2.tl;rw[KN _ _ w2 (by omega) (Kv h2.T)];simp only[ah,dC,cond_false];rw[si h2];simp only[ah];rw[xz _ _ _ (by omega) (N_ h2.T),iC (hW2.rm▸h2.T)];simp only[ah,dC,cond_false];rw[u9 (by omega)];exact⟨a2,base1,M2,rfl,h2,hW2⟩
theorem Ig(sw:Int)(t:Sl ae)(aD:Int)(l:Sl aE)(hn:t.l.length<9223372036854775808)(hf:∀x∈t.l,CU x)(hl:l.l.length<9223372036854775808)(hd:∀d∈l.l,DF d):oE sw t aD l=some true:=by
 obtain⟨b,hb⟩:=Dh t l hn fun d h=>(hd d h).n;unfold oE;rcases Rz sw t aD (by omega) hf with e|⟨e,h,_⟩
 .rw [e];simp only[ah];rw[hb];simp only[ah];rw[show((!b)||((2:Int) !=0))=true by cases b<;>rfl,cond_true,oD];rfl
 .rw [e];simp only[ah];rw[hb];simp only[ah];cases b with
  |false=>rw[show((!false)||((0:Int) !=0))=true from rfl,cond_true,oD];rfl
  |true=>
   rw[show((!true)||((0:Int) !=0))=false from rfl,cond_false];have ht:=si h;have ht:gf sw aD true 0 0 t Mp.none Mp.none Sl.nil Sl.nil Mp.none=_:=ht;rw[ht];simp only[ah];have hu:=Fs (Ag.Yz sw t aD);have hu:jZ sw aD true 0 0 t Mp.none Mp.none Sl.nil Sl.nil Mp.none=_:=hu;rw[hu];simp only[ah];rw[show OL (Sl.nil:Sl ai) 8 8=some (aA 8 Sl.nil)from rfl];simp only[ah]
   obtain⟨r,h1,h2⟩:=tg (f:=gR aD l) (fun i(s:Ag×Sl ae×Sl (Sl ai))=>V5 i s.1 s.2.1 s.2.2) (min l.l.length 60) (fun i s=>AI s.1/\Wk aD s.1 s.2.1.l s.2.2.l) (fun r=>r=.inr ()) (fun i s hi hI=>by
    obtain⟨a',base',M',j1,j2,j3⟩:=Fi hd (show i<l.l.length by omega) (by omega) hI.1 hI.2;exact .inl ⟨(a',base',M'),j1,j2,j3⟩) (fun s hI=>by
    simp only[gR];rw[show(decide (((min l.l.length 60:Nat):Int)<(l.l.length:Int))&&decide (((min l.l.length 60:Nat):Int)<60))=false by simp;omega,cond_false];exact⟨_,rfl,rfl⟩) 0 (Ag.Yz sw t aD,t,.mk (aA 8 Sl.nil)) (fM _) ⟨h,rfl,h.T,by simp[Sl.l],fun s hs=>by have hs:s∈aA 8 (Sl.nil:Sl ai):=hs;rw[List.eq_of_mem_replicate hs];exact⟨by decide,fun x hx=>by simp[Sl.l]at hx⟩,fun k v hk=>(by cases hk),rfl⟩
   subst h2;have h1:bw (gR aD l) (t,(0:Int),(0:Int),sw,aD,true,(0:Int),(0:Int),t,Sl.mk (aA 8 Sl.nil),Mp.none,Mp.none,Sl.nil,Mp.none,Sl.nil)=some (.inr ()):=h1;rw[h1];simp only[ah];rw[oD];rfl
end Go.Proofs.YtjjajcecekocdaaGreat.A
