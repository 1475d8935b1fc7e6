/- Changes that are the same but for what is nil; a bundle beside the document's, for the agent's program. Conditions: as stated. -/
import Derived.Test.YtjjajcecekocdaaGreatQP
open List renaming flatMap_cons->bg,length_map->aM,map_cons->aq,mem_map->bB
open Option renaming bind_some->ah
open Prod.mk renaming injEq->cF
open Go.Ev Go
namespace Go.Proofs.YtjjajcecekocdaaGreat.A
abbrev nm(x:ae):ae:=(⟨ae.c9 x,ae.M x,Sl.mk (ae.iK x).l⟩:ae)
abbrev qJ(m:ai):ai:=(⟨ai.bh m,nm (ai.R m),ai.iY m⟩:ai)
theorem KQ{x:ae}{ports:Int}:C4 (nm x) ports<->C4 x ports:=⟨fun h=>⟨h.lo,h.hi,h.m,h.a⟩,fun h=>⟨h.lo,h.hi,h.m,h.a⟩⟩
theorem Qs{t:List ae}{P:ae->Prop}:(∃y∈t.map nm,P y)<->∃y∈t,P (nm y):=by
 constructor
 .rintro ⟨y,hy,hp⟩;obtain⟨z,hz,rfl⟩:=bB.1 hy;exact⟨z,hz,hp⟩
 .rintro ⟨y,hy,hp⟩;exact⟨nm y,bB.2 ⟨y,hy,rfl⟩,hp⟩
theorem zS{q q':ae->Bool}(h:∀y,q' (nm y)=q y)(eH:Bool)(a:Sl aT)(t:List ae):se q' eH (Sl.mk a.l) (t.map nm)=(se q eH a t).map nm:=by
 induction t with
 |nil=>rfl
 |cons y r ih=>
  have e1:se q' eH (Sl.mk a.l) ((y::r).map nm)=g1 q' eH (Sl.mk a.l) (nm y)++se q' eH (Sl.mk a.l) (r.map nm):=by unfold se;rw[aq,bg]
  have e2:se q eH a (y::r)=g1 q eH a y++se q eH a r:=by unfold se;rw[bg]
  rw[e1,e2,ih,List.map_append];congr 1;unfold g1;rw[h];cases q y<;>cases eH<;>rfl
theorem RX(x:ae)(t:List ae):ins (nm x) (t.map nm)=(ins x t).map nm:=by
 induction t with
 |nil=>rfl
 |cons y r ih=>
  rw[aq,ins,ins];cases tt (ae.c9 x<=ae.c9 y)
  .rfl
  .rw [cond_true,cond_true,aq,ih]
theorem SY(t:List ae)(m:ai)(ports aD:Int):tj (t.map nm) (qJ m) ports aD=((tj t m ports aD).1.map nm,(tj t m ports aD).2):=by
 unfold tj;have hk:(∃y∈t.map nm,mI y (nm (ai.R m)))<->∃y∈t,mI y (ai.R m):=Qs;have ho:(∃y∈t.map nm,Fd y (nm (ai.R m)))<->∃y∈t,Fd y (ai.R m):=Qs;simp only[ai.R,ai.bh,ai.iY]at hk ho|-;rw[aM];by_cases hx:C4 m.2.1 ports
 case neg=>rw[if_pos (fun h=>hx (KQ.1 h)),if_pos hx]
 rw[if_neg (not_not_intro (KQ.2 hx)),if_neg (not_not_intro hx)];by_cases h1:m.1=1
 .rw [if_pos h1,if_pos h1];by_cases h2:m.2.2=true/\∃y∈t,Fd y m.2.1
  .rw [if_pos ⟨h2.1,ho.2 h2.2⟩,if_pos h2]
  .rw [if_neg (fun h=>h2 ⟨h.1,ho.1 h.2⟩),if_neg h2];by_cases h3:∃y∈t,mI y m.2.1
   .rw [if_pos (hk.2 h3),if_pos h3,zS (q:=fun y=>tt (mI y m.2.1)) (fun _=>rfl)]
   .rw [if_neg (fun h=>h3 (hk.1 h)),if_neg h3];by_cases h4:aD<=t.length
    .rw [if_pos h4,if_pos h4]
    .rw [if_neg h4,if_neg h4,RX]
 rw[if_neg h1,if_neg h1];by_cases h2:m.1=2
 .rw [if_pos h2,if_pos h2,zS (q:=fun y=>tt (uU (ae.M y) (ae.M m.2.1))) (fun _=>rfl)]
 rw[if_neg h2,if_neg h2];by_cases h4:m.1=4
 .rw [if_pos h4,if_pos h4,zS (q:=fun y=>tt (uU (ae.M y) (ae.M m.2.1))) (fun _=>rfl)]
 rw[if_neg h4,if_neg h4];by_cases h3:m.1=3
 .rw [if_pos h3,if_pos h3];by_cases h5:∃y∈t,mI y m.2.1
  .rw [if_pos (hk.2 h5),if_pos h5,zS (q:=fun y=>tt (mI y m.2.1)) (fun _=>rfl)]
  .rw [if_neg (fun h=>h5 (hk.1 h)),if_neg h5]
 rw[if_neg h3,if_neg h3];by_cases h5:m.1=5
 .rw [if_pos h5,if_pos h5];by_cases h6:∃y∈t,mI y m.2.1
  .rw [if_pos (hk.2 h6),if_pos h6,zS (q:=fun y=>tt (mI y m.2.1)) (fun _=>rfl)]
  .rw [if_neg (fun h=>h6 (hk.1 h)),if_neg h6]
 rw[if_neg h5,if_neg h5]
theorem HF{ports aD:Int}:∀(l:List ai)(t0 t:List ae)(i:Nat),kr (t0.map nm) ports aD (t.map nm) (l.map qJ) i=((kr t0 ports aD t l i).1.map nm,(kr t0 ports aD t l i).2):=by
 intro l;induction l with
 |nil=>intro t0 t i;rfl
 |cons m r ih=>
  intro t0 t i;rw[aq,kr,kr,SY];by_cases hd:(tj t m ports aD).2=0
  .rw [decide_eq_true hd,cond_true,cond_true];exact ih _ _ _
  .rw [decide_eq_false hd];rfl
theorem Qt{α:Type}[Inhabited α]{a b:List α}(h:a.length=b.length):(∀i,i<a.length->gt a i=gt b i)<->a=b:=by
 constructor
 .intro h2;apply List.ext_getElem h;intro i h3 h4;have:=h2 i h3;rwa[gX h3,gX h4]at this
 .intro h _ _;rw[h]
theorem PZ(a b:Sl aT)(hn:a.l.length<9223372036854775808):d_ a b=some (tt (a.l=b.l)):=by
 unfold d_;by_cases e:a.l.length=b.l.length
 case neg=>rw[show((a.l.length:Int) !=(b.l.length:Int))=true by simp;omega,cond_true,eI fun h=>e (by rw[h])]
 rw[show((a.l.length:Int) !=(b.l.length:Int))=false by rw[e];simp,cond_false];rw[x9 (f:=cU a b) a.l.length hn (fun i=>gt a.l i=gt b.l i) () (fun i hi=>?_) (by simp only[cU];rw[decide_eq_false (by omega),cond_false]),cJ (Qt e)]
 .cases tt (a.l=b.l)<;>rfl
 .simp only[cU];rw[decide_eq_true (by omega),cond_true,cB hi,cB (show i<b.l.length by omega)];simp only[ah];rw[fK];cases tt _<;>rfl
theorem Aw(a b:Sl aT)(hn:a.l.length<9223372036854775808):sv a b=some (tt (a.l=b.l)):=by
 unfold sv;by_cases e:a.l.length=b.l.length
 case neg=>rw[show((a.l.length:Int) !=(b.l.length:Int))=true by simp;omega,cond_true,eI fun h=>e (by rw[h])]
 rw[show((a.l.length:Int) !=(b.l.length:Int))=false by rw[e];simp,cond_false];rw[x9 (f:=oJ a b) a.l.length hn (fun i=>gt a.l i=gt b.l i) () (fun i hi=>?_) (by simp only[oJ];rw[decide_eq_false (by omega),cond_false]),cJ (Qt e)]
 .cases tt (a.l=b.l)<;>rfl
 .simp only[oJ];rw[decide_eq_true (by omega),cond_true,cB hi,cB (show i<b.l.length by omega)];simp only[ah];rw[fK];cases tt _<;>rfl
theorem Qj{x y:ae}:nm x=nm y<->mI x y/\(ae.iK x).l=(ae.iK y).l:=by simp only[nm,mI,cF,Sl.mk.injEq,and_assoc]
theorem BS(x y:ae)(hn:(ae.iK x).l.length<9223372036854775808):ou x y=some (tt (nm x=nm y)):=by
 unfold ou;rw[vS,cJ Qj];simp only[ah];by_cases h:mI x y
 .rw [iC h,cond_true];simp only[wu];rw[PZ _ _ hn];exact congrArg some (cJ ⟨fun h2=>⟨h,h2⟩,fun h2=>h2.2⟩)
 .rw [eI h,eI fun h2=>h h2.1];rfl
theorem Av(x y:ae)(hn:(ae.iK x).l.length<9223372036854775808):su x y=some (tt (nm x=nm y)):=by
 unfold su;rw[show(((ae.c9 x)==(ae.c9 y))&&(decide ((ae.M x)=(ae.M y))))=tt (mI x y)by unfold mI;rw[show(ae.c9 x==ae.c9 y)=tt (ae.c9 x=ae.c9 y)from fK,fK,ol],cJ Qj];by_cases h:mI x y
 .rw [iC h,cond_true,Aw _ _ hn];exact congrArg some (cJ ⟨fun h2=>⟨h,h2⟩,fun h2=>h2.2⟩)
 .rw [eI h,eI fun h2=>h h2.1];rfl
theorem Ru{a b:ai}:qJ a=qJ b<->(ai.bh a=ai.bh b/\ai.iY a=ai.iY b)/\nm (ai.R a)=nm (ai.R b):=by
 have:qJ a=qJ b<->ai.bh a=ai.bh b/\nm (ai.R a)=nm (ai.R b)/\ai.iY a=ai.iY b:=by rw[cF,cF]
 rw[this];exact⟨fun h=>⟨⟨h.1,h.2.2⟩,h.2.1⟩,fun h=>⟨h.1.1,h.2,h.1.2⟩⟩
theorem Vq(a b:ai):(((ai.bh a)==(ai.bh b))&&((ai.iY a)==(ai.iY b)))=tt (ai.bh a=ai.bh b/\ai.iY a=ai.iY b):=by rw[show(ai.bh a==ai.bh b)=tt (ai.bh a=ai.bh b)from fK,show(ai.iY a==ai.iY b)=tt (ai.iY a=ai.iY b)by cases ai.iY a<;>cases ai.iY b<;>simp[tt],ol]
theorem N1(a b:ai)(hn:(ae.iK (ai.R a)).l.length<9223372036854775808):nk a b=some (tt (qJ a=qJ b)):=by
 unfold nk;rw[Vq,cJ Ru];by_cases h:ai.bh a=ai.bh b/\ai.iY a=ai.iY b
 .rw [iC h,cond_true,BS _ _ hn];exact congrArg some (cJ ⟨fun h2=>⟨h,h2⟩,fun h2=>h2.2⟩)
 .rw [eI h,eI fun h2=>h h2.1];rfl
theorem Gb{α β:Type}[Inhabited α]{f:α->β}{a b:List α}(h:a.map f=b.map f):a.length=b.length/\∀i,i<a.length->f (gt a i)=f (gt b i):=by
 have hl:a.length=b.length:=by simpa using congrArg List.length h
 refine⟨hl,fun i hi=>?_⟩;have h1:(a.map f)[i]'(by simpa using hi)=(b.map f)[i]'(by rw[aM];omega):=by simp only[h]
 rw[List.getElem_map,List.getElem_map]at h1;rw[gX hi,gX (show i<b.length by omega)];exact h1
theorem KN(a b:Sl ae)(e:a.l.map nm=b.l.map nm)(hn:a.l.length<9223372036854775808)(ha:∀x∈a.l,(ae.iK x).l.length<9223372036854775808):qC a b=some true:=by
 obtain⟨hl,hg⟩:=Gb e;unfold qC;rw[show((a.l.length:Int) !=(b.l.length:Int))=false by rw[hl];simp,cond_false];rw[x9 (f:=nB a b) a.l.length hn (fun _=>True) () (fun i hi=>?_) (by simp only[nB];rw[decide_eq_false (by omega),cond_false]),iC fun _ _=>trivial]
 .rfl
 .rw [iC trivial];simp only[nB];rw[decide_eq_true (by omega),cond_true,cB hi,cB (show i<b.l.length by omega)];simp only[ah];rw[Av _ _ (ha _ (gy hi)),iC (hg i hi)];rfl
theorem pig:∀(n:Nat)(ks:List Nat),ks.Nodup->(∀k∈ks,k<n)->ks.length<=n/\(ks.length<n<->∃j,j<n/\j∉ks):=by
 intro n;induction n with
 |zero=>intro ks _ h;cases ks with|nil=>exact⟨Nat.le_refl 0,⟨fun h=>absurd h (Nat.lt_irrefl 0),fun⟨j,hj,_⟩=>absurd hj (Nat.not_lt_zero j)⟩⟩|cons k ks=>exact absurd (h k (by simp)) (Nat.not_lt_zero k)
 |succ n ih=>
  intro ks hd h;by_cases hm:n∈ks
  .obtain ⟨h1,h2⟩:=ih (ks.erase n) (hd.erase n) fun k hk=>by obtain⟨h3,h4⟩:=(hd.mem_erase_iff).1 hk;have:=h k h4;omega
   have hl:(ks.erase n).length=ks.length-1:=List.length_erase_of_mem hm;have hp:0<ks.length:=List.length_pos_of_mem hm;refine⟨by omega,?_⟩;have e:ks.length<n+1<->(ks.erase n).length<n:=by omega
   rw[e,h2];constructor
   .rintro ⟨j,hj,hj2⟩;exact⟨j,by omega,fun hk=>hj2 (hd.mem_erase_iff.2 ⟨by omega,hk⟩)⟩
   .rintro ⟨j,hj,hj2⟩;have hne:j≠n:=fun e=>hj2 (e▸hm);exact⟨j,by omega,fun hk=>hj2 (hd.mem_erase_iff.1 hk).2⟩
  .obtain ⟨h1,_⟩:=ih ks hd fun k hk=>by have:=h k hk;have:k≠n:=fun e=>hm (e▸hk);omega
   exact⟨by omega,fun _=>⟨n,by omega,hm⟩,fun _=>by omega⟩
end Go.Proofs.YtjjajcecekocdaaGreat.A
