/- Topologies: what Near answers, of the program and of the reference. Conditions: a topology that may be. -/
import Derived.Test.YtoekkpmeeclpeaaGreatSF
import Derived.Test.YtoekkpmeeclpeaaGreatSm
open List renaming append_assoc->aM,append_nil->aV,getElem?_eq_getElem->ao,getElem_mem->eN,length_append->ap,mem_append_left->aU,mem_filter->jl,mem_flatMap->cm,mem_map->br,mem_of_getElem?->aF,mem_range->eG,mem_zipIdx_iff_getElem?->ip,nil_append->cz,pairwise_iff_getElem->ji,range->bm
open Option renaming bind_some->ae,map_eq_some_iff->aH
open Go.Ev Go Go.Fl
namespace Go.Proofs.YtoekkpmeeclpeaaGreat.S
def LP(a b:aw):Bool:=decide (a.fB<b.fB)
theorem Di:za LP:=⟨fun x=>decide_eq_false (by omega),fun x y z h1 h2=>by
 have h1:=of_decide_eq_true h1;have h2:=of_decide_eq_true h2;exact decide_eq_true (by omega),fun x y z h1 h2=>by
 have h1:=of_decide_eq_false h1;have h2:=of_decide_eq_false h2;exact decide_eq_false (by omega)⟩
theorem Kl:O8 qH LP (fun _=>True):=fun x y _ _=>by
 refine⟨_,by unfold qH;rw[Gc];rfl,?_⟩;unfold LP;rcases Int.lt_trichotomy x.fB y.fB with h|h|h
 .rw [sq h,decide_eq_true h];rfl
 .rw [zn h,decide_eq_false (show¬x.fB<y.fB by omega)];rfl
 .rw [sv h,decide_eq_false (show¬x.fB<y.fB by omega)];rfl
theorem Nw{n:Nat}(h:n<=12):∃r,oO (wr .u64 (n:Int))=some r:=by
 have:∀k:Fin 13,(oO (wr .u64 (k.val:Int))).isSome=true:=by decide+kernel
 exact Option.isSome_iff_exists.1 (this ⟨n,by omega⟩)
def qJ(sw:Int)(i:Nat)(x:aS):List aw:=(if x.A=sw then[⟨x.iB,x.B,(i:Int)⟩]else[])++(if x.B=sw then[⟨x.iA,x.A,(i:Int)⟩]else[])
def mL(t:ai)(sw:Int):List aw:=t.aE.l.zipIdx.flatMap fun p=>qJ sw p.2 p.1
theorem J6(sw:Int)(i:Nat)(x:aS):(qJ sw i x).length<=2:=by unfold qJ;split<;>split<;>simp
theorem w9(sw:Int):∀(l:List (aS×Nat)),(l.flatMap fun p=>qJ sw p.2 p.1).length<=2*l.length
 |[]=>by simp
 |x::l=>by have:=w9 sw l;have:=J6 sw x.2 x.1;simp only[List.flatMap_cons,ap,List.length_cons];omega
theorem p_{α:Type}{l:List α}:(Sl.mk l).l=l:=rfl
theorem MD{t:ai}(sw:Int)(hl:t.aE.l.length<=100):∃s,aP (jm t sw) (0,Sl.nil)=some s/\s.l=mL t sw:=by
 obtain⟨s,h1,h2⟩:=UR (f:=jm t sw) t.aE.l (fun i x=>qJ sw i x) .nil (by omega) (fun i s hi hs=>by
  have hcap:∀(l:List aw),l.length<=4->kc (s.l++l)=some (s.l++l):=fun l h=>u4 (by have:=w9 sw ((t.aE.l.take i).zipIdx);simp only[List.length_zipIdx,List.length_take]at this;rw[hs,ap,ap];have e:(Sl.nil:Sl aw).l.length=0:=rfl;omega);have hcap2:∀(l m:List aw),l.length<=2->m.length<=2->kc ((s.l++l)++m)=some ((s.l++l)++m):=fun l m h1 h2=>by rw[aM];exact hcap _ (by rw[ap];omega)
  by_cases ca:(gt t.aE.l i).A=sw
  .have b1:((gt t.aE.l i).A==sw)=true:=by simpa using ca
   by_cases cb:(gt t.aE.l i).B=sw
   .have b2:((gt t.aE.l i).B==sw)=true:=by simpa using cb
    exact⟨.mk ((s.l++[⟨(gt t.aE.l i).iB,(gt t.aE.l i).B,(i:Int)⟩])++[⟨(gt t.aE.l i).iA,(gt t.aE.l i).A,(i:Int)⟩]),by
     simp only[jm,nm hi,cond_true,dA hi,ae,b1,b2,hcap _ (show([_]:List aw).length<=4 by simp),p_,hcap2 _ _ (show([_]:List aw).length<=2 by simp) (show([_]:List aw).length<=2 by simp)],by
     simp only[qJ,if_pos ca,if_pos cb,p_,aM]⟩
   .have b2:((gt t.aE.l i).B==sw)=false:=by simpa using cb
    exact⟨.mk (s.l++[⟨(gt t.aE.l i).iB,(gt t.aE.l i).B,(i:Int)⟩]),by
     simp only[jm,nm hi,cond_true,dA hi,ae,b1,b2,cond_false,hcap _ (show([_]:List aw).length<=4 by simp)],by
     simp only[qJ,if_pos ca,if_neg cb,p_,aV]⟩
  .have b1:((gt t.aE.l i).A==sw)=false:=by simpa using ca
   by_cases cb:(gt t.aE.l i).B=sw
   .have b2:((gt t.aE.l i).B==sw)=true:=by simpa using cb
    exact⟨.mk (s.l++[⟨(gt t.aE.l i).iA,(gt t.aE.l i).A,(i:Int)⟩]),by
     simp only[jm,nm hi,cond_true,dA hi,ae,b1,b2,cond_false,hcap _ (show([_]:List aw).length<=4 by simp)],by
     simp only[qJ,if_neg ca,if_pos cb,p_,cz]⟩
   .have b2:((gt t.aE.l i).B==sw)=false:=by simpa using cb
    exact⟨s,by simp only[jm,nm hi,cond_true,dA hi,ae,b1,b2,cond_false],by simp only[qJ,if_neg ca,if_neg cb,aV]⟩) (fun s=>by simp only[jm,qw,cond_false])
 exact⟨s,h1,by rw[h2];rfl⟩
theorem Ja{t:ai}{sw:Int}{x:aw}:x∈mL t sw<->∃(i:Nat)(l:aS),t.aE.l[i]?=some l/\x∈qJ sw i l:=by
 unfold mL;rw[cm];constructor
 .rintro ⟨⟨l,i⟩,h1,h2⟩;exact⟨i,l,by rw[ip]at h1;exact h1,h2⟩
 .rintro ⟨i,l,h1,h2⟩;exact⟨(l,i),by rw[ip];exact h1,h2⟩
theorem rL{sw:Int}{i:Nat}{l:aS}{x:aw}:x∈qJ sw i l<->(∃b,zd l sw x.fB x.To b)/\x.hZ=i:=by
 obtain⟨p,to,k⟩:=x;unfold qJ zd;rw[List.mem_append];constructor
 .rintro (h|h)
  .split at h
   .rename_i hc;obtain⟨rfl,rfl,rfl⟩:p=l.iB/\to=l.B/\k=(i:Int):=by simpa using h
    exact⟨⟨_,.inl ⟨hc.symm,rfl,rfl,rfl⟩⟩,rfl⟩
   .simp at h
  .split at h
   .rename_i hc;obtain⟨rfl,rfl,rfl⟩:p=l.iA/\to=l.A/\k=(i:Int):=by simpa using h
    exact⟨⟨_,.inr ⟨hc.symm,rfl,rfl,rfl⟩⟩,rfl⟩
   .simp at h
 .rintro ⟨⟨b,h⟩,hk⟩;subst hk;rcases h with⟨rfl,rfl,rfl,rfl⟩|⟨rfl,rfl,rfl,rfl⟩
  .left;rw[if_pos rfl];simp
  .right;rw[if_pos rfl];simp
theorem B5{t:ai}(hV:gi t)(sw:Int):(mL t sw).Pairwise (fun a b=>a.fB≠b.fB):=by
 unfold mL;rw[List.pairwise_flatMap];constructor
 .rintro ⟨l,i⟩ hm;rw[ip]at hm;have hl:=hV.Ns l (aF hm);simp only[qJ];split<;>split
  .rename_i h1 h2;exact absurd (h1.trans h2.symm) hl.1
  .simp
  .simp
  .simp
 .rw [ji];intro i j hi hj hij x hx y hy hp;simp only[List.getElem_zipIdx,Nat.zero_add]at hx hy;have hi':i<t.aE.l.length:=by simpa using hi
  have hj':j<t.aE.l.length:=by simpa using hj
  obtain⟨⟨b1,h1⟩,_⟩:=rL.1 hx;obtain⟨⟨b2,h2⟩,_⟩:=rL.1 hy;rw[<-hp]at h2;have:=yG hV (ao hi') (ao hj') h1.xW h2.xW;omega
theorem PL{t:ai}(hV:gi t)(sw:Int):(mL t sw).length<=8:=by
 have h1:((mL t sw).map (·.fB)).Nodup:=by rw[List.Nodup,List.pairwise_map];exact B5 hV sw
 have h2:((mL t sw).map (·.fB))⊆(bm 8).map (fun n=>((n:Nat):Int)):=by intro p hp;obtain⟨x,hx,rfl⟩:=br.1 hp;obtain⟨i,l,h3,h4⟩:=Ja.1 hx;obtain⟨⟨b,h5⟩,_⟩:=rL.1 h4;have hpl:=hV.gZ ⟨sw,x.fB⟩ (by rw[jS];exact aU _ (cm.2 ⟨l,aF h3,h5.xW⟩));have h6:0<=x.fB/\x.fB<8:=hpl.2;exact br.2 ⟨x.fB.toNat,eG.2 (by omega),by omega⟩
 have:=h1.length_le_of_subset h2;simpa using this
def eC(t:ai)(sw:Int):List aw:=(bm 8).filterMap fun p:Nat=>(j9 (qf sw (p:Int)) t.aE.l 0).map fun q=>((p:Int),q.1,q.2.2)
theorem qh{t:ai}(hV:gi t){sw:Int}{x:aw}:x∈eC t sw<->∃(i:Nat)(l:aS)(b:Int),t.aE.l[i]?=some l/\zd l sw x.fB x.To b/\x.hZ=i:=by
 unfold eC;rw[List.mem_filterMap];constructor
 .rintro ⟨p,_,h⟩;obtain⟨⟨a,b,c⟩,h1,rfl⟩:=aH.1 h;obtain⟨j,l,h2,h3,h4⟩:=(EU hV).1 h1;exact⟨j,l,b,h2,h3,h4⟩
 .rintro ⟨i,l,b,h1,h2,h3⟩;have hpl:=hV.gZ ⟨sw,x.fB⟩ (by rw[jS];exact aU _ (cm.2 ⟨l,aF h1,h2.xW⟩));have h6:0<=x.fB/\x.fB<8:=hpl.2;have hp:((x.fB.toNat:Nat):Int)=x.fB:=by omega
  refine⟨x.fB.toNat,eG.2 (by omega),?_⟩;rw[hp,(EU hV).2 ⟨i,l,h1,h2,h3⟩];rfl
theorem Fh(t:ai)(sw:Int):(eC t sw).Pairwise fun a b=>a.fB<b.fB:=by
 unfold eC;rw[List.pairwise_filterMap];refine List.Pairwise.imp ?_ (List.pairwise_lt_range (n:=8));intro p q h x hx y hy;obtain⟨_,_,rfl⟩:=aH.1 hx;obtain⟨_,_,rfl⟩:=aH.1 hy;show(p:Int)<(q:Int)
 omega
theorem CY{A B:List aw}(hA:A.Pairwise fun a b=>a.fB≠b.fB)(hp:A.Perm B):hN LP A B:=by
 intro c;have h1:=hp.filter (yW LP c)
 have h2:(A.filter (yW LP c)).length<=1:=by
  rcases Nat.lt_or_ge 1 (A.filter (yW LP c)).length with h|h
  .exfalso;have h3:=ji.1 (hA.filter (yW LP c)) 0 1 (by omega) h (by omega);have h4:=xh.1 (jl.1 (eN (show 0<(A.filter (yW LP c)).length by omega))).2;have h5:=xh.1 (jl.1 (eN h)).2;have a1:=of_decide_eq_false h4.1;have a2:=of_decide_eq_false h4.2;have a3:=of_decide_eq_false h5.1;have a4:=of_decide_eq_false h5.2;omega
  .exact h
 generalize A.filter (yW LP c)=X at h1 h2;generalize B.filter (yW LP c)=Y at h1;have hl:=h1.length_eq
 match X,Y,h1 with|[],[],_=>rfl|[x],[y],h=>rw[List.perm_singleton.1 h]|_::_::_,_,_=>simp at h2|[],_::_,_=>simp at hl|[_],[],_=>simp at hl|[_],_::_::_,_=>simp at hl
theorem Fi{t:ai}(hV:gi t)(sw:Int):hN LP (eC t sw) (mL t sw):=by
 have h1:(eC t sw).Pairwise fun a b=>a.fB≠b.fB:=(Fh t sw).imp fun h=>by omega
 refine CY h1 ?_;have n1:(eC t sw).Nodup:=h1.imp fun h e=>h (by rw[e]);have n2:(mL t sw).Nodup:=(B5 hV sw).imp fun h e=>h (by rw[e]);refine(List.perm_ext_iff_of_nodup n1 n2).2 fun x=>?_;rw[qh hV,Ja];constructor
 .rintro ⟨i,l,b,h1,h2,h3⟩;exact⟨i,l,h1,rL.2 ⟨⟨b,h2⟩,h3⟩⟩
 .rintro ⟨i,l,h1,h2⟩;obtain⟨⟨b,h3⟩,h4⟩:=rL.1 h2;exact⟨i,l,b,h1,h3,h4⟩
theorem Aq{t:ai}(hV:gi t)(sw:Int):∃s,ot t sw=some s/\s.l=eC t sw:=by
 obtain⟨s,h1,h2⟩:=MD (t:=t) sw (by have:=hV.wS;omega);have hlen:=PL hV sw;rw[<-h2]at hlen;obtain⟨r,hr⟩:=Nw (n:=s.l.length) (by omega)
 have hins:∃s2:Sl aw,cn s 0 (s.l.length:Int)=some s2/\s2.l=eC t sw/\kE s2 s=some ():=by
  cases s with
  |nil=>
   refine⟨Sl.nil,?_,?_,rfl⟩
   .unfold cn;rw[bt (b:=(Sl.nil:Sl aw)) rfl];rfl
   .have h0:mL t sw=[]:=h2.symm;have:=Fi hV sw;rw[h0]at this;have h3:eC t sw=[]:=List.eq_nil_iff_forall_not_mem.2 fun x hx=>by cases(this.xW Di).1 hx
    rw[h3];rfl
  |mk L=>obtain⟨M,m1,m2,m3,m4⟩:=x_ Di Kl (a:=0) (b:=L.length) (X:=[]) (L:=L) (Y:=[]) rfl (by omega) (by have:L.length<=8:=hlen;omega) (fun _ _=>trivial);simp only[cz,aV]at m1;refine⟨Sl.mk M,m1,?_,x6 m2⟩;have h2:L=mL t sw:=h2;refine Mb Di m3 ((Fh t sw).imp fun h=>decide_eq_false (by omega)) (m4.trans ?_);rw[h2];exact(Fi hV sw).symm
 obtain⟨s2,j1,j2,j3⟩:=hins;refine⟨s2,?_,j2⟩;have hw:decide ((wr .i64 ((s.l.length:Int)-0))<=12)=true:=by rw[decide_eq_true_eq,tK (by omega) (by omega)];omega
 unfold ot;rw[h1,ae];unfold dq dU;rw[hr,ae];have hp:aP dw (0,(s.l.length:Int),r,true,true,s)=some s2:=by refine bt ?_;simp only[dw];rw[hw,cond_true,j1,ae,j3,ae]
 rw[hp,ae,ae,j3,ae,ae,j3,ae]
theorem xV{t:ai}(hV:gi t)(sw:Int):∃s,oA t sw=some s/\s.l=eC t sw:=by
 have hb:=hV.wS;unfold oA
 have key:∀(k i:Nat)(s:Sl bJ),i+k=8->s.l=(bm i).filterMap (fun p:Nat=>(j9 (qf sw (p:Int)) t.aE.l 0).map fun q=>((p:Int),q.1,q.2.2))->∃s',aP (mw t sw) ((i:Int),s)=some s'/\s'.l=eC t sw:=by
  intro k;induction k with
  |zero=>
   intro i s hi hs;obtain rfl:i=8:=by omega
   exact⟨s,bt rfl,hs⟩
  |succ k ih=>
   intro i s hi hs;have hl:s.l.length<=i:=by rw[hs];exact Nat.le_trans (List.length_filterMap_le _ _) (by simp)
   have er:(bm (i+1)).filterMap (fun p:Nat=>(j9 (qf sw (p:Int)) t.aE.l 0).map fun q=>(((p:Int),q.1,q.2.2):aw))=s.l++((j9 (qf sw (i:Int)) t.aE.l 0).map fun q=>(((i:Int),q.1,q.2.2):aw)).toList:=by rw[List.range_succ,List.filterMap_append,hs];congr 1
   have hrun:=C6 (t:=t) sw (i:Int) (by omega);unfold MK at hrun;cases hsc:j9 (qf sw (i:Int)) t.aE.l 0 with|none=>rw[hsc]at hrun er;obtain⟨s',i1,i2⟩:=ih (i+1) s (by omega) (by rw[er];simp);refine⟨s',(bX (a':=(((i+1:Nat):Int),s)) ?_).trans i1,i2⟩;simp only[mw];rw[decide_eq_true (by omega),cond_true,hrun,ae];simp only[];rw[cond_false,ae,u_ (by omega)]|some q=>obtain⟨a,b,c⟩:=q;rw[hsc]at hrun er;obtain⟨s',i1,i2⟩:=ih (i+1) (Sl.mk (s.l++[(((i:Int),a,c):aw)])) (by omega) (by rw[er];rfl);refine⟨s',(bX (a':=(((i+1:Nat):Int),Sl.mk (s.l++[(((i:Int),a,c):aw)]))) ?_).trans i1,i2⟩;simp only[mw];rw[decide_eq_true (by omega),cond_true,hrun,ae];simp only[];rw[cond_true,iP.2 ⟨rfl,by rw[ap];simp;omega⟩,ae,ae,u_ (by omega)]
 obtain⟨s',i1,i2⟩:=key 8 0 Sl.nil (by omega) rfl;have i1':aP (mw t sw) (0,Sl.nil)=some s':=i1;rw[i1'];exact⟨s',rfl,i2⟩
end Go.Proofs.YtoekkpmeeclpeaaGreat.S
