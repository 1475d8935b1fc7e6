/- Topologies: what Near answers, of the program and of the reference. Conditions: a topology that may be. -/
import Derived.Test.YtingpmogbibghaaSF
import Derived.Test.YtingpmogbibghaaSm
open List renaming append_assoc->aI,append_nil->aV,getElem?_eq_getElem->aB,getElem_mem->ij,length_append->au,mem_append_left->aA,mem_filter->j8,mem_flatMap->cU,mem_map->bv,mem_of_getElem?->aR,mem_range->eF,mem_zipIdx_iff_getElem?->iT,nil_append->bi,pairwise_iff_getElem->jX,range->bN
open Option renaming bind_some->ae,map_eq_some_iff->aG
open Go.Ev Go Go.Fl
namespace Go.Proofs.Ytingpmogbibghaa.S
def KR(a b:aE):Bool:=decide (a.f_<b.f_)
theorem CX:yL KR:=⟨fun x=>decide_eq_false (by omega),fun x y z h1 h2=>by
 have h1:=of_decide_eq_true h1;have h2:=of_decide_eq_true h2;exact decide_eq_true (by omega),fun x y z h1 h2=>by
 have h1:=of_decide_eq_false h1;have h2:=of_decide_eq_false h2;exact decide_eq_false (by omega)⟩
theorem Jy:NQ q8 KR (fun _=>True):=fun x y _ _=>by
 refine⟨_,by unfold q8;rw[FH];rfl,?_⟩;unfold KR;rcases Int.lt_trichotomy x.f_ y.f_ with h|h|h
 .rw [sQ h,decide_eq_true h];rfl
 .rw [yW h,decide_eq_false (show¬x.f_<y.f_ by omega)];rfl
 .rw [sR h,decide_eq_false (show¬x.f_<y.f_ by omega)];rfl
theorem Mn{n:Nat}(h:n<=12):∃r,m7 (wr .u64 (n:Int))=some r:=by
 have:∀k:Fin 13,(m7 (wr .u64 (k.val:Int))).isSome=true:=by decide+kernel
 exact Option.isSome_iff_exists.1 (this ⟨n,by omega⟩)
def q_(sw:Int)(i:Nat)(x:aX):List aE:=(if x.A=sw then[⟨x.jJ,x.B,(i:Int)⟩]else[])++(if x.B=sw then[⟨x.jI,x.A,(i:Int)⟩]else[])
def nh(t:aj)(sw:Int):List aE:=t.aP.l.zipIdx.flatMap fun p=>q_ sw p.2 p.1
theorem Jj(sw:Int)(i:Nat)(x:aX):(q_ sw i x).length<=2:=by unfold q_;split<;>split<;>simp
theorem uh(sw:Int):∀(l:List (aX×Nat)),(l.flatMap fun p=>q_ sw p.2 p.1).length<=2*l.length
 |[]=>by simp
 |x::l=>by have:=uh sw l;have:=Jj sw x.2 x.1;simp only[List.flatMap_cons,au,List.length_cons];omega
theorem H5{α:Type}{l:List α}:(Sl.mk l).l=l:=rfl
theorem Lw{t:aj}(sw:Int)(hl:t.aP.l.length<=100):∃s,aY (jc t sw) (0,Sl.nil)=some s/\s.l=nh t sw:=by
 obtain⟨s,h1,h2⟩:=S5 (f:=jc t sw) t.aP.l (fun i x=>q_ sw i x) .nil (by omega) (fun i s hi hs=>by
  have hcap:∀(l:List aE),l.length<=4->m_ (s.l++l)=some (s.l++l):=fun l h=>Dr (by have:=uh sw ((t.aP.l.take i).zipIdx);simp only[List.length_zipIdx,List.length_take]at this;rw[hs,au,au];have e:(Sl.nil:Sl aE).l.length=0:=rfl;omega);have hcap2:∀(l m:List aE),l.length<=2->m.length<=2->m_ ((s.l++l)++m)=some ((s.l++l)++m):=fun l m h1 h2=>by rw[aI];exact hcap _ (by rw[au];omega)
  by_cases ca:(gt t.aP.l i).A=sw
  .have b1:((gt t.aP.l i).A==sw)=true:=by simpa using ca
   by_cases cb:(gt t.aP.l i).B=sw
   .have b2:((gt t.aP.l i).B==sw)=true:=by simpa using cb
    exact⟨.mk ((s.l++[⟨(gt t.aP.l i).jJ,(gt t.aP.l i).B,(i:Int)⟩])++[⟨(gt t.aP.l i).jI,(gt t.aP.l i).A,(i:Int)⟩]),by
     simp only[jc,vD hi,cond_true,nA hi,ae,b1,b2,hcap _ (show([_]:List aE).length<=4 by simp),H5,hcap2 _ _ (show([_]:List aE).length<=2 by simp) (show([_]:List aE).length<=2 by simp)],by
     simp only[q_,if_pos ca,if_pos cb,H5,aI]⟩
   .have b2:((gt t.aP.l i).B==sw)=false:=by simpa using cb
    exact⟨.mk (s.l++[⟨(gt t.aP.l i).jJ,(gt t.aP.l i).B,(i:Int)⟩]),by
     simp only[jc,vD hi,cond_true,nA hi,ae,b1,b2,cond_false,hcap _ (show([_]:List aE).length<=4 by simp)],by
     simp only[q_,if_pos ca,if_neg cb,H5,aV]⟩
  .have b1:((gt t.aP.l i).A==sw)=false:=by simpa using ca
   by_cases cb:(gt t.aP.l i).B=sw
   .have b2:((gt t.aP.l i).B==sw)=true:=by simpa using cb
    exact⟨.mk (s.l++[⟨(gt t.aP.l i).jI,(gt t.aP.l i).A,(i:Int)⟩]),by
     simp only[jc,vD hi,cond_true,nA hi,ae,b1,b2,cond_false,hcap _ (show([_]:List aE).length<=4 by simp)],by
     simp only[q_,if_neg ca,if_pos cb,H5,bi]⟩
   .have b2:((gt t.aP.l i).B==sw)=false:=by simpa using cb
    exact⟨s,by simp only[jc,vD hi,cond_true,nA hi,ae,b1,b2,cond_false],by simp only[q_,if_neg ca,if_neg cb,aV]⟩) (fun s=>by simp only[jc,Bl,cond_false])
 exact⟨s,h1,by rw[h2];rfl⟩
theorem Ix{t:aj}{sw:Int}{x:aE}:x∈nh t sw<->∃(i:Nat)(l:aX),t.aP.l[i]?=some l/\x∈q_ sw i l:=by
 unfold nh;rw[cU];constructor
 .rintro ⟨⟨l,i⟩,h1,h2⟩;exact⟨i,l,by rw[iT]at h1;exact h1,h2⟩
 .rintro ⟨i,l,h1,h2⟩;exact⟨(l,i),by rw[iT];exact h1,h2⟩
theorem sd{sw:Int}{i:Nat}{l:aX}{x:aE}:x∈q_ sw i l<->(∃b,yN l sw x.f_ x.To b)/\x.iI=i:=by
 obtain⟨p,to,k⟩:=x;unfold q_ yN;rw[List.mem_append];constructor
 .rintro (h|h)
  .split at h
   .rename_i hc;obtain⟨rfl,rfl,rfl⟩:p=l.jJ/\to=l.B/\k=(i:Int):=by simpa using h
    exact⟨⟨_,.inl ⟨hc.symm,rfl,rfl,rfl⟩⟩,rfl⟩
   .simp at h
  .split at h
   .rename_i hc;obtain⟨rfl,rfl,rfl⟩:p=l.jI/\to=l.A/\k=(i:Int):=by simpa using h
    exact⟨⟨_,.inr ⟨hc.symm,rfl,rfl,rfl⟩⟩,rfl⟩
   .simp at h
 .rintro ⟨⟨b,h⟩,hk⟩;subst hk;rcases h with⟨rfl,rfl,rfl,rfl⟩|⟨rfl,rfl,rfl,rfl⟩
  .left;rw[if_pos rfl];simp
  .right;rw[if_pos rfl];simp
theorem BN{t:aj}(hV:lF t)(sw:Int):(nh t sw).Pairwise (fun a b=>a.f_≠b.f_):=by
 unfold nh;rw[List.pairwise_flatMap];constructor
 .rintro ⟨l,i⟩ hm;rw[iT]at hm;have hl:=hV.Mi l (aR hm);simp only[q_];split<;>split
  .rename_i h1 h2;exact absurd (h1.trans h2.symm) hl.1
  .simp
  .simp
  .simp
 .rw [jX];intro i j hi hj hij x hx y hy hp;simp only[List.getElem_zipIdx,Nat.zero_add]at hx hy;have hi':i<t.aP.l.length:=by simpa using hi
  have hj':j<t.aP.l.length:=by simpa using hj
  obtain⟨⟨b1,h1⟩,_⟩:=sd.1 hx;obtain⟨⟨b2,h2⟩,_⟩:=sd.1 hy;rw[<-hp]at h2;have:=yh hV (aB hi') (aB hj') h1.Bj h2.Bj;omega
theorem Ou{t:aj}(hV:lF t)(sw:Int):(nh t sw).length<=8:=by
 have h1:((nh t sw).map (·.f_)).Nodup:=by rw[List.Nodup,List.pairwise_map];exact BN hV sw
 have h2:((nh t sw).map (·.f_))⊆(bN 8).map (fun n=>((n:Nat):Int)):=by intro p hp;obtain⟨x,hx,rfl⟩:=bv.1 hp;obtain⟨i,l,h3,h4⟩:=Ix.1 hx;obtain⟨⟨b,h5⟩,_⟩:=sd.1 h4;have hpl:=hV.iK ⟨sw,x.f_⟩ (by rw[mC];exact aA _ (cU.2 ⟨l,aR h3,h5.Bj⟩));have h6:0<=x.f_/\x.f_<8:=hpl.2;exact bv.2 ⟨x.f_.toNat,eF.2 (by omega),by omega⟩
 have:=h1.length_le_of_subset h2;simpa using this
def fU(t:aj)(sw:Int):List aE:=(bN 8).filterMap fun p:Nat=>(mB (qz sw (p:Int)) t.aP.l 0).map fun q=>((p:Int),q.1,q.2.2)
theorem wD{t:aj}(hV:lF t){sw:Int}{x:aE}:x∈fU t sw<->∃(i:Nat)(l:aX)(b:Int),t.aP.l[i]?=some l/\yN l sw x.f_ x.To b/\x.iI=i:=by
 unfold fU;rw[List.mem_filterMap];constructor
 .rintro ⟨p,_,h⟩;obtain⟨⟨a,b,c⟩,h1,rfl⟩:=aG.1 h;obtain⟨j,l,h2,h3,h4⟩:=(Er hV).1 h1;exact⟨j,l,b,h2,h3,h4⟩
 .rintro ⟨i,l,b,h1,h2,h3⟩;have hpl:=hV.iK ⟨sw,x.f_⟩ (by rw[mC];exact aA _ (cU.2 ⟨l,aR h1,h2.Bj⟩));have h6:0<=x.f_/\x.f_<8:=hpl.2;have hp:((x.f_.toNat:Nat):Int)=x.f_:=by omega
  refine⟨x.f_.toNat,eF.2 (by omega),?_⟩;rw[hp,(Er hV).2 ⟨i,l,h1,h2,h3⟩];rfl
theorem EU(t:aj)(sw:Int):(fU t sw).Pairwise fun a b=>a.f_<b.f_:=by
 unfold fU;rw[List.pairwise_filterMap];refine List.Pairwise.imp ?_ (List.pairwise_lt_range (n:=8));intro p q h x hx y hy;obtain⟨_,_,rfl⟩:=aG.1 hx;obtain⟨_,_,rfl⟩:=aG.1 hy;show(p:Int)<(q:Int)
 omega
theorem CG{A B:List aE}(hA:A.Pairwise fun a b=>a.f_≠b.f_)(hp:A.Perm B):iE KR A B:=by
 intro c;have h1:=hp.filter (yE KR c)
 have h2:(A.filter (yE KR c)).length<=1:=by
  rcases Nat.lt_or_ge 1 (A.filter (yE KR c)).length with h|h
  .exfalso;have h3:=jX.1 (hA.filter (yE KR c)) 0 1 (by omega) h (by omega);have h4:=wO.1 (j8.1 (ij (show 0<(A.filter (yE KR c)).length by omega))).2;have h5:=wO.1 (j8.1 (ij h)).2;have a1:=of_decide_eq_false h4.1;have a2:=of_decide_eq_false h4.2;have a3:=of_decide_eq_false h5.1;have a4:=of_decide_eq_false h5.2;omega
  .exact h
 generalize A.filter (yE KR c)=X at h1 h2;generalize B.filter (yE KR c)=Y at h1;have hl:=h1.length_eq
 match X,Y,h1 with|[],[],_=>rfl|[x],[y],h=>rw[List.perm_singleton.1 h]|_::_::_,_,_=>simp at h2|[],_::_,_=>simp at hl|[_],[],_=>simp at hl|[_],_::_::_,_=>simp at hl
theorem EW{t:aj}(hV:lF t)(sw:Int):iE KR (fU t sw) (nh t sw):=by
 have h1:(fU t sw).Pairwise fun a b=>a.f_≠b.f_:=(EU t sw).imp fun h=>by omega
 refine CG h1 ?_;have n1:(fU t sw).Nodup:=h1.imp fun h e=>h (by rw[e]);have n2:(nh t sw).Nodup:=(BN hV sw).imp fun h e=>h (by rw[e]);refine(List.perm_ext_iff_of_nodup n1 n2).2 fun x=>?_;rw[wD hV,Ix];constructor
 .rintro ⟨i,l,b,h1,h2,h3⟩;exact⟨i,l,h1,sd.2 ⟨⟨b,h2⟩,h3⟩⟩
 .rintro ⟨i,l,h1,h2⟩;obtain⟨⟨b,h3⟩,h4⟩:=sd.1 h2;exact⟨i,l,b,h1,h3,h4⟩
theorem EV{t:aj}(hV:lF t)(sw:Int):∃s,oQ t sw=some s/\s.l=fU t sw:=by
 obtain⟨s,h1,h2⟩:=Lw (t:=t) sw (by have:=hV.yi;omega);have hlen:=Ou hV sw;rw[<-h2]at hlen;obtain⟨r,hr⟩:=Mn (n:=s.l.length) (by omega)
 have hins:∃s2:Sl aE,bz s 0 (s.l.length:Int)=some s2/\s2.l=fU t sw/\jF s2 s=some ():=by
  cases s with
  |nil=>
   refine⟨Sl.nil,?_,?_,rfl⟩
   .unfold bz;rw[bH (b:=(Sl.nil:Sl aE)) rfl];rfl
   .have h0:nh t sw=[]:=h2.symm;have:=EW hV sw;rw[h0]at this;have h3:fU t sw=[]:=List.eq_nil_iff_forall_not_mem.2 fun x hx=>by cases(this.Bj CX).1 hx
    rw[h3];rfl
  |mk L=>obtain⟨M,m1,m2,m3,m4⟩:=xL CX Jy (a:=0) (b:=L.length) (X:=[]) (L:=L) (Y:=[]) rfl (by omega) (by have:L.length<=8:=hlen;omega) (fun _ _=>trivial);simp only[bi,aV]at m1;refine⟨Sl.mk M,m1,?_,xH m2⟩;have h2:L=nh t sw:=h2;refine Lb CX m3 ((EU t sw).imp fun h=>decide_eq_false (by omega)) (m4.trans ?_);rw[h2];exact(EW hV sw).symm
 obtain⟨s2,j1,j2,j3⟩:=hins;refine⟨s2,?_,j2⟩;have hw:decide ((wr .i64 ((s.l.length:Int)-0))<=12)=true:=by rw[decide_eq_true_eq,vR (by omega) (by omega)];omega
 unfold oQ;rw[h1,ae];unfold b_ ct;rw[hr,ae];have hp:aY ci (0,(s.l.length:Int),r,true,true,s)=some s2:=by refine bH ?_;simp only[ci];rw[hw,cond_true,j1,ae,j3,ae]
 rw[hp,ae,ae,j3,ae,ae,j3,ae]
end Go.Proofs.Ytingpmogbibghaa.S
