/- Steps and trees: both tell the same. Conditions: a topology and weights that may be. -/
import Derived.Test.YtingpmogbibghaaSE
open List renaming ext_getElem->jw,length_append->au,length_filterMap_le->dY,length_range->cV,length_replicate->a_,length_reverse->kF,range->bN,replicate->ak
open Nat renaming le_trans->bt
open Option renaming bind_some->ae
open Go.Ev Go Go.Fl Go.Ways
namespace Go.Proofs.Ytingpmogbibghaa.S
section
variable{t:aj}{L:List Nat}(hV:lF t)(hL:L.length=t.aP.l.length)(hn:∀x∈L,nn x)
def rT(t:aj)(L:List Nat)(c:Nat->Nat)(g:Nat):Nat->Int:=j5 (iF t L) c g (t.ah.toNat-1)
theorem Ic{n g:Nat}(hg:g<n){E:Nat->List (Nat×Nat)}{c:Nat->Nat}:(ak n (-1:Int)).set g 0=bw n (j5 E c g 0):=by
 have e1:ak n (-1:Int)=bw n (fun _=>(-1:Int)):=jw (by simp[bw]) fun j h1 h2=>by simp[bw]
 rw[e1,ng hg];rfl
include hV hL hn in
theorem zu{g:Nat}(hg:g<t.ah.toNat){c:Nat->Nat}(hc:∀i,i<t.ah.toNat->c i<=oK)(hcosts:gD t (dW L) (g:Int)=some (Sl.mk (bw t.ah.toNat c))):
  kc t (dW L) (g:Int)=some (Sl.mk (bw t.ah.toNat (rT t L c g))):=by
 obtain⟨s1,s2,s3⟩:=l_ hV;unfold kc;have hrep:=Eg (x:=-1) s2 s3;rw[<-s1]at hrep;obtain⟨K,k1,k2⟩:=Gz hV hL hn (g:=g) hc;have hnil:(Sl.mk (bw t.ah.toNat c):Sl Nat).fT=false:=rfl;rw[hcosts,ae,hnil,cond_false,hrep,ae,h_,nV (by rw[a_];exact hg),ae,Ic hg (E:=iF t L) (c:=c),k1,ae];congr 1;exact congrArg Sl.mk (gE fun i hi=>Ml (wJ hV L) k2 hi)
variable{c:Nat->Nat}(hc:∀i,i<t.ah.toNat->c i<=oK){b:Sl Int}(hb:b.l=eh L){g:Nat}
include hV hL hn hc hb in
theorem MG{k i:Nat}(hk:k<1000)(hi:i<t.ah.toNat){r:Sl bQ}(hr:r.l=fU t (i:Int)):
  aY (mh b (Sl.mk (eh (bw t.ah.toNat c))) ((k+1:Nat):Int) r (i:Int)) (0,Sl.mk (bw t.ah.toNat (jG t L c g k i)))=some (Sl.mk (bw t.ah.toNat (jG t L c g k (i+1)))):=by
 have hlen8:r.l.length<=8:=by rw[hr];exact bt (dY _ _) (by simp)
 -- after so many q_
 let v:List aE->Int:=fun A=>if j5 (iF t L) c g k i=-1/\(A.any fun x=>jU (iF t L) c i (ed L x)&&(j5 (iF t L) c g k x.To.toNat==(k:Int)))=true then(k:Int)+1 else j5 (iF t L) c g k i
 have key:∀(R A:List aE),r.l=A++R->aY (mh b (Sl.mk (eh (bw t.ah.toNat c))) ((k+1:Nat):Int) r (i:Int)) ((A.length:Int),Sl.mk ((bw t.ah.toNat (jG t L c g k i)).set i (v A)))=some (Sl.mk ((bw t.ah.toNat (jG t L c g k i)).set i (v r.l))):=by
  intro R;induction R with
  |nil=>
   intro A e;have e:r.l=A:=by rw[e,List.append_nil]
   refine(bH ?_).trans (by rw[e]);simp only[mh];rw[e,decide_eq_false (by omega),cond_false]
  |cons x R ih=>
   intro A e;have hj:A.length<r.l.length:=by rw[e];simp
   have hx:gt r.l A.length=x:=by rw[e];exact tH
   have hxm:x∈fU t (i:Int):=by rw[<-hr,e];simp
   obtain⟨k1,k2,k3,k4,k5⟩:=nk hV hxm;have hto:x.To.toNat<t.ah.toNat:=by omega
   have hne:x.To.toNat≠i:=by omega
   have eE:=DX hV hL hn hc hb hi hxm;refine(cz (a':=(((A++[x]).length:Int),Sl.mk ((bw t.ah.toNat (jG t L c g k i)).set i (v (A++[x]))))) ?_).trans (ih (A++[x]) (by rw[e];simp));have hlen:((bw t.ah.toNat (jG t L c g k i)).set i (v A)).length=t.ah.toNat:=by rw[List.length_set,cu]
   have g1:gt ((bw t.ah.toNat (jG t L c g k i)).set i (v A)) i=v A:=by rw[ng hi,g_ hi,if_pos rfl]
   have g2:gt ((bw t.ah.toNat (jG t L c g k i)).set i (v A)) x.To.toNat=jG t L c g k i x.To.toNat:=by rw[ng hi,g_ hto,if_neg hne]
   have hw:wr .i64 (((k+1:Nat):Int)-1)=(k:Int):=by rw[vR (by omega) (by omega)];omega
   simp only[mh];rw[decide_eq_true (by omega),cond_true,h_,nV (by rw[hlen];exact hi),ae,g1,nV hj];simp only[ae];rw[hx,eE,hw];have i1:cZ (bQ.To x) ((bw t.ah.toNat (jG t L c g k i)).set i (v A)).length=some x.To.toNat:=eC.2 ⟨by show x.To=_;omega,by rw[hlen];exact hto⟩;rw[i1];simp only[ae];rw[g2,MH,au];have hr2:=th (E:=iF t L) (c:=c) (g:=g) k i
   have hv:v (A++[x])=if v A=-1/\(jU (iF t L) c i (ed L x)&&(j5 (iF t L) c g k x.To.toNat==(k:Int)))=true then(k:Int)+1 else v A:=by
    show(if _/\((A++[x]).any _)=true then _ else _)=_;rw[List.any_append];by_cases h1:j5 (iF t L) c g k i=-1
    .by_cases h2:(A.any fun x=>jU (iF t L) c i (ed L x)&&(j5 (iF t L) c g k x.To.toNat==(k:Int)))=true
     .have e1:v A=(k:Int)+1:=if_pos ⟨h1,h2⟩;rw[e1,if_pos ⟨h1,by rw[h2];rfl⟩,if_neg (fun q=>absurd q.1 (by omega))]
     .have e1:v A=j5 (iF t L) c g k i:=if_neg fun q=>h2 q.2;have h2:=Bool.eq_false_iff.2 h2;rw[e1,h2];simp
    .have e1:v A=j5 (iF t L) c g k i:=if_neg fun q=>h1 q.1;rw[e1,if_neg fun q=>h1 q.1,if_neg fun q=>h1 q.1]
   by_cases h1:v A=-1
   .have b1:(v A==-1)=true:=beq_iff_eq.2 h1;rw[b1,cond_true];cases h2:(j5 (iF t L) c g k x.To.toNat==(k:Int))with
    |true=>
     rw[cond_true,ae];cases h3:jU (iF t L) c i (ed L x)with
     |true=>
      have hvv:v (A++[x])=(k:Int)+1:=by rw[hv,if_pos ⟨h1,by rw[h2,h3];rfl⟩]
      rw[cond_true,ae,List.set_set,hvv,u4 (by omega)];rfl
     |false=>
      have hvv:v (A++[x])=v A:=by rw[hv,if_neg (by rw[h3];simp)]
      rw[cond_false,ae,hvv,u4 (by omega)];rfl
    |false=>
     have hvv:v (A++[x])=v A:=by rw[hv,if_neg (by rw[h2];simp)]
     rw[cond_false,ae,cond_false,ae,hvv,u4 (by omega)];rfl
   .have b1:(v A==-1)=false:=beq_eq_false_iff_ne.2 h1;have hvv:v (A++[x])=v A:=by rw[hv,if_neg fun q=>h1 q.1]
    rw[b1,cond_false,ae,cond_false,ae,hvv,u4 (by omega)];rfl
 have h0:=key r.l [] rfl
 have e0:(bw t.ah.toNat (jG t L c g k i)).set i (v [])=bw t.ah.toNat (jG t L c g k i):=by
  have:v []=jG t L c g k i i:=by rw[IL];exact if_neg (by simp)
  rw[this,ng hi];refine gE fun j hj=>?_;by_cases h:j=i
  .rw [if_pos h,h]
  .rw [if_neg h]
 have e1:(bw t.ah.toNat (jG t L c g k i)).set i (v r.l)=bw t.ah.toNat (jG t L c g k (i+1)):=by
  have:v r.l=j5 (iF t L) c g (k+1) i:=by rw[C3,J8,iF,List.any_map,hr];rfl
  rw[this,B3 hi]
 rw[e0,e1]at h0;exact h0
include hV hL hn hc hb in
theorem x_(h2:t.bg.l.length<=12)(hg:g<t.ah.toNat)(hcosts:iB t b (g:Int)=some (Sl.mk (eh (bw t.ah.toNat c)))):
  mi t b (g:Int)=some (Sl.mk (bw t.ah.toNat (rT t L c g))):=by
 obtain⟨s1,s2,s3⟩:=l_ hV;unfold mi;have hrl:(eh (bw t.ah.toNat c)).length=t.ah.toNat:=by rw[List.length_map,cu]
 have hL1:aY (kR (Sl.mk (eh (bw t.ah.toNat c)))) (0,Sl.nil)=some (Sl.mk (ak t.ah.toNat (-1))):=by
  have:=z_ (f:=kR (Sl.mk (eh (bw t.ah.toNat c)))) (bN t.ah.toNat) (fun _=>(-1:Int)) (fun i s hi hs=>by
   rw[cV]at hi;simp only[kR];rw[h_,hrl,decide_eq_true (by omega),cond_true,iM.2 ⟨rfl,by rw[au];simp;omega⟩,ae,u4 (by omega)]) (fun s=>by
   simp only[kR,cV];rw[h_,hrl,decide_eq_false (by omega),cond_false])
  rw[this];have e:(bN t.ah.toNat).map (fun _=>(-1:Int))=ak t.ah.toNat (-1):=jw (by simp) fun j h1 h2=>by simp
  rw[e,o9 (by intro h;have:=congrArg List.length h;simp at this;omega)]
 have hround:∀k,k<1000->aY (mg t b (Sl.mk (eh (bw t.ah.toNat c))) ((k+1:Nat):Int)) (0,Sl.mk (bw t.ah.toNat (j5 (iF t L) c g k)))=some (Sl.mk (bw t.ah.toNat (j5 (iF t L) c g (k+1)))):=by
  intro k hk
  have:=Bc (f:=mg t b (Sl.mk (eh (bw t.ah.toNat c))) ((k+1:Nat):Int)) (fun i:Nat=>((i:Int),Sl.mk (bw t.ah.toNat (jG t L c g k i)))) t.ah.toNat (b:=Sl.mk (bw t.ah.toNat (j5 (iF t L) c g (k+1)))) (fun i hi=>by
   obtain⟨r,r1,r2⟩:=xC hV (i:Int);simp only[mg];rw[h_,hrl,decide_eq_true (by omega),cond_true,r1,ae,MG hV hL hn hc hb hk hi r2,ae,u4 (by omega)]) (by
   simp only[mg];rw[h_,hrl,decide_eq_false (by omega),cond_false];congr 2;exact congrArg Sl.mk (gE fun j hj=>if_pos hj))
  have e0:bw t.ah.toNat (jG t L c g k 0)=bw t.ah.toNat (j5 (iF t L) c g k):=gE fun j _=>if_neg (by omega);rw[e0]at this;exact this
 have hL4:=Bc (f:=kQ t b (Sl.mk (eh (bw t.ah.toNat c)))) (fun k:Nat=>(((k+1:Nat):Int),Sl.mk (bw t.ah.toNat (j5 (iF t L) c g k)))) (t.ah.toNat-1) (b:=Sl.mk (bw t.ah.toNat (rT t L c g))) (fun k hk=>by
  simp only[kQ];rw[h_,hrl,decide_eq_true (by omega),cond_true,hround k (by omega),ae,u4 (by omega)]) (by
  simp only[kQ];rw[h_,hrl,decide_eq_false (by omega),cond_false];rfl)
 have e4:aY (kQ t b (Sl.mk (eh (bw t.ah.toNat c)))) (1,Sl.mk (bw t.ah.toNat (j5 (iF t L) c g 0)))=some (Sl.mk (bw t.ah.toNat (rT t L c g))):=hL4;rw[hcosts,ae,hL1,ae,h_,hrl,decide_eq_true (by omega),cond_true,h_,nV (by rw[a_];exact hg),ae,ae,Ic hg (E:=iF t L) (c:=c),e4];rfl
def vU(t:aj)(L:List Nat)(c:Nat->Nat)(g i:Nat):Int:=match(fU t (i:Int)).find? (fun x=>jU (iF t L) c i (ed L x)&&(rT t L c g x.To.toNat+1==rT t L c g i))with|some x=>x.f_|none=>-1
theorem Fu{i:Nat}:(vz t L c i).find? (fun x=>rT t L c g x.To.toNat==rT t L c g i-1)=(fU t (i:Int)).find? (fun x=>jU (iF t L) c i (ed L x)&&(rT t L c g x.To.toNat+1==rT t L c g i)):=by
 unfold vz;rw[List.find?_filter];congr 1;funext x;rw[Bool.eq_iff_iff];simp only[decide_eq_true_eq,Bool.and_eq_true,beq_iff_eq];constructor
 .rintro ⟨a,b⟩;exact⟨a,by omega⟩
 .rintro ⟨a,b⟩;exact⟨a,by omega⟩
include hV in
theorem K5{i:Nat}(hi:i<t.ah.toNat){s:Sl aE}(hs:s.l=vz t L c i){z:List Int}(hz:z.length=t.ah.toNat)(hzi:gt z i=-1):
  aY (jj (Sl.mk (bw t.ah.toNat (rT t L c g))) (i:Int) s) (0,Sl.mk z)=some (Sl.mk (z.set i (vU t L c g i))):=by
 have hlen:s.l.length<=8:=by rw[hs];exact bt (List.length_filter_le _ _) (bt (dY _ _) (by simp))
 have hfr:=th (E:=iF t L) (c:=c) (g:=g) (t.ah.toNat-1) i;have h8:=l_ hV;have hw:wr .i64 (rT t L c g i-1)=rT t L c g i-1:=vR (by unfold rT;omega) (by unfold rT;omega)
 have key:∀(R A:List aE),s.l=A++R->aY (jj (Sl.mk (bw t.ah.toNat (rT t L c g))) (i:Int) s) ((A.length:Int),Sl.mk z)=some (match R.find? (fun x=>rT t L c g x.To.toNat==rT t L c g i-1)with|some x=>Sl.mk (z.set i x.f_)|none=>Sl.mk z):=by
  intro R;induction R with
  |nil=>intro A e;refine bH ?_;simp only[jj];rw[decide_eq_false (by rw[e];simp),cond_false];rfl
  |cons x R ih=>
   intro A e;have hj:A.length<s.l.length:=by rw[e];simp
   have hx:gt s.l A.length=x:=by rw[e];exact tH
   have hxm:x∈fU t (i:Int):=by
    have:x∈vz t L c i:=by rw[<-hs,e];simp
    exact(List.mem_filter.1 this).1
   obtain⟨k1,k2,k3,k4,k5⟩:=nk hV hxm;have hto:x.To.toNat<t.ah.toNat:=by omega
   have i1:cZ (aE.To x) (bw t.ah.toNat (rT t L c g)).length=some x.To.toNat:=eC.2 ⟨by show x.To=_;omega,by rw[cu];exact hto⟩;rw[List.find?_cons];cases hb2:(rT t L c g x.To.toNat==rT t L c g i-1)with|true=>refine bH ?_;simp only[jj];rw[decide_eq_true (by omega),cond_true,nV hj,ae,hx,h_,i1,ae,nV (by rw[cu];exact hi),ae,g_ hto,g_ hi,hw,hb2,cond_true,h_,nV (by omega),ae]|false=>refine(cz (a':=(((A++[x]).length:Int),Sl.mk z)) ?_).trans (ih (A++[x]) (by rw[e];simp));simp only[jj];rw[decide_eq_true (by omega),cond_true,nV hj,ae,hx,h_,i1,ae,nV (by rw[cu];exact hi),ae,g_ hto,g_ hi,hw,hb2,cond_false,u4 (by omega),au];rfl
 have:=key s.l [] rfl;rw[hs,Fu]at this;have e0:aY (jj (Sl.mk (bw t.ah.toNat (rT t L c g))) (i:Int) s) (0,Sl.mk z)=_:=this;rw[e0];unfold vU;congr 1;cases(fU t (i:Int)).find? (fun x=>jU (iF t L) c i (ed L x)&&(rT t L c g x.To.toNat+1==rT t L c g i))with|some x=>rfl|none=>show Sl.mk z=Sl.mk (z.set i (-1));congr 1;rw[<-hzi,oM (by omega),List.set_getElem_self]
def PP(t:aj)(L:List Nat)(c:Nat->Nat)(g:Nat)(p:Int)(i:Nat):Int:=if i=g then p else vU t L c g i
include hV hL hn hc hb in
theorem Jb{i:Nat}(hi:i<t.ah.toNat){r:Sl bQ}(hr:r.l=fU t (i:Int)):
  aY (mU b (Sl.mk (eh (bw t.ah.toNat c))) (Sl.mk (bw t.ah.toNat (rT t L c g))) (i:Int) r) ((-1),wr .i64 ((r.l.length:Int)-1))=some (vU t L c g i):=by
 have hlen8:r.l.length<=8:=by rw[hr];exact bt (dY _ _) (by simp)
 have h8:=l_ hV;have w0:∀k:Nat,k<=8->wr .i64 ((k:Int)-1)=(k:Int)-1:=fun k hk=>vR (by omega) (by omega);rw[w0 _ hlen8]
 have key:∀(A R:List aE),r.l=A.reverse++R->aY (mU b (Sl.mk (eh (bw t.ah.toNat c))) (Sl.mk (bw t.ah.toNat (rT t L c g))) (i:Int) r) ((match R.find? (fun x=>jU (iF t L) c i (ed L x)&&(rT t L c g x.To.toNat+1==rT t L c g i))with|some x=>x.f_|none=>-1),(A.length:Int)-1)=some (match r.l.find? (fun x=>jU (iF t L) c i (ed L x)&&(rT t L c g x.To.toNat+1==rT t L c g i))with|some x=>x.f_|none=>-1):=by
  intro A;induction A with
  |nil=>
   intro R e;have e:r.l=R:=by rw[e];rfl
   refine(bH ?_).trans (by rw[e]);simp only[mU];rw[decide_eq_false (by simp),cond_false]
  |cons x A ih=>
   intro R e;have e':r.l=A.reverse++x::R:=by rw[e];simp
   have hj:A.length<r.l.length:=by rw[e'];simp
   have hx:gt r.l A.length=x:=by rw[e'];have:=tH (A:=A.reverse) (B:=R) (x:=x);rwa[kF]at this
   have hxm:x∈fU t (i:Int):=by rw[<-hr,e'];simp
   obtain⟨k1,k2,k3,k4,k5⟩:=nk hV hxm;have hto:x.To.toNat<t.ah.toNat:=by omega
   have eE:=DX hV hL hn hc hb hi hxm;have hfr:=th (E:=iF t L) (c:=c) (g:=g) (t.ah.toNat-1) x.To.toNat;have hw:wr .i64 (rT t L c g x.To.toNat+1)=rT t L c g x.To.toNat+1:=vR (by unfold rT;omega) (by unfold rT;omega);have i1:cZ (bQ.To x) (bw t.ah.toNat (rT t L c g)).length=some x.To.toNat:=eC.2 ⟨by show x.To=_;omega,by rw[cu];exact hto⟩;have eI:((x::A).length:Int)-1=(A.length:Int):=by simp
   rw[eI];refine(cz (a':=((match(x::R).find? (fun x=>jU (iF t L) c i (ed L x)&&(rT t L c g x.To.toNat+1==rT t L c g i))with|some x=>x.f_|none=>-1),(A.length:Int)-1)) ?_).trans (ih (x::R) e');simp only[mU];rw[decide_eq_true (by omega),cond_true,nV hj];simp only[ae];rw[hx,eE,ae,h_,i1,ae,nV (by rw[cu];exact hi),ae,g_ hto,g_ hi,hw,w0 _ (by omega),List.find?_cons];cases h1:jU (iF t L) c i (ed L x)with
   |true=>rw[cond_true,ae,Bool.true_and];cases h2:(rT t L c g x.To.toNat+1==rT t L c g i)with|true=>rfl|false=>rfl
   |false=>rw[cond_false,ae];rfl
 have:=key r.l.reverse [] (by simp);rw[kF,hr]at this;rw[hr];exact this
variable{h:Nat}(hh:h<t.bg.l.length)
theorem IJ(hV:lF t){h:Nat}(hh:h<t.bg.l.length):0<=(gt t.bg.l h).At/\(gt t.bg.l h).At<t.ah/\0<=(gt t.bg.l h).f_/\(gt t.bg.l h).f_<8:=by have hp:=hV.iK ⟨(gt t.bg.l h).At,(gt t.bg.l h).f_⟩ (by rw[mC];exact List.mem_append_right _ (List.mem_flatMap.2 ⟨gt t.bg.l h,mP hh,by simp[wL]⟩));exact⟨hp.1.1,hp.1.2,hp.2.1,hp.2.2⟩
end
end Go.Proofs.Ytingpmogbibghaa.S
