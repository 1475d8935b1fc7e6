/- Steps and trees: both tell the same. Conditions: a topology and weights that may be. -/
import Derived.Test.YtoekkpmeeclpeaaGreatSE
import Derived.Test.YtoekkpmeeclpeaaGreatST
open Bool renaming and_eq_true->ax,eq_false_iff->vC,eq_iff_iff->cF,false_or->sL,not_false->fq,not_true->bX,or_eq_false_iff->bV,true_and->fV
open List renaming ext_getElem->gi,getElem_mem->cW,getElem_of_mem->fD,length->eg,length_append->au,length_filterMap_le->eS,length_range->bB,length_replicate->bz,length_singleton->aH,map_append->dm,mem_flatMap->bL,mem_map->aR,mem_of_getElem?->bA,mem_range->ct,mem_singleton->aB,range->aG,range_succ->ii,replicate->az
open Nat renaming le_refl->aw,le_trans->bg
open Option renaming bind_some->aa
open Option.some renaming inj->af,injEq->eZ
open Go.Ev Go Go.Fl Go.Ways
noncomputable section
namespace Go.Proofs.YtoekkpmeeclpeaaGreat.S
section
variable{t:am}{L:List Nat}(hV:gB t)(hL:L.length=t.aS.l.length)(hn:∀x∈L,nn x)
def xE(t:am)(L:List Nat)(c:Nat->Nat)(g:Nat):Nat->Int:=mu (jI t L) c g (t.ao.toNat-1)
theorem SY{n g:Nat}(hg:g<n){E:Nat->List (Nat×Nat)}{c:Nat->Nat}:(az n (-1:Int)).set g 0=dK n (mu E c g 0):=by
 have e1:az n (-1:Int)=dK n (fun _=>(-1:Int)):=gi (by simp[dK]) fun j h1 h2=>by simp[dK]
 rw[e1,sM hg];rfl
include hV hL hn in
theorem QV{g:Nat}(hg:g<t.ao.toNat){c:Nat->Nat}(hc:∀i,i<t.ao.toNat->c i<=vJ)(hcosts:mE t (f9 L) (g:Int)=some (Sl.mk (dK t.ao.toNat c))):
  tV t (f9 L) (g:Int)=some (Sl.mk (dK t.ao.toNat (xE t L c g))):=by
 obtain⟨s1,s2,s3⟩:=rA hV;unfold tV;have hrep:=Jz (x:=-1) s2 s3;rw[<-s1]at hrep;obtain⟨K,k1,k2⟩:=Q9 hV hL hn (g:=g) hc;have hnil:(Sl.mk (dK t.ao.toNat c):Sl Nat).rp=false:=rfl;rw[hcosts,aa,hnil,cond_false,hrep,aa,jX,Bw (by rw[bz];exact hg),aa,SY hg (E:=jI t L) (c:=c),k1,aa];congr 1;exact congrArg Sl.mk (iP fun i hi=>Zf (Ge hV L) k2 hi)
variable{c:Nat->Nat}(hc:∀i,i<t.ao.toNat->c i<=vJ){b:Sl Int}(hb:b.l=gM L){g:Nat}
include hV hL hn hc hb in
theorem Zx{k i:Nat}(hk:k<1000)(hi:i<t.ao.toNat){r:Sl cZ}(hr:r.l=gd t (i:Int)):
  aJ (qw b (Sl.mk (gM (dK t.ao.toNat c))) ((k+1:Nat):Int) r (i:Int)) (0,Sl.mk (dK t.ao.toNat (lV t L c g k i)))=some (Sl.mk (dK t.ao.toNat (lV t L c g k (i+1)))):=by
 have hlen8:r.l.length<=8:=by rw[hr];exact bg (eS _ _) (by simp)
 -- after so many zY
 let v:List aM->Int:=fun A=>if mu (jI t L) c g k i=-1/\(A.any fun x=>b9 (jI t L) c i (ed L x)&&(mu (jI t L) c g k x.To.toNat==(k:Int)))=true then(k:Int)+1 else mu (jI t L) c g k i
 have key:∀(R A:List aM),r.l=A++R->aJ (qw b (Sl.mk (gM (dK t.ao.toNat c))) ((k+1:Nat):Int) r (i:Int)) ((A.length:Int),Sl.mk ((dK t.ao.toNat (lV t L c g k i)).set i (v A)))=some (Sl.mk ((dK t.ao.toNat (lV t L c g k i)).set i (v r.l))):=by
  intro R;induction R with
  |nil=>
   intro A e;have e:r.l=A:=by rw[e,List.append_nil]
   refine(bW ?_).trans (by rw[e]);simp only[qw];rw[e,decide_eq_false (by omega),cond_false]
  |cons x R ih=>
   intro A e;have hj:A.length<r.l.length:=by rw[e];simp
   have hx:gt r.l A.length=x:=by rw[e];exact Gd
   have hxm:x∈gd t (i:Int):=by rw[<-hr,e];simp
   obtain⟨k1,k2,k3,k4,k5⟩:=qY hV hxm;have hto:x.To.toNat<t.ao.toNat:=by omega
   have hne:x.To.toNat≠i:=by omega
   have gj:=Og hV hL hn hc hb hi hxm;refine(dD (a':=(((A++[x]).length:Int),Sl.mk ((dK t.ao.toNat (lV t L c g k i)).set i (v (A++[x]))))) ?_).trans (ih (A++[x]) (by rw[e];simp));have hlen:((dK t.ao.toNat (lV t L c g k i)).set i (v A)).length=t.ao.toNat:=by rw[List.length_set,eo]
   have g1:gt ((dK t.ao.toNat (lV t L c g k i)).set i (v A)) i=v A:=by rw[sM hi,jt hi,if_pos rfl]
   have g2:gt ((dK t.ao.toNat (lV t L c g k i)).set i (v A)) x.To.toNat=lV t L c g k i x.To.toNat:=by rw[sM hi,jt hto,if_neg hne]
   have hw:wr .i64 (((k+1:Nat):Int)-1)=(k:Int):=by rw[gZ (by omega) (by omega)];omega
   simp only[qw];rw[decide_eq_true (by omega),cond_true,jX,Bw (by rw[hlen];exact hi),aa,g1,Bw hj];simp only[aa];rw[hx,gj,hw];have i1:bS (cZ.To x) ((dK t.ao.toNat (lV t L c g k i)).set i (v A)).length=some x.To.toNat:=jy.2 ⟨by show x.To=_;omega,by rw[hlen];exact hto⟩;rw[i1];simp only[aa];rw[g2,Zy,au];have hr2:=yc (E:=jI t L) (c:=c) (g:=g) k i
   have hv:v (A++[x])=if v A=-1/\(b9 (jI t L) c i (ed L x)&&(mu (jI t L) c g k x.To.toNat==(k:Int)))=true then(k:Int)+1 else v A:=by
    show(if _/\((A++[x]).any _)=true then _ else _)=_;rw[List.any_append];by_cases h1:mu (jI t L) c g k i=-1
    .by_cases h2:(A.any fun x=>b9 (jI t L) c i (ed L x)&&(mu (jI t L) c g k x.To.toNat==(k:Int)))=true
     .have e1:v A=(k:Int)+1:=if_pos ⟨h1,h2⟩;rw[e1,if_pos ⟨h1,by rw[h2];rfl⟩,if_neg (fun q=>absurd q.1 (by omega))]
     .have e1:v A=mu (jI t L) c g k i:=if_neg fun q=>h2 q.2;have h2:=vC.2 h2;rw[e1,h2];simp
    .have e1:v A=mu (jI t L) c g k i:=if_neg fun q=>h1 q.1;rw[e1,if_neg fun q=>h1 q.1,if_neg fun q=>h1 q.1]
   by_cases h1:v A=-1
   .have b1:(v A==-1)=true:=beq_iff_eq.2 h1;rw[b1,cond_true];cases h2:(mu (jI t L) c g k x.To.toNat==(k:Int))with
    |true=>
     rw[cond_true,aa];cases h3:b9 (jI t L) c i (ed L x)with
     |true=>
      have hvv:v (A++[x])=(k:Int)+1:=by rw[hv,if_pos ⟨h1,by rw[h2,h3];rfl⟩]
      rw[cond_true,aa,List.set_set,hvv,Fp (by omega)];rfl
     |false=>
      have hvv:v (A++[x])=v A:=by rw[hv,if_neg (by rw[h3];simp)]
      rw[cond_false,aa,hvv,Fp (by omega)];rfl
    |false=>
     have hvv:v (A++[x])=v A:=by rw[hv,if_neg (by rw[h2];simp)]
     rw[cond_false,aa,cond_false,aa,hvv,Fp (by omega)];rfl
   .have b1:(v A==-1)=false:=beq_eq_false_iff_ne.2 h1;have hvv:v (A++[x])=v A:=by rw[hv,if_neg fun q=>h1 q.1]
    rw[b1,cond_false,aa,cond_false,aa,hvv,Fp (by omega)];rfl
 have h0:=key r.l [] rfl
 have e0:(dK t.ao.toNat (lV t L c g k i)).set i (v [])=dK t.ao.toNat (lV t L c g k i):=by
  have:v []=lV t L c g k i i:=by rw[TU];exact if_neg (by simp)
  rw[this,sM hi];refine iP fun j hj=>?_;by_cases h:j=i
  .rw [if_pos h,h]
  .rw [if_neg h]
 have e1:(dK t.ao.toNat (lV t L c g k i)).set i (v r.l)=dK t.ao.toNat (lV t L c g k (i+1)):=by
  have:v r.l=mu (jI t L) c g (k+1) i:=by rw[Nm,V2,jI,List.any_map,hr];rfl
  rw[this,Mh hi]
 rw[e0,e1]at h0;exact h0
include hV hL hn hc hb in
theorem Oe(h2:t.aU.l.length<=12)(hg:g<t.ao.toNat)(hcosts:qD t b (g:Int)=some (Sl.mk (gM (dK t.ao.toNat c)))):
  z8 t b (g:Int)=some (Sl.mk (dK t.ao.toNat (xE t L c g))):=by
 obtain⟨s1,s2,s3⟩:=rA hV;unfold z8;have hrl:(gM (dK t.ao.toNat c)).length=t.ao.toNat:=by rw[List.length_map,eo]
 have hL1:aJ (qx (Sl.mk (gM (dK t.ao.toNat c)))) (0,Sl.nil)=some (Sl.mk (az t.ao.toNat (-1))):=by
  have:=Li (f:=qx (Sl.mk (gM (dK t.ao.toNat c)))) (aG t.ao.toNat) (fun _=>(-1:Int)) (fun i s hi hs=>by
   rw[bB]at hi;simp only[qx];rw[jX,hrl,decide_eq_true (by omega),cond_true,mz.2 ⟨rfl,by rw[au];simp;omega⟩,aa,Fp (by omega)]) (fun s=>by
   simp only[qx,bB];rw[jX,hrl,decide_eq_false (by omega),cond_false])
  rw[this];have e:(aG t.ao.toNat).map (fun _=>(-1:Int))=az t.ao.toNat (-1):=gi (by simp) fun j h1 h2=>by simp
  rw[e,xW (by intro h;have:=congrArg eg h;simp at this;omega)]
 have hround:∀k,k<1000->aJ (qv t b (Sl.mk (gM (dK t.ao.toNat c))) ((k+1:Nat):Int)) (0,Sl.mk (dK t.ao.toNat (mu (jI t L) c g k)))=some (Sl.mk (dK t.ao.toNat (mu (jI t L) c g (k+1)))):=by
  intro k hk
  have:=Q7 (f:=qv t b (Sl.mk (gM (dK t.ao.toNat c))) ((k+1:Nat):Int)) (fun i:Nat=>((i:Int),Sl.mk (dK t.ao.toNat (lV t L c g k i)))) t.ao.toNat (b:=Sl.mk (dK t.ao.toNat (mu (jI t L) c g (k+1)))) (fun i hi=>by
   obtain⟨r,r1,r2⟩:=G2 hV (i:Int);simp only[qv];rw[jX,hrl,decide_eq_true (by omega),cond_true,r1,aa,Zx hV hL hn hc hb hk hi r2,aa,Fp (by omega)]) (by
   simp only[qv];rw[jX,hrl,decide_eq_false (by omega),cond_false];congr 2;exact congrArg Sl.mk (iP fun j hj=>if_pos hj))
  have e0:dK t.ao.toNat (lV t L c g k 0)=dK t.ao.toNat (mu (jI t L) c g k):=iP fun j _=>if_neg (by omega);rw[e0]at this;exact this
 have hL4:=Q7 (f:=qu t b (Sl.mk (gM (dK t.ao.toNat c)))) (fun k:Nat=>(((k+1:Nat):Int),Sl.mk (dK t.ao.toNat (mu (jI t L) c g k)))) (t.ao.toNat-1) (b:=Sl.mk (dK t.ao.toNat (xE t L c g))) (fun k hk=>by
  simp only[qu];rw[jX,hrl,decide_eq_true (by omega),cond_true,hround k (by omega),aa,Fp (by omega)]) (by
  simp only[qu];rw[jX,hrl,decide_eq_false (by omega),cond_false];rfl)
 have e4:aJ (qu t b (Sl.mk (gM (dK t.ao.toNat c)))) (1,Sl.mk (dK t.ao.toNat (mu (jI t L) c g 0)))=some (Sl.mk (dK t.ao.toNat (xE t L c g))):=hL4;rw[hcosts,aa,hL1,aa,jX,hrl,decide_eq_true (by omega),cond_true,jX,Bw (by rw[bz];exact hg),aa,aa,SY hg (E:=jI t L) (c:=c),e4];rfl
def Bb(t:am)(L:List Nat)(c:Nat->Nat)(g i:Nat):Int:=match(gd t (i:Int)).find? (fun x=>b9 (jI t L) c i (ed L x)&&(xE t L c g x.To.toNat+1==xE t L c g i))with|some x=>x.fU|none=>-1
theorem P3{i:Nat}:(ER t L c i).find? (fun x=>xE t L c g x.To.toNat==xE t L c g i-1)=(gd t (i:Int)).find? (fun x=>b9 (jI t L) c i (ed L x)&&(xE t L c g x.To.toNat+1==xE t L c g i)):=by
 unfold ER;rw[List.find?_filter];congr 1;funext x;rw[cF];simp only[decide_eq_true_eq,ax,beq_iff_eq];constructor
 .rintro ⟨a,b⟩;exact⟨a,by omega⟩
 .rintro ⟨a,b⟩;exact⟨a,by omega⟩
include hV in
theorem Xc{i:Nat}(hi:i<t.ao.toNat){s:Sl aM}(hs:s.l=ER t L c i){z:List Int}(hz:z.length=t.ao.toNat)(hzi:gt z i=-1):
  aJ (lw (Sl.mk (dK t.ao.toNat (xE t L c g))) (i:Int) s) (0,Sl.mk z)=some (Sl.mk (z.set i (Bb t L c g i))):=by
 have hlen:s.l.length<=8:=by rw[hs];exact bg (List.length_filter_le _ _) (bg (eS _ _) (by simp))
 have hfr:=yc (E:=jI t L) (c:=c) (g:=g) (t.ao.toNat-1) i;have h8:=rA hV;have hw:wr .i64 (xE t L c g i-1)=xE t L c g i-1:=gZ (by unfold xE;omega) (by unfold xE;omega)
 have key:∀(R A:List aM),s.l=A++R->aJ (lw (Sl.mk (dK t.ao.toNat (xE t L c g))) (i:Int) s) ((A.length:Int),Sl.mk z)=some (match R.find? (fun x=>xE t L c g x.To.toNat==xE t L c g i-1)with|some x=>Sl.mk (z.set i x.fU)|none=>Sl.mk z):=by
  intro R;induction R with
  |nil=>intro A e;refine bW ?_;simp only[lw];rw[decide_eq_false (by rw[e];simp),cond_false];rfl
  |cons x R ih=>
   intro A e;have hj:A.length<s.l.length:=by rw[e];simp
   have hx:gt s.l A.length=x:=by rw[e];exact Gd
   have hxm:x∈gd t (i:Int):=by
    have:x∈ER t L c i:=by rw[<-hs,e];simp
    exact(List.mem_filter.1 this).1
   obtain⟨k1,k2,k3,k4,k5⟩:=qY hV hxm;have hto:x.To.toNat<t.ao.toNat:=by omega
   have i1:bS (aM.To x) (dK t.ao.toNat (xE t L c g)).length=some x.To.toNat:=jy.2 ⟨by show x.To=_;omega,by rw[eo];exact hto⟩;rw[List.find?_cons];cases hb2:(xE t L c g x.To.toNat==xE t L c g i-1)with|true=>refine bW ?_;simp only[lw];rw[decide_eq_true (by omega),cond_true,Bw hj,aa,hx,jX,i1,aa,Bw (by rw[eo];exact hi),aa,jt hto,jt hi,hw,hb2,cond_true,jX,Bw (by omega),aa]|false=>refine(dD (a':=(((A++[x]).length:Int),Sl.mk z)) ?_).trans (ih (A++[x]) (by rw[e];simp));simp only[lw];rw[decide_eq_true (by omega),cond_true,Bw hj,aa,hx,jX,i1,aa,Bw (by rw[eo];exact hi),aa,jt hto,jt hi,hw,hb2,cond_false,Fp (by omega),au];rfl
 have:=key s.l [] rfl;rw[hs,P3]at this;have e0:aJ (lw (Sl.mk (dK t.ao.toNat (xE t L c g))) (i:Int) s) (0,Sl.mk z)=_:=this;rw[e0];unfold Bb;congr 1;cases(gd t (i:Int)).find? (fun x=>b9 (jI t L) c i (ed L x)&&(xE t L c g x.To.toNat+1==xE t L c g i))with|some x=>rfl|none=>show Sl.mk z=Sl.mk (z.set i (-1));congr 1;rw[<-hzi,dx (by omega),List.set_getElem_self]
def Jf(t:am)(L:List Nat)(c:Nat->Nat)(g:Nat)(p:Int)(i:Nat):Int:=if i=g then p else Bb t L c g i
include hV hL hn hc hb in
theorem UE{i:Nat}(hi:i<t.ao.toNat){r:Sl cZ}(hr:r.l=gd t (i:Int)):
  aJ (rZ b (Sl.mk (gM (dK t.ao.toNat c))) (Sl.mk (dK t.ao.toNat (xE t L c g))) (i:Int) r) ((-1),wr .i64 ((r.l.length:Int)-1))=some (Bb t L c g i):=by
 have hlen8:r.l.length<=8:=by rw[hr];exact bg (eS _ _) (by simp)
 have h8:=rA hV;have w0:∀k:Nat,k<=8->wr .i64 ((k:Int)-1)=(k:Int)-1:=fun k hk=>gZ (by omega) (by omega);rw[w0 _ hlen8]
 have key:∀(A R:List aM),r.l=A.reverse++R->aJ (rZ b (Sl.mk (gM (dK t.ao.toNat c))) (Sl.mk (dK t.ao.toNat (xE t L c g))) (i:Int) r) ((match R.find? (fun x=>b9 (jI t L) c i (ed L x)&&(xE t L c g x.To.toNat+1==xE t L c g i))with|some x=>x.fU|none=>-1),(A.length:Int)-1)=some (match r.l.find? (fun x=>b9 (jI t L) c i (ed L x)&&(xE t L c g x.To.toNat+1==xE t L c g i))with|some x=>x.fU|none=>-1):=by
  intro A;induction A with
  |nil=>
   intro R e;have e:r.l=R:=by rw[e];rfl
   refine(bW ?_).trans (by rw[e]);simp only[rZ];rw[decide_eq_false (by simp),cond_false]
  |cons x A ih=>
   intro R e;have e':r.l=A.reverse++x::R:=by rw[e];simp
   have hj:A.length<r.l.length:=by rw[e'];simp
   have hx:gt r.l A.length=x:=by rw[e'];have:=Gd (A:=A.reverse) (B:=R) (x:=x);rwa[List.length_reverse]at this
   have hxm:x∈gd t (i:Int):=by rw[<-hr,e'];simp
   obtain⟨k1,k2,k3,k4,k5⟩:=qY hV hxm;have hto:x.To.toNat<t.ao.toNat:=by omega
   have gj:=Og hV hL hn hc hb hi hxm;have hfr:=yc (E:=jI t L) (c:=c) (g:=g) (t.ao.toNat-1) x.To.toNat;have hw:wr .i64 (xE t L c g x.To.toNat+1)=xE t L c g x.To.toNat+1:=gZ (by unfold xE;omega) (by unfold xE;omega);have i1:bS (cZ.To x) (dK t.ao.toNat (xE t L c g)).length=some x.To.toNat:=jy.2 ⟨by show x.To=_;omega,by rw[eo];exact hto⟩;have eI:((x::A).length:Int)-1=(A.length:Int):=by simp
   rw[eI];refine(dD (a':=((match(x::R).find? (fun x=>b9 (jI t L) c i (ed L x)&&(xE t L c g x.To.toNat+1==xE t L c g i))with|some x=>x.fU|none=>-1),(A.length:Int)-1)) ?_).trans (ih (x::R) e');simp only[rZ];rw[decide_eq_true (by omega),cond_true,Bw hj];simp only[aa];rw[hx,gj,aa,jX,i1,aa,Bw (by rw[eo];exact hi),aa,jt hto,jt hi,hw,w0 _ (by omega),List.find?_cons];cases h1:b9 (jI t L) c i (ed L x)with
   |true=>rw[cond_true,aa,fV];cases h2:(xE t L c g x.To.toNat+1==xE t L c g i)with|true=>rfl|false=>rfl
   |false=>rw[cond_false,aa];rfl
 have:=key r.l.reverse [] (by simp);rw[List.length_reverse,hr]at this;rw[hr];exact this
variable{h:Nat}(hh:h<t.aU.l.length)
theorem IX(hV:gB t){h:Nat}(hh:h<t.aU.l.length):0<=(gt t.aU.l h).At/\(gt t.aU.l h).At<t.ao/\0<=(gt t.aU.l h).fU/\(gt t.aU.l h).fU<8:=by have hp:=hV.jq ⟨(gt t.aU.l h).At,(gt t.aU.l h).fU⟩ (by rw[mr];exact List.mem_append_right _ (bL.2 ⟨gt t.aU.l h,xC hh,by simp[Gk]⟩));exact⟨hp.1.1,hp.1.2,hp.2.1,hp.2.2⟩
end
end Go.Proofs.YtoekkpmeeclpeaaGreat.S
open Go.Ev Go Go.Fl Go.Ways
namespace Go.Proofs.YtoekkpmeeclpeaaGreat.S
def cB(t:am)(L:List Nat)(g:Nat):Nat->Nat:=B (jI t L) g t.ao.toNat
theorem Ug(t:am)(L:List Nat)(g i:Nat):cB t L g i<=vJ:=an0 _ _
def hg(t:am)(h:Nat):Nat:=(gt t.aU.l h).At.toNat
def rQ(t:am)(L:List Nat)(h:Nat):Nat->Int:=Jf t L (cB t L (hg t h)) (hg t h) (gt t.aU.l h).fU
section
variable{t:am}{L:List Nat}(hV:gB t)(hL:L.length=t.aS.l.length)(hn:∀x∈L,nn x)
include hV hL hn in
theorem ac1{g:Nat}(hg:g<t.ao.toNat):mE t (f9 L) (g:Int)=some (Sl.mk (dK t.ao.toNat (cB t L g))):=by obtain⟨cl,out,h1,h2⟩:=Sn hV hL hn hg;rw[h1,iP fun i hi=>(h2.CI (Ge hV L)).1 i hi];rfl
include hV hL hn in
theorem YG:Vs t L=true:=by unfold Vs;rw[decide_eq_true hV,fV,hL,beq_self_eq_true,fV];exact List.all_eq_true.2 fun x hx=>Cc.2 (hn x hx)
include hV hL hn in
theorem OM:mD t (f9 L)=some true:=by have hok:=YG hV hL hn;have hr:=GT (t:=t) (L:=L) (fun x hx=>EU (hn x hx)) (by have:=hV.xQ;omega);rwa[(RB hok).2.2.2,hok]at hr
include hV hL hn in
theorem Xb{h:Nat}(hh:h<t.aU.l.length):vM t (f9 L) (h:Int)=some (Sl.mk (dK t.ao.toNat (rQ t L h)),0):=by
 obtain⟨s1,s2,s3⟩:=rA hV;obtain⟨p1,p2,p3,p4⟩:=IX hV hh;have hgn:hg t h<t.ao.toNat:=by unfold hg;omega
 have hat:(gt t.aU.l h).At=((hg t h:Nat):Int):=by unfold hg;omega
 have hcs:=ac1 hV hL hn hgn;have gj:=QV hV hL hn hgn (fun i _=>Ug t L (hg t h) i) hcs;have hrep:=Jz (x:=-1) s2 s3;rw[<-s1]at hrep;unfold vM;rw[OM hV hL hn,aa,bX,cond_false];have hguard:((decide ((h:Int)<0))||(decide ((h:Int)>=(((am.aU t).l).length:Int))))=false:=by rw[decide_eq_false (show¬(h:Int)<0 by omega),decide_eq_false (by omega)];rfl
 have hloop:=Q7 (f:=m7 t (f9 L) (Sl.mk (dK t.ao.toNat (cB t L (hg t h)))) (Sl.mk (dK t.ao.toNat (xE t L (cB t L (hg t h)) (hg t h)))) (Sl.mk (az t.ao.toNat (-1)))) (fun i:Nat=>((i:Int),Sl.mk (dK t.ao.toNat fun j=>if j<i then Bb t L (cB t L (hg t h)) (hg t h) j else-1))) t.ao.toNat (b:=Sl.mk (dK t.ao.toNat (Bb t L (cB t L (hg t h)) (hg t h)))) (fun i hi=>by
  obtain⟨s,q1,q2⟩:=LH hV hL hn (fun i _=>Ug t L (hg t h) i) hi;simp only[m7];rw[jX,bz,decide_eq_true (by omega),cond_true,q1,aa,Xc hV hi q2 (by rw[eo]) (by rw[jt hi,if_neg (by omega)]),aa,sM hi,Fp (by omega)];congr 4;refine iP fun j hj=>?_;by_cases e:j=i
  .rw [if_pos e,if_pos (by omega),e]
  .rw [if_neg e];by_cases e2:j<i
   .rw [if_pos e2,if_pos (by omega)]
   .rw [if_neg e2,if_neg (by omega)]) (by
  simp only[m7];rw[jX,bz,decide_eq_false (by omega),cond_false];congr 2;exact congrArg Sl.mk (iP fun j hj=>if_pos hj))
 have e0:(dK t.ao.toNat fun j=>if j<0 then Bb t L (cB t L (hg t h)) (hg t h) j else-1)=az t.ao.toNat (-1):=gi (by simp[dK]) fun j h1 h2=>by simp[dK]
 have hloop2:aJ (m7 t (f9 L) (Sl.mk (dK t.ao.toNat (cB t L (hg t h)))) (Sl.mk (dK t.ao.toNat (xE t L (cB t L (hg t h)) (hg t h)))) (Sl.mk (az t.ao.toNat (-1)))) (0,Sl.mk (az t.ao.toNat (-1)))=some (Sl.mk (dK t.ao.toNat (Bb t L (cB t L (hg t h)) (hg t h)))):=by rw[<-e0]at hloop|-;exact hloop
 rw[hguard,cond_false,Bw hh,aa,hat,hcs,aa,gj,aa,hrep,aa,hloop2,aa,aa,jX,Bw (by rw[eo];exact hgn),aa,sM hgn];rfl
variable{b:Sl Int}(hb:b.l=gM L)(h12:t.aU.l.length<=12)
include hV hL hn hb h12 in
theorem LR:qy t b=some true:=by have hlk:=hV.xQ;have hr:=EK (t:=t) hb (by omega) (by omega) h12;rwa[YG hV hL hn]at hr
include hV hL hn hb h12 in
theorem LB{h:Nat}(hh:h<t.aU.l.length):B1 t b (h:Int)=some (Sl.mk (dK t.ao.toNat (rQ t L h)),0):=by
 obtain⟨s1,s2,s3⟩:=rA hV;obtain⟨p1,p2,p3,p4⟩:=IX hV hh;have hgn:hg t h<t.ao.toNat:=by unfold hg;omega
 have hat:(gt t.aU.l h).At=((hg t h:Nat):Int):=by unfold hg;omega
 have hcs:=Qi hV hL hn hb h12 hgn;have gj:=Oe hV hL hn (fun i _=>Ug t L (hg t h) i) hb h12 hgn hcs;unfold B1;rw[LR hV hL hn hb h12,aa,bX,cond_false];have hguard:((decide ((h:Int)<0))||(decide ((h:Int)>=(((am.aU t).l).length:Int))))=false:=by rw[decide_eq_false (show¬(h:Int)<0 by omega),decide_eq_false (by omega)];rfl
 have hloop:=Li (f:=wB t b (h:Int) h (Sl.mk (gM (dK t.ao.toNat (cB t L (hg t h))))) (Sl.mk (dK t.ao.toNat (xE t L (cB t L (hg t h)) (hg t h))))) (aG t.ao.toNat) (rQ t L h) (fun i s hi hs=>by
  rw[bB]at hi;obtain⟨r,r1,r2⟩:=G2 hV (i:Int);have hgr:gt (aG t.ao.toNat) i=i:=by rw[dx (by rw[bB];exact hi)];simp
  have htr:=UE hV hL hn (fun i _=>Ug t L (hg t h) i) hb (g:=hg t h) hi r2;simp only[wB];rw[decide_eq_true (show(i:Int)<t.ao by omega),cond_true,r1,aa,htr,aa,hat,Bw hh,Lt]
  have e1:(bif i==hg t h then(some h).bind (fun n24=>some (dY.fU (gt t.aU.l n24)))else some (Bb t L (cB t L (hg t h)) (hg t h) i):Option Int)=some (rQ t L h i):=by
   unfold rQ Jf;by_cases e:i=hg t h
   .rw [beq_iff_eq.2 e,if_pos e];rfl
   .rw [beq_eq_false_iff_ne.2 e,if_neg e];rfl
  rw[e1,aa,mz.2 ⟨rfl,by rw[au];simp;omega⟩,aa,Fp (by omega),hgr]) (fun s=>by
  simp only[wB,bB];rw[decide_eq_false (show¬((t.ao.toNat:Nat):Int)<t.ao by omega),cond_false])
 have hcs':qD t b ((hg t h:Nat):Int)=some (Sl.mk (gM (dK t.ao.toNat (cB t L (hg t h))))):=hcs;rw[hguard,cond_false,Bw hh,aa,hat,hcs',aa,gj,aa,hloop,aa,xW (by intro h;have:=congrArg eg h;simp at this;omega)]
def nA(t:am)(L:List Nat)(m i:Nat):List Int:=(aG m).map fun h=>rQ t L h i
theorem MO(m i:Nat):nA t L (m+1) i=nA t L m i++[rQ t L m i]:=by unfold nA;rw[ii,dm];rfl
include hV h12 in
theorem So{m:Nat}(hm:m<t.aU.l.length){p:Sl Int}(hp:p=Sl.mk (dK t.ao.toNat (rQ t L m))):
  aJ (mo p) (0,Sl.mk (dK t.ao.toNat fun i=>f9 (nA t L m i)))=some (Sl.mk (dK t.ao.toNat fun i=>f9 (nA t L (m+1) i))):=by
 obtain⟨s1,s2,s3⟩:=rA hV;subst hp
 have:=Q7 (f:=mo (Sl.mk (dK t.ao.toNat (rQ t L m)))) (fun k:Nat=>((k:Int),Sl.mk (dK t.ao.toNat fun i=>if i<k then f9 (nA t L (m+1) i)else f9 (nA t L m i)))) t.ao.toNat (b:=Sl.mk (dK t.ao.toNat fun i=>f9 (nA t L (m+1) i))) (fun k hk=>by
  simp only[mo];rw[jX,eo,decide_eq_true (by omega),cond_true,Bw hk,aa,jX,Bw (by rw[eo];exact hk),aa,jt hk,if_neg (by omega),yC,jt hk,mz.2 ⟨rfl,by rw[au];unfold nA;simp;omega⟩,aa,aa];have hb1:Nat.beq k k=true:=Nat.beq_refl k;rw[hb1,cond_true,sM hk,Fp (by omega)];congr 4;refine iP fun j hj=>?_;by_cases e:j=k
  .rw [if_pos e,if_pos (by omega),e,<-MO,xW (by rw[MO];simp)]
  .rw [if_neg e];by_cases e2:j<k
   .rw [if_pos e2,if_pos (by omega)]
   .rw [if_neg e2,if_neg (by omega)]) (by
  simp only[mo];rw[jX,eo,decide_eq_false (by omega),cond_false];congr 2;exact congrArg Sl.mk (iP fun j hj=>if_pos hj))
 have e0:(dK t.ao.toNat fun i=>if i<0 then f9 (nA t L (m+1) i)else f9 (nA t L m i))=dK t.ao.toNat fun i=>f9 (nA t L m i):=iP fun j _=>if_neg (by omega);rw[e0]at this;exact this
def aaQ(t:am)(L:List Nat):Prop:=∃h,h<t.aU.l.length/\∃i,i<t.ao.toNat/\rQ t L h i=-1
theorem PS{n:Nat}{f:Nat->Int}:(dK n f).any (fun x=>(-1:Int)==x)=true<->∃i,i<n/\f i=-1:=by
 rw[List.any_eq_true];constructor
 .rintro ⟨x,hx,h⟩;obtain⟨i,hi,rfl⟩:=aR.1 hx;exact⟨i,ct.1 hi,(beq_iff_eq.1 h).symm⟩
 .rintro ⟨i,hi,h⟩;exact⟨_,aR.2 ⟨i,ct.2 hi,rfl⟩,by rw[h];rfl⟩
include hV hL hn h12 in
theorem Q8:(aaQ t L/\k_ t (f9 L)=some (Sl.nil,7))\/(¬aaQ t L/\k_ t (f9 L)=some (Sl.mk (dK t.ao.toNat fun i=>f9 (nA t L t.aU.l.length i)),0)):=by
 obtain⟨s1,s2,s3⟩:=rA hV
 have hstep:∀m,m<t.aU.l.length->ie t (f9 L) ((m:Int),Sl.mk (dK t.ao.toNat fun i=>f9 (nA t L m i)))=some (if∃i,i<t.ao.toNat/\rQ t L m i=-1 then .inr (.inl 7)else .inl (((m+1:Nat):Int),Sl.mk (dK t.ao.toNat fun i=>f9 (nA t L (m+1) i)))):=by
  intro m hm;simp only[ie];rw[decide_eq_true (by omega),cond_true,Xb hV hL hn hm,aa];simp only[];rw[yj (by rw[jX,eo];omega),aa,jX];by_cases h:∃i,i<t.ao.toNat/\rQ t L m i=-1
  .rw [PS.2 h,cond_true,if_pos h]
  .have:(dK t.ao.toNat (rQ t L m)).any (fun x=>(-1:Int)==x)=false:=by rw[vC];exact fun q=>h (PS.1 q)
   rw[this,cond_false,So hV h12 hm rfl,aa,Fp (by omega),if_neg h]
 have hm0:Fm (Sl.nil:Sl Int) t.ao t.ao=some (dK t.ao.toNat fun i=>f9 (nA t L 0 i)):=by unfold Fm;rw[if_pos (by omega)];congr 1;exact gi (by simp[dK]) fun j h1 h2=>by simp[dK,nA,f9]
 have hloop:∀(d m:Nat),m+d=t.aU.l.length->(∃h,m<=h/\h<t.aU.l.length/\(∃i,i<t.ao.toNat/\rQ t L h i=-1)/\aJ (ie t (f9 L)) ((m:Int),Sl.mk (dK t.ao.toNat fun i=>f9 (nA t L m i)))=some (.inl 7))\/((∀h,m<=h->h<t.aU.l.length->¬∃i,i<t.ao.toNat/\rQ t L h i=-1)/\aJ (ie t (f9 L)) ((m:Int),Sl.mk (dK t.ao.toNat fun i=>f9 (nA t L m i)))=some (.inr (Sl.mk (dK t.ao.toNat fun i=>f9 (nA t L t.aU.l.length i))))):=by
  intro d;induction d with
  |zero=>
   intro m hm;obtain rfl:m=t.aU.l.length:=by omega
   refine .inr ⟨fun h h1 h2=>by omega,bW ?_⟩;simp only[ie];rw[decide_eq_false (by omega),cond_false]
  |succ d ih=>
   intro m hm;have hs:=hstep m (by omega);by_cases h:∃i,i<t.ao.toNat/\rQ t L m i=-1
   .rw [if_pos h]at hs;exact .inl ⟨m,aw _,by omega,h,bW hs⟩
   .rw [if_neg h]at hs;rcases ih (m+1) (by omega)with⟨q,q1,q2,q3,q4⟩|⟨q1,q2⟩
    .exact .inl ⟨q,by omega,q2,q3,(dD hs).trans q4⟩
    .refine .inr ⟨fun x h1 h2=>?_,(dD hs).trans q2⟩;by_cases e:x=m
     .rw [e];exact h
     .exact q1 x (by omega) h2
 unfold k_;rw[OM hV hL hn,aa,bX,cond_false,hm0,aa];rcases hloop t.aU.l.length 0 (by omega)with⟨q,q1,q2,q3,q4⟩|⟨q1,q2⟩
 .refine .inl ⟨⟨q,q2,q3⟩,?_⟩;have q4':aJ (ie t (f9 L)) (0,Sl.mk (dK t.ao.toNat fun i=>f9 (nA t L 0 i)))=some (.inl 7):=q4;rw[q4'];rfl
 .refine .inr ⟨fun⟨x,h1,h2⟩=>q1 x (by omega) h1 h2,?_⟩;have q2':aJ (ie t (f9 L)) (0,Sl.mk (dK t.ao.toNat fun i=>f9 (nA t L 0 i)))=_:=q2;rw[q2'];rfl
include hV hL hn hb h12 in
theorem OE:(aaQ t L->oO t b=some (Sl.nil,7))/\(¬aaQ t L->oO t b=some (Sl.mk (dK t.ao.toNat fun i=>f9 (nA t L t.aU.l.length i)),0)):=by
 obtain⟨s1,s2,s3⟩:=rA hV;have hrl:∀{f:Nat->Int},(dK t.ao.toNat f).length=t.ao.toNat:=eo _ _
 -- one switch
 have hin:∀i,i<t.ao.toNat->(∀(d m:Nat),m+d=t.aU.l.length->((∃h,m<=h/\h<t.aU.l.length/\rQ t L h i=-1)->aJ (iJ t b (i:Int)) ((m:Int),f9 (nA t L m i))=some (.inl 7))/\((∀h,m<=h->h<t.aU.l.length->rQ t L h i≠-1)->aJ (iJ t b (i:Int)) ((m:Int),f9 (nA t L m i))=some (.inr (f9 (nA t L t.aU.l.length i))))):=by
  intro i hi d;induction d with
  |zero=>
   intro m hm;obtain rfl:m=t.aU.l.length:=by omega
   refine⟨fun⟨h,h1,h2,_⟩=>by omega,fun _=>bW ?_⟩;simp only[iJ];rw[decide_eq_false (by omega),cond_false]
  |succ d ih=>
   intro m hm;have hmm:m<t.aU.l.length:=by omega
   obtain⟨ih1,ih2⟩:=ih (m+1) (by omega);by_cases h:rQ t L m i=-1
   .refine ⟨fun _=>bW ?_,fun q=>absurd h (q m (aw _) hmm)⟩;simp only[iJ];rw[decide_eq_true (by omega),cond_true,LB hV hL hn hb h12 hmm,aa];simp only[];rw[jX,Bw (by rw[hrl];exact hi),aa,jt hi,h];rfl
   .have hs:iJ t b (i:Int) ((m:Int),f9 (nA t L m i))=some (.inl (((m+1:Nat):Int),f9 (nA t L (m+1) i))):=by simp only[iJ];rw[decide_eq_true (by omega),cond_true,LB hV hL hn hb h12 hmm,aa];simp only[];rw[jX,Bw (by rw[hrl];exact hi),aa,jt hi,beq_eq_false_iff_ne.2 h,cond_false,aa,jt hi,yC,<-MO,mz.2 ⟨rfl,by unfold nA;simp;omega⟩,aa,Fp (by omega),xW (by rw[MO];simp)]
    refine⟨fun⟨x,h1,h2,h3⟩=>(dD hs).trans (ih1 ⟨x,?_,h2,h3⟩),fun q=>(dD hs).trans (ih2 fun x h1 h2=>q x (by omega) h2)⟩;rcases Nat.eq_or_lt_of_le h1 with e|e
    .subst e;exact absurd h3 h
    .exact e
 have hout:∀(d k:Nat),k+d=t.ao.toNat->((∃i,k<=i/\i<t.ao.toNat/\∃h,h<t.aU.l.length/\rQ t L h i=-1)->aJ (iI t b) ((k:Int),f9 (dK k fun i=>f9 (nA t L t.aU.l.length i)))=some (.inl 7))/\((∀i,k<=i->i<t.ao.toNat->∀h,h<t.aU.l.length->rQ t L h i≠-1)->aJ (iI t b) ((k:Int),f9 (dK k fun i=>f9 (nA t L t.aU.l.length i)))=some (.inr (f9 (dK t.ao.toNat fun i=>f9 (nA t L t.aU.l.length i))))):=by
  intro d;induction d with
  |zero=>
   intro k hk;obtain rfl:k=t.ao.toNat:=by omega
   refine⟨fun⟨i,h1,h2,_⟩=>by omega,fun _=>bW ?_⟩;simp only[iI];rw[decide_eq_false (show¬((t.ao.toNat:Nat):Int)<t.ao by omega),cond_false]
  |succ d ih=>
   intro k hk;have hkk:k<t.ao.toNat:=by omega
   obtain⟨ih1,ih2⟩:=ih (k+1) (by omega);obtain⟨h1,h2⟩:=hin k hkk t.aU.l.length 0 (by omega);by_cases h:∃h,h<t.aU.l.length/\rQ t L h k=-1
   .obtain ⟨x,hx1,hx2⟩:=h;have h1':aJ (iJ t b (k:Int)) (0,Sl.nil)=some (.inl 7):=h1 ⟨x,by omega,hx1,hx2⟩;refine⟨fun _=>bW ?_,fun q=>absurd hx2 (q k (aw _) hkk x hx1)⟩;simp only[iI];rw[decide_eq_true (show(k:Int)<t.ao by omega),cond_true,h1'];rfl
   .have h2':aJ (iJ t b (k:Int)) (0,Sl.nil)=some (.inr (f9 (nA t L t.aU.l.length k))):=h2 fun x _ hx hx2=>h ⟨x,hx,hx2⟩
    have hs:iI t b ((k:Int),f9 (dK k fun i=>f9 (nA t L t.aU.l.length i)))=some (.inl (((k+1:Nat):Int),f9 (dK (k+1) fun i=>f9 (nA t L t.aU.l.length i)))):=by
     simp only[iI];rw[decide_eq_true (show(k:Int)<t.ao by omega),cond_true,h2',aa];simp only[];have e:(dK (k+1) fun i=>f9 (nA t L t.aU.l.length i))=(dK k fun i=>f9 (nA t L t.aU.l.length i))++[f9 (nA t L t.aU.l.length k)]:=by unfold dK;rw[ii,dm];rfl
     rw[yC,<-e,mz.2 ⟨rfl,by rw[eo];omega⟩,aa,Fp (by omega),xW (by rw[e];simp)]
    refine⟨fun⟨i,h3,h4,h5⟩=>(dD hs).trans (ih1 ⟨i,?_,h4,h5⟩),fun q=>(dD hs).trans (ih2 fun i h3 h4=>q i (by omega) h4)⟩;rcases Nat.eq_or_lt_of_le h3 with e|e
    .subst e;exact absurd h5 h
    .exact e
 obtain⟨o1,o2⟩:=hout t.ao.toNat 0 (by omega);unfold oO;rw[LR hV hL hn hb h12,aa,bX,cond_false];constructor
 .rintro ⟨h,h1,i,h2,h3⟩;have o1':aJ (iI t b) (0,Sl.nil)=some (.inl 7):=o1 ⟨i,by omega,h2,h,h1,h3⟩;rw[o1'];rfl
 .intro q;have o2':aJ (iI t b) (0,Sl.nil)=some (.inr (f9 (dK t.ao.toNat fun i=>f9 (nA t L t.aU.l.length i)))):=o2 fun i _ hi h hh e=>q ⟨h,hh,i,hi,e⟩;rw[o2',aa];simp only[];rw[xW (by intro h;have:=congrArg eg h;rw[eo]at this;simp at this;omega)]
end
end Go.Proofs.YtoekkpmeeclpeaaGreat.S
open Go.Ev Go
namespace Go.Proofs.YtoekkpmeeclpeaaGreat.S
def aeT(t:am)(r:Sl (Sl Int)):Prop:=(∀dK∈r.l,dK.l.length<=12)/\t.aS.l.length<=30/\t.aU.l.length<=12/\r.l.length<=12
instance(t:am)(r:Sl (Sl Int)):Decidable (aeT t r):=by unfold aeT;infer_instance
structure kK(t:am)(r:Sl (Sl Int)):Prop where
 EA:gB t
 len:(r.l.length:Int)=t.ao
 XY:∀dK∈r.l,dK.l.length=t.aU.l.length/\∀p∈dK.l,0<=p/\p<8
instance(t:am)(r:Sl (Sl Int)):Decidable (kK t r):=Classical.propDecidable _
theorem NB{s:Sl Int}(hb:s.l.length<9223372036854775808):dl s=some (decide (¬∀p∈s.l,0<=p/\p<8)):=by
 have h:=xO (f:=dQ s) s.l (fun i p=>if¬(0<=p/\p<8)then some (i:Int)else none) () hb (fun i hi=>by
  have e:((decide ((gt s.l i)<0))||(decide ((gt s.l i)>=8)))=decide (¬(0<=gt s.l i/\gt s.l i<8)):=by rw[cF];simp only[Bool.or_eq_true,decide_eq_true_eq];omega
  simp only[dQ,fT hi,cond_true,aY hi,aa,AH,e];by_cases hc:¬(0<=gt s.l i/\gt s.l i<8)
  .rw [if_pos hc,decide_eq_true hc];rfl
  .rw [if_neg hc,decide_eq_false hc];rfl) (by simp only[dQ,ij,cond_false])
 simp only[dl,d8,h,aa];cases hs:lE (fun i p=>if¬(0<=p/\p<8)then some (i:Int)else none) s.l 0 with
 |none=>
  have hall:∀p∈s.l,0<=p/\p<8:=by intro p hp;obtain⟨j,hj,rfl⟩:=fD hp;have:=nP.1 hs j s.l[j] (by simp[hj]);apply Classical.byContradiction;intro hn;rw[if_pos hn]at this;simp at this
  have e:decide (¬∀p∈s.l,0<=p/\p<8)=false:=decide_eq_false fun h=>h hall;rw[e];rfl
 |some b=>
  obtain⟨j,x,h1,h2,_⟩:=kw hs;split at h2
  .rename_i hx;obtain rfl:=af h2;have e:decide (¬∀p∈s.l,0<=p/\p<8)=true:=decide_eq_true fun h=>hx (h x (bA h1));rw[e];simp only[aa,eZ,decide_eq_true_eq];omega
  .simp at h2
theorem OF{t:am}{r:Sl (Sl Int)}(hb:r.l.length<9223372036854775808)(hrow:∀dK∈r.l,dK.l.length<9223372036854775808):mF t r=some (decide (kK t r)):=by
 unfold mF;simp only[BJ,aa];by_cases hV:gB t
 rotate_left
 .rw [decide_eq_false hV];exact congrArg some (decide_eq_false fun h=>hV h.EA).symm
 by_cases hl:(r.l.length:Int)=t.ao
 rotate_left
 .have e:((r.l.length:Int) !=t.ao)=true:=by simpa using hl
  rw[decide_eq_true hV,e];exact congrArg some (decide_eq_false fun h=>hl h.len).symm
 have e:((r.l.length:Int) !=t.ao)=false:=by simpa using hl
 rw[decide_eq_true hV,e];simp only[bX,Bool.or_self,cond_false]
 have h:=wm (f:=nQ t r) r.l (fun dK=>decide (¬(dK.l.length=t.aU.l.length/\∀p∈dK.l,0<=p/\p<8))) hb (fun i hi=>by
  have hm:gt r.l i∈r.l:=by rw[dx hi];exact cW _
  simp only[nQ,fT hi,cond_true,aY hi,aa,NB (hrow _ hm)];by_cases h1:(gt r.l i).l.length=t.aU.l.length
  .have e1:(((gt r.l i).l.length:Int) !=(t.aU.l.length:Int))=false:=by rw[h1];simp
   by_cases h2:∀p∈(gt r.l i).l,0<=p/\p<8
   .have e2:decide (¬∀p∈(gt r.l i).l,0<=p/\p<8)=false:=decide_eq_false fun h=>h h2;have e3:decide (¬((gt r.l i).l.length=t.aU.l.length/\∀p∈(gt r.l i).l,0<=p/\p<8))=false:=decide_eq_false fun h=>h ⟨h1,h2⟩;rw[e1,e2,e3];rfl
   .have e2:decide (¬∀p∈(gt r.l i).l,0<=p/\p<8)=true:=decide_eq_true h2;have e3:decide (¬((gt r.l i).l.length=t.aU.l.length/\∀p∈(gt r.l i).l,0<=p/\p<8))=true:=decide_eq_true fun h=>h2 h.2;rw[e1,e2,e3];rfl
  .have e1:(((gt r.l i).l.length:Int) !=(t.aU.l.length:Int))=true:=by rw[bne_iff_ne];omega
   have e3:decide (¬((gt r.l i).l.length=t.aU.l.length/\∀p∈(gt r.l i).l,0<=p/\p<8))=true:=decide_eq_true fun h=>h1 h.1;rw[e1,e3];rfl) (by simp only[nQ,ij,cond_false])
 rw[h]
 have hr:(∀dK∈r.l,decide (¬(dK.l.length=t.aU.l.length/\∀p∈dK.l,0<=p/\p<8))=false)<->∀dK∈r.l,dK.l.length=t.aU.l.length/\∀p∈dK.l,0<=p/\p<8:=by
  constructor
  .intro h dK hm;have:=h dK hm;rw[decide_eq_false_iff_not]at this;exact Classical.not_not.1 this
  .intro h dK hm;exact decide_eq_false fun hn=>hn (h dK hm)
 by_cases hs:∀dK∈r.l,dK.l.length=t.aU.l.length/\∀p∈dK.l,0<=p/\p<8
 .rw [if_pos (hr.2 hs)];exact congrArg some (decide_eq_true ⟨hV,hl,hs⟩).symm
 .rw [if_neg (fun h=>hs (hr.1 h))];exact congrArg some (decide_eq_false fun h=>hs h.XY).symm
section
variable{t:am}{r:Sl (Sl Int)}{h:Nat}
def gA(r:Sl (Sl Int))(h:Nat)(s:Nat):Int:=gt (gt r.l s).l h
def GC(t:am)(r:Sl (Sl Int))(h:Nat)(s:Nat):Prop:=(gt t.aU.l h).At=(s:Int)/\(gt t.aU.l h).fU=gA r h s
instance{s:Nat}:Decidable (GC t r h s):=by unfold GC;infer_instance
def EV(t:am)(r:Sl (Sl Int))(h:Nat)(s:Nat):Option Nat:=(lE (rm (s:Int) (gA r h s)) t.aS.l 0).map (·.1.toNat)
theorem kK.dK(hV:kK t r){s:Nat}(hs:s<r.l.length):(gt r.l s).l.length=t.aU.l.length:=by
 have:gt r.l s∈r.l:=by rw[dx hs];exact cW _
 exact(hV.XY _ this).1
theorem kK.zW(hV:kK t r):r.l.length<=8:=by have:=hV.len;have:=hV.EA.sw;omega
theorem kK.sq(hV:kK t r):t.aU.l.length<=8:=hV.EA.sq
theorem GZ(hV:kK t r)(s:Nat):(EV t r h s=none/\Cv t s (gA r h s)=(0,0,0,false))\/
  ∃(s':Nat)(b c:Int),EV t r h s=some s'/\s'<r.l.length/\Cv t s (gA r h s)=((s':Int),b,c,true):=by
 unfold EV Cv;cases hc:lE (rm (s:Int) (gA r h s)) t.aS.l 0 with|none=>exact .inl ⟨rfl,rfl⟩|some q=>obtain⟨a,b,c⟩:=q;obtain⟨h1,h2⟩:=abM hV.EA hc;have:=hV.len;refine .inr ⟨a.toNat,b,c,rfl,by omega,?_⟩;rw[Int.toNat_of_nonneg h1]
theorem ace(hV:kK t r){s s':Nat}(hn:EV t r h s=some s'):s'<r.l.length:=by
 rcases GZ (h:=h) hV s with⟨e,_⟩|⟨s2,_,_,e,h2,_⟩
 .rw [e]at hn;cases hn
 .rw [e]at hn;cases hn;exact h2
inductive yl(t:am)(r:Sl (Sl Int))(h:Nat):Nat->Nat->Prop
 |Lk {s:Nat}:GC t r h s->yl t r h s 0
 |iT {s s' k:Nat}:¬GC t r h s->EV t r h s=some s'->yl t r h s' k->yl t r h s (k+1)
theorem yl.zH{s a b:Nat}(ha:yl t r h s a)(hb:yl t r h s b):a=b:=by
 induction ha generalizing b with
 |Lk h1=>cases hb with|Lk _=>rfl|iT h2 _ _=>exact absurd h1 h2
 |iT h1 h2 _ ih=>cases hb with|Lk h3=>exact absurd h3 h1|iT _ h4 h5=>rw[h2]at h4;cases h4;rw[ih h5]
theorem yl.apU(hV:kK t r){s k:Nat}(ha:yl t r h s k)(hs:s<r.l.length):∃w:List Nat,w.length=k+1/\w.Nodup/\∀x∈w,x<r.l.length/\∃j,j<=k/\yl t r h x j:=by
 induction ha with
 |@Lk s h1=>exact⟨[s],rfl,by simp,fun x hx=>by obtain rfl:=aB.1 hx;exact⟨hs,0,aw _,.Lk h1⟩⟩
 |@iT s s' k h1 h2 h3 ih=>
  obtain⟨w,e1,e2,e3⟩:=ih (ace hV h2);have gj:=yl.iT h1 h2 h3;refine⟨s::w,by simp[e1],List.nodup_cons.2 ⟨fun hm=>?_,e2⟩,fun x hx=>?_⟩
  .obtain ⟨_,j,hj,hj2⟩:=e3 s hm;have:=hj2.zH gj;omega
  .rcases List.mem_cons.1 hx with rfl|hx
   .exact ⟨hs,k+1,aw _,gj⟩
   .obtain ⟨a,j,b,c⟩:=e3 x hx;exact⟨a,j,by omega,c⟩
theorem yl.lt(hV:kK t r){s k:Nat}(ha:yl t r h s k)(hs:s<r.l.length):k<r.l.length:=by obtain⟨w,h1,h2,h3⟩:=ha.apU hV hs;have hsub:w⊆aG r.l.length:=fun x hx=>ct.2 (h3 x hx).1;have:=h2.length_le_of_subset hsub;simp at this;omega
def vL(t:am)(r:Sl (Sl Int))(h:Nat):Nat->Nat->Int×Bool
 |0,s=>((s:Int),decide (GC t r h s))
 |m+1,s=>if GC t r h s then((s:Int),false)else match EV t r h s with|none=>(-1,false)|some s'=>vL t r h m s'
theorem MJ{s k:Nat}(ha:yl t r h s k):∀{m:Nat},m<k->∃y:Nat,vL t r h m s=((y:Int),false):=by
 induction ha with
 |Lk h1=>intro m hm;omega
 |@iT s s' k h1 h2 h3 ih=>intro m hm;cases m with|zero=>exact⟨s,by simp only[vL,decide_eq_false h1]⟩|succ m=>simp only[vL,if_neg h1,h2];exact ih (by omega)
theorem Xy{s k:Nat}(ha:yl t r h s k):∃y:Nat,vL t r h k s=((y:Int),true):=by induction ha with|@Lk s h1=>exact⟨s,by simp only[vL,decide_eq_true h1]⟩|@iT s s' k h1 h2 h3 ih=>simp only[vL,if_neg h1,h2];exact ih
theorem Gc(hV:kK t r)(hh:h<t.aU.l.length){s:Nat}(hs:s<r.l.length):
  ((bS (h:Int) t.aU.l.length).bind fun n5=>bif((gt t.aU.l n5).At==(s:Int))then((bS (h:Int) t.aU.l.length).bind fun n6=>(bS (s:Int) r.l.length).bind fun n7=>(bS (h:Int) (gt r.l n7).l.length).bind fun n8=>some ((gt t.aU.l n6).fU==gt (gt r.l n7).l n8))else some false)=some (decide (GC t r h s)):=by
 have hhr:h<(gt r.l s).l.length:=by rw[hV.dK hs];exact hh
 simp only[aY hh,aY hs,aY hhr,aa,NP];congr 1;rw[cF,decide_eq_true_eq (p:=GC t r h s)];simp[GC,gA]
theorem OR(hV:kK t r)(hh:h<t.aU.l.length){s:Nat}(hs:s<r.l.length):
  (((((!true)||(decide ((s:Int)<0)))||(decide ((s:Int)>=(r.l.length:Int))))||(decide ((h:Int)<0)))||(decide ((h:Int)>=(t.aU.l.length:Int))))=false:=by
 simp only[bX,sL,bV,decide_eq_false_iff_not];omega
end
end Go.Proofs.YtoekkpmeeclpeaaGreat.S
open Go.Ev Go
namespace Go.Proofs.YtoekkpmeeclpeaaGreat.S
def jS(t:am)(r:Sl (Sl Int)):Prop:=kK t r/\∀s,s<r.l.length->∀h,h<t.aU.l.length->∃k,yl t r h s k
section
variable{t:am}{r:Sl (Sl Int)}{h:Nat}
def jz(t:am)(r:Sl (Sl Int))(h s:Nat):Nat:=open Classical in if hk:∃k,yl t r h s k then Classical.choose hk else 0
theorem acU{s k:Nat}(ha:yl t r h s k):jz t r h s=k:=by
 have hk:∃k,yl t r h s k:=⟨k,ha⟩
 unfold jz;rw[dif_pos hk];exact(Classical.choose_spec hk).zH ha
theorem jS.jz(hG:jS t r){s:Nat}(hs:s<r.l.length)(hh:h<t.aU.l.length):yl t r h s (jz t r h s):=by obtain⟨k,hk⟩:=hG.2 s hs h hh;rw[acU hk];exact hk
theorem jS.lt(hG:jS t r){s:Nat}(hs:s<r.l.length)(hh:h<t.aU.l.length):S.jz t r h s<r.l.length:=(hG.jz hs hh).lt hG.1 hs
def Cz(t:am)(r:Sl (Sl Int))(h:Nat):List Int:=(aG r.l.length).map fun s=>(jz t r h s:Int)
theorem Hj:(Cz t r h).length=r.l.length:=by simp[Cz]
theorem Z3{s:Nat}(hs:s<r.l.length):gt (Cz t r h) s=(jz t r h s:Int):=by rw[dx (by rw[Hj];exact hs)];simp[Cz]
theorem Sg{n:Nat}:((aG (n+1)).map fun s=>(jz t r h s:Int))=((aG n).map fun s=>(jz t r h s:Int))++[(jz t r h n:Int)]:=by rw[ii,dm];rfl
theorem acN(hh:h<t.aU.l.length):(((!true)||(decide ((h:Int)<0)))||(decide ((h:Int)>=(t.aU.l.length:Int))))=false:=by simp only[bX,sL,bV,decide_eq_false_iff_not];omega
theorem LP(hV:kK t r){s:Nat}(hs:s<r.l.length)(hh:h<t.aU.l.length):tq r (s:Int) (h:Int)=some (gA r h s,true):=by
 have h1:decide ((s:Int)<0)=false:=by rw[decide_eq_false_iff_not];omega
 have h2:decide ((s:Int)>=(r.l.length:Int))=false:=by rw[decide_eq_false_iff_not];omega
 have h3:decide ((h:Int)<0)=false:=by rw[decide_eq_false_iff_not];omega
 have hrl:=hV.dK hs;have h4:decide ((h:Int)>=((gt r.l s).l.length:Int))=false:=by rw[decide_eq_false_iff_not];omega
 have hhl:h<(gt r.l s).l.length:=by omega
 simp only[tq,h1,h2,h3,Bool.or_self,cond_false,aY hs,aa,h4,aY hhl,gA]
theorem U5(hV:kK t r)(hh:h<t.aU.l.length){s:Nat}(hs:s<r.l.length):
  vV t r (s:Int) (h:Int)=some ((Cv t s (gA r h s)).1,(Cv t s (gA r h s)).2.2.2):=by
 have hlk:=hV.EA.xQ;simp only[vV,LP hV hs hh,aa,bX,cond_false,Vf _ _ (show t.aS.l.length<9223372036854775808 by omega)]
def mf(l:List Nat):List Int:=l.map fun(x:Nat)=>(x:Int)
theorem yt(l:List Nat):(mf l).length=l.length:=by simp[mf]
theorem J9(l:List Nat)(i:Nat):gt (mf l) i=((gt l i:Nat):Int):=by simp only[gt,mf,List.getD_eq_getElem?_getD,List.getElem?_map];cases l[i]?<;>rfl
theorem VV{l:List Nat}{k:Nat}:(k:Int)∈mf l<->k∈l:=by simp only[mf,aR];exact⟨fun⟨y,hy,e⟩=>by rw[show k=y by omega];exact hy,fun h=>⟨k,h,rfl⟩⟩
theorem VW(l:List Nat)(k:Nat):mf l++[(k:Int)]=mf (l++[k]):=by simp[mf]
theorem AX{s:Sl Int}(x:Int)(hb:s.l.length<9223372036854775808):cJ s x=some (decide (x∈s.l)):=by
 have h:=xO (f:=dB s x) s.l (fun i y=>if x=y then some (i:Int)else none) () hb (fun i hi=>by
  have e:(x==gt s.l i)=decide (x=gt s.l i):=by rw[cF];simp
  simp only[dB,fT hi,cond_true,aY hi,aa,e];by_cases hc:x=gt s.l i
  .rw [if_pos hc,decide_eq_true hc];rfl
  .rw [if_neg hc,decide_eq_false hc];rfl) (by simp only[dB,ij,cond_false])
 simp only[cJ,g9,h,aa];cases hs:lE (fun i y=>if x=y then some (i:Int)else none) s.l 0 with
 |none=>
  have hn:x∉s.l:=by intro hx;obtain⟨j,hj,e⟩:=fD hx;have:=nP.1 hs j s.l[j] (by simp[hj]);rw[if_pos e.symm]at this;simp at this
  rw[decide_eq_false hn];rfl
 |some b=>
  obtain⟨j,y,h1,h2,_⟩:=kw hs;split at h2
  .rename_i hx;obtain rfl:=af h2;rw[decide_eq_true (by rw[hx];exact bA h1)];simp only[aa,eZ,decide_eq_true_eq];omega
  .simp at h2
theorem Je{l:List Nat}{x:Nat}(hb:l.length<1000000):kH (.mk (mf (l++[x])))=some (decide (x∈l)):=by
 have main:∀s:Sl Int,s=.mk (mf (l++[x]))->kH s=some (decide (x∈l)):=by
  intro s hs;have hsl:s.l=mf (l++[x]):=by rw[hs];rfl
  have hlen:s.l.length=l.length+1:=by rw[hsl,yt];simp
  have h0:decide ((s.l.length:Int)>0)=true:=by rw[decide_eq_true_eq];omega
  have hw:wr .i64 ((s.l.length:Int)-1)=(l.length:Int):=by rw[hlen,gZ (by omega) (by omega)];omega
  have hcut:rG s.l 0 (l.length:Int)=some (mf l):=by rw[By];refine⟨⟨Int.le_refl _,by omega,by omega⟩,?_⟩;rw[hsl];simp[mf]
  have hi:l.length<s.l.length:=by omega
  have hg:gt s.l l.length=(x:Int):=by rw[hsl,J9,dx (by simp)];simp
  have hto:s.to (mf l)=.mk (mf l):=by rw[hs];rfl
  have hc:=AX (s:=.mk (mf l)) (x:Int) (by rw[Sl.lc,yt];omega);have hm:decide ((x:Int)∈(Sl.mk (mf l)).l)=decide (x∈l):=by rw[cF,decide_eq_true_eq,decide_eq_true_eq];exact VV
  rw[hm]at hc;simp only[kH,h0,cond_true,hw,hcut,aa,aY hi,hto,hg,hc]
 exact main _ rfl
theorem PP(s:Nat):decide ((gt t.aU.l h)=(⟨(s:Int),gA r h s⟩:dY))=decide (GC t r h s):=by rw[cF,decide_eq_true_eq,decide_eq_true_eq (p:=GC t r h s)];unfold GC;generalize gt t.aU.l h=x;obtain⟨a,b⟩:=x;exact Prod.mk.injEq ..▸Iff.rfl
theorem ZB{o:List Nat}{k:Nat}:gt (o++[k]) o.length=k:=by rw[dx (by simp)];simp
theorem W5(hV:kK t r)(hh:h<t.aU.l.length):∀(m:Nat)(l:List Nat)(x:Nat),x<r.l.length->(∀y∈l,∃j,m<j/\yl t r h y j)->yl t r h x m->l.length+m<1000->
  ∃w:List Int,aJ (m_ t r (h:Int)) (.mk (mf (l++[x])))=some (.inl (0,.mk w))/\w.length=l.length+m+1:=by
 intro m;induction m with
 |zero=>
  intro l x hx hl ha hb;have hno:x∉l:=fun hm=>by obtain⟨j,h1,h2⟩:=hl x hm;have:=h2.zH ha;omega
  have htw:=Je (l:=l) (x:=x) (by omega);rw[decide_eq_false hno]at htw;have hlen:(Sl.mk (mf (l++[x]))).l.length=l.length+1:=by rw[Sl.lc,yt];simp
  have hw:wr .i64 (((Sl.mk (mf (l++[x]))).l.length:Int)-1)=(l.length:Int):=by rw[hlen,gZ (by omega) (by omega)];omega
  have hi:l.length<(Sl.mk (mf (l++[x]))).l.length:=by omega
  have hg:gt (Sl.mk (mf (l++[x]))).l l.length=(x:Int):=by rw[Sl.lc,J9,ZB]
  have hhr:h<(gt r.l x).l.length:=by rw[hV.dK hx];exact hh
  have hport:gt (gt r.l x).l h=gA r h x:=rfl;cases ha with|Lk hH=>refine⟨_,bW (by simp only[m_,htw,aa,fq,cond_true,hw,aY hi,aY hh,hg,aY hx,aY hhr,hport,PP,decide_eq_true hH];rfl),by rw[yt];simp⟩
 |succ m ih=>
  intro l x hx hl ha hb;have hno:x∉l:=fun hm=>by obtain⟨j,h1,h2⟩:=hl x hm;have:=h2.zH ha;omega
  have htw:=Je (l:=l) (x:=x) (by omega);rw[decide_eq_false hno]at htw;have hlen:(Sl.mk (mf (l++[x]))).l.length=l.length+1:=by rw[Sl.lc,yt];simp
  have hw:wr .i64 (((Sl.mk (mf (l++[x]))).l.length:Int)-1)=(l.length:Int):=by rw[hlen,gZ (by omega) (by omega)];omega
  have hi:l.length<(Sl.mk (mf (l++[x]))).l.length:=by omega
  have hg:gt (Sl.mk (mf (l++[x]))).l l.length=(x:Int):=by rw[Sl.lc,J9,ZB]
  have hhr:h<(gt r.l x).l.length:=by rw[hV.dK hx];exact hh
  have hport:gt (gt r.l x).l h=gA r h x:=rfl;have ha0:=ha;cases ha with
  |@iT _ y _ hH hn ha'=>
   rcases GZ (h:=h) hV x with⟨e1,_⟩|⟨y',b,c,e1,hy,e2⟩
   .rw [e1]at hn;cases hn
   .rw [e1]at hn;obtain rfl:=af hn
    obtain⟨w,h1,h2⟩:=ih (l++[x]) y' hy (fun z hz=>by
     rcases List.mem_append.1 hz with hz|hz
     .obtain ⟨j,q1,q2⟩:=hl z hz;exact⟨j,by omega,q2⟩
     .obtain rfl:=aB.1 hz;exact⟨m+1,by omega,ha0⟩) ha' (by rw[au,aH];omega)
    refine⟨w,?_,by rw[h2,au,aH];omega⟩;rw[dD (a':=.mk (mf (l++[x]++[y'])))]
    .exact h1
    .have hcap:fA ((Sl.mk (mf (l++[x]))).l++[(y':Int)])=some (mf (l++[x]++[y'])):=by rw[Sl.lc,kz (by rw[au,yt];simp;omega),VW]
     simp only[m_,htw,aa,fq,cond_true,hw,aY hi,aY hh,hg,aY hx,aY hhr,hport,PP,decide_eq_false hH,cond_false,U5 hV hh hx,e2,bX,hcap]
theorem EI(hV:kK t r):mF t r=some true:=by have hsm:=hV.zW;rw[OF (by omega) (fun dK hm=>by have:=(hV.XY dK hm).1;have:=hV.EA.sq;omega),decide_eq_true hV]
theorem Uz(hV:kK t r)(hh:h<t.aU.l.length){s k:Nat}(hs:s<r.l.length)(ha:yl t r h s k):∃w:List Int,vS t r (s:Int) (h:Int)=some (.mk w,0)/\w.length=k+1:=by have hk:=ha.lt hV hs;have hsm:=hV.zW;obtain⟨w,h1,h2⟩:=W5 hV hh k [] s hs (fun y hy=>by simp at hy) ha (by simp;omega);have h1:aJ (m_ t r (h:Int)) (.mk [(s:Int)])=_:=h1;exact⟨w,by simp only[vS,LP hV hs hh,EI hV,aa,bX,cond_false,h1],by simpa using h2⟩
theorem TZ(hG:jS t r)(hh:h<t.aU.l.length)(hn:0<r.l.length):vW t r (h:Int)=some (.mk (Cz t r h)):=by
 have hsm:=hG.1.zW
 have main:∀(d i:Nat),i+d=r.l.length->∀s:Sl Int,s.l=((aG i).map fun s=>(jz t r h s:Int))->(0<i\/0<d)->(0<i->s=.mk s.l)->aJ (oI t r (h:Int)) ((i:Int),s)=some (.mk (Cz t r h)):=by
  intro d;induction d with
  |zero=>
   intro i hi s hs hp hmk;obtain rfl:i=r.l.length:=by omega
   rw[bW (b:=s) (by simp only[oI,ij,cond_false]),hmk (by omega),hs];rfl
  |succ d ih=>
   intro i hi s hs hp hmk;have hlt:i<r.l.length:=by omega
   have ha:=hG.jz hlt hh;have hb:=hG.lt hlt hh;obtain⟨l,h1,h2⟩:=Uz hG.1 hh hlt ha;have hw:wr .i64 (((Sl.mk l).l.length:Int)-1)=(jz t r h i:Int):=by rw[Sl.lc,h2,gZ (by omega) (by omega)];omega
   have hsl:s.l.length=i:=by rw[hs];simp
   rw[dD (a':=(((i+1:Nat):Int),.mk (s.l++[(jz t r h i:Int)]))) (by simp only[oI,fT hlt,cond_true,h1,aa,hw,kz (show(s.l++[(jz t r h i:Int)]).length<=2147483648 by rw[au,aH];omega),pN (show i<9223372036854775807 by omega)])];exact ih (i+1) (by omega) _ (by rw[Sl.lc,hs,Sg]) (.inl (by omega)) (fun _=>rfl)
 have h1:aJ (oI t r (h:Int)) (0,Sl.nil)=_:=main r.l.length 0 (by omega) .nil rfl (.inr hn) (fun h=>by omega);simp only[vW,EI hG.1,aa,acN hh,cond_false,h1]
theorem jS.pos(hG:jS t r):0<r.l.length:=by have:=hG.1.len;have:=hG.1.EA.sw;omega
theorem PV(hG:jS t r):tw t r=some true:=by
 have hsm:=hG.1.zW;have hho:=hG.1.sq
 have h1:=xO (f:=pD t r) (β:=Bool) (γ:=Unit) (aG t.aU.l.length) (fun _ _=>none) () (by simp;omega) (fun i hi=>by
  have hi:i<t.aU.l.length:=by simpa using hi
  have hno:(-1:Int)∉(Sl.mk (Cz t r i)).l:=fun hm=>by obtain⟨s,_,e⟩:=aR.1 hm;omega
  have hc:=AX (s:=.mk (Cz t r i)) (-1) (by rw[Sl.lc,Hj];omega);rw[decide_eq_false hno]at hc;simp only[pD,fT hi,cond_true,TZ hG hi hG.pos,aa,hc,cond_false]) (by simp only[pD,bB,ij,cond_false])
 have h2:lE (β:=Bool) (fun(_ _:Nat)=>none) (aG t.aU.l.length) 0=none:=nP.2 fun _ _ _=>rfl;rw[h2]at h1;simp only[tw,EI hG.1,aa,bX,cond_false,h1]
end
end Go.Proofs.YtoekkpmeeclpeaaGreat.S
open Go.Ev Go Go.Fl Go.Ways
namespace Go.Proofs.YtoekkpmeeclpeaaGreat.S
section
variable{t:am}{L:List Nat}(hV:gB t)
theorem GK{c:Nat->Nat}{g i:Nat}(h:Bb t L c g i≠-1):∃x∈gd t (i:Int),Bb t L c g i=x.fU/\xE t L c g x.To.toNat+1=xE t L c g i/\b9 (jI t L) c i (ed L x)=true:=by unfold Bb at h|-;cases hf:(gd t (i:Int)).find? (fun x=>b9 (jI t L) c i (ed L x)&&(xE t L c g x.To.toNat+1==xE t L c g i))with|none=>rw[hf]at h;exact absurd rfl h|some x=>have h2:=List.find?_some hf;rw[ax]at h2;exact⟨x,List.mem_of_find?_eq_some hf,rfl,beq_iff_eq.1 h2.2,h2.1⟩
include hV in
theorem abH{i:Nat}{x:aM}(h:x∈gd t (i:Int)):0<=x.fU/\x.fU<8:=by obtain⟨j,l,b,h1,h2,h3⟩:=(uP hV).1 h;have hp:=hV.jq ⟨(i:Int),x.fU⟩ (by rw[mr];exact List.mem_append_left _ (bL.2 ⟨l,bA h1,h2.yq⟩));exact hp.2
abbrev rts(t:am)(L:List Nat):Sl (Sl Int):=Sl.mk (dK t.ao.toNat fun i=>f9 (nA t L t.aU.l.length i))
theorem Jw{s h:Nat}(hs:s<t.ao.toNat)(hh:h<t.aU.l.length):gA (rts t L) h s=rQ t L h s:=by unfold gA;rw[jX,jt hs,yC];unfold nA;rw[agc (by rw[bB];exact hh)];congr 1;rw[dx (by rw[bB];exact hh)];simp
include hV in
theorem XW(hno:¬aaQ t L):jS t (rts t L):=by
 obtain⟨s1,s2,s3⟩:=rA hV;have hlen:(rts t L).l.length=t.ao.toNat:=by rw[jX,eo]
 refine⟨⟨hV,by rw[hlen];omega,fun r hr=>?_⟩,fun s hs h hh=>?_⟩
 .rw [jX]at hr;obtain⟨i,hi,rfl⟩:=aR.1 hr;have hi:=ct.1 hi;rw[yC];refine⟨by unfold nA;simp,fun p hp=>?_⟩;obtain⟨h,hh,rfl⟩:=aR.1 hp;have hh:=ct.1 hh;have hne:rQ t L h i≠-1:=fun e=>hno ⟨h,hh,i,hi,e⟩;obtain⟨p1,p2,p3,p4⟩:=IX hV hh;unfold rQ Jf at hne|-;by_cases e:i=hg t h
  .rw [if_pos e];exact⟨p3,p4⟩
  .rw [if_neg e]at hne|-;obtain⟨x,x1,x2,_⟩:=GK hne;rw[x2];exact abH hV x1
 .rw [hlen]at hs;obtain⟨p1,p2,p3,p4⟩:=IX hV hh;have hgn:hg t h<t.ao.toNat:=by unfold hg;omega
  have hat:(gt t.aU.l h).At=((hg t h:Nat):Int):=by unfold hg;omega
  have key:∀(m s:Nat),s<t.ao.toNat->xE t L (cB t L (hg t h)) (hg t h) s+1=(m:Int)->∃k,yl t (rts t L) h s k:=by
   intro m;induction m with
   |zero=>
    intro s hs hm;by_cases e:s=hg t h
    .exact ⟨0,.Lk ⟨by rw[hat,e],by rw[Jw hs hh];unfold rQ Jf;rw[if_pos e]⟩⟩
    .exfalso;have hne:rQ t L h s≠-1:=fun q=>hno ⟨h,hh,s,hs,q⟩;unfold rQ Jf at hne;rw[if_neg e]at hne;obtain⟨x,x1,x2,x3,_⟩:=GK hne;have:=(yc (E:=jI t L) (c:=cB t L (hg t h)) (g:=hg t h) (t.ao.toNat-1) x.To.toNat).1;unfold xE at x3 hm;omega
   |succ m ih=>
    intro s hs hm;by_cases e:s=hg t h
    .exact ⟨0,.Lk ⟨by rw[hat,e],by rw[Jw hs hh];unfold rQ Jf;rw[if_pos e]⟩⟩
    .have hne:rQ t L h s≠-1:=fun q=>hno ⟨h,hh,s,hs,q⟩;have htr:rQ t L h s=Bb t L (cB t L (hg t h)) (hg t h) s:=by unfold rQ Jf;rw[if_neg e]
     rw[htr]at hne;obtain⟨x,x1,x2,x3,_⟩:=GK hne;obtain⟨k1,k2,k3,k4,k5⟩:=qY hV x1;obtain⟨k,hk⟩:=ih x.To.toNat (by omega) (by omega);refine⟨k+1,.iT (fun q=>e ?_) ?_ hk⟩
     .have:=q.1;rw[hat]at this;omega
     .obtain ⟨j,l,b,h1,h2,h3⟩:=(uP hV).1 x1;unfold EV;rw[Jw hs hh,htr,x2,(JH hV).2 ⟨j,l,h1,h2,h3⟩];rfl
  have hr:=(yc (E:=jI t L) (c:=cB t L (hg t h)) (g:=hg t h) (t.ao.toNat-1) s).1;exact key (xE t L (cB t L (hg t h)) (hg t h) s+1).toNat s hs (by unfold xE;omega)
end
end Go.Proofs.YtoekkpmeeclpeaaGreat.S
