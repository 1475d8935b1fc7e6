/- Routes of any kind: what the program's Walk, Far, sh and iZ answer. Conditions: as stated. -/
import Derived.Test.YthcplpfiidlinaaDoorJM
open Go.Ev Go
noncomputable section
open Bool renaming not_false->dQ,not_true->bS
open List renaming length_append->av,length_singleton->bp,mem_map->cj,mem_range->fz,mem_singleton->aq,range->aK
open Option renaming bind_some->af
namespace Go.Proofs.YthcplpfiidlinaaDoor.J
section
variable{t:ah}{r:Sl (Sl Int)}{h:Nat}
theorem HW(hV:jl t r)(hh:h<t.bd.l.length):∀(d:Nat)(l:List Nat)(x:Nat),l.length+d=9->l.Nodup->(∀y∈l++[x],y<r.l.length)->(∀k,¬i_ t r h x k)->
  bD (d_ t r (h:Int)) (.mk (gC (l++[x])))=some (.inr ())\/∃e,e≠0/\bD (d_ t r (h:Int)) (.mk (gC (l++[x])))=some (.inl (e,.nil)):=by
 have hsm:=hV.sC;intro d;induction d with
 |zero=>intro l x hd hnd hlt _;exfalso;have hsub:l⊆aK r.l.length:=fun y hy=>fz.2 (hlt y (List.mem_append_left _ hy));have:=hnd.length_le_of_subset hsub;simp at this;omega
 |succ d ih=>
  intro l x hd hnd hlt hno;have hx:x<r.l.length:=hlt x (by simp);have htw:=uq (l:=l) (x:=x) (by omega);by_cases hm:x∈l
  .rw [decide_eq_true hm]at htw;exact .inl (cB (by simp only[d_,htw,af,bS,cond_false]))
  rw[decide_eq_false hm]at htw;have hlen:(Sl.mk (gC (l++[x]))).l.length=l.length+1:=by rw[Sl.iO,mJ];simp
  have hw:wr .i64 (((Sl.mk (gC (l++[x]))).l.length:Int)-1)=(l.length:Int):=by rw[hlen,ig (by omega) (by omega)];omega
  have hi:l.length<(Sl.mk (gC (l++[x]))).l.length:=by omega
  have hg:gt (Sl.mk (gC (l++[x]))).l l.length=(x:Int):=by rw[Sl.iO,vq,Ga]
  have hhr:h<(gt r.l x).l.length:=by rw[hV.dj hx];exact hh
  have hport:gt (gt r.l x).l h=c_ r h x:=rfl;have hH:¬zI t r h x:=fun hH=>hno 0 (.B5 hH);rcases qE (h:=h) hV x with⟨_,e2⟩|⟨y,b,c,e1,hy,e2⟩
  .exact .inr ⟨13,by decide,cB (by simp only[d_,htw,af,dQ,cond_true,hw,bq hi,bq hh,hg,bq hx,bq hhr,hport,vr,decide_eq_false hH,cond_false,wd hV hh hx,e2])⟩
  .have hcap:iH ((Sl.mk (gC (l++[x]))).l++[(y:Int)])=some (gC (l++[x]++[y])):=by rw[Sl.iO,ik (by rw[av,mJ];simp;omega),AZ]
   rw[dl (a':=.mk (gC (l++[x]++[y]))) (by simp only[d_,htw,af,dQ,cond_true,hw,bq hi,bq hh,hg,bq hx,bq hhr,hport,vr,decide_eq_false hH,cond_false,wd hV hh hx,e2,bS,hcap])];refine ih (l++[x]) y (by rw[av,bp];omega) ?_ (fun z hz=>?_) fun k hk=>hno (k+1) (.kI hH e1 hk)
   .exact List.nodup_append.2 ⟨hnd,by simp,fun a ha b hb=>by rw[aq]at hb;subst hb;exact fun e=>hm (e▸ha)⟩
   .rcases List.mem_append.1 hz with hz|hz
    .exact hlt z hz
    .obtain rfl:=aq.1 hz;exact hy
theorem HV(hV:jl t r)(hh:h<t.bd.l.length){s:Nat}(hs:s<r.l.length)(hno:∀k,¬i_ t r h s k):∃e,jB t r (s:Int) (h:Int)=some (.nil,e):=by
 rcases HW hV hh 9 [] s rfl List.nodup_nil (fun y hy=>by
  have e:y=s:=by simpa using hy
  rw[e];exact hs) hno with h1|⟨e,_,h1⟩
 .have h1:bD (d_ t r (h:Int)) (.mk [(s:Int)])=_:=h1;exact⟨12,by simp only[jB,tD hV hs hh,mu hV,af,bS,cond_false,h1]⟩
 .have h1:bD (d_ t r (h:Int)) (.mk [(s:Int)])=_:=h1;exact⟨e,by simp only[jB,tD hV hs hh,mu hV,af,bS,cond_false,h1]⟩
def uh(t:ah)(r:Sl (Sl Int))(h s:Nat):Int:=bif tt (∃k,i_ t r h s k)then(eL t r h s:Int)else-1
theorem Ox(hV:jl t r)(hh:h<t.bd.l.length):∃S,lD t r (h:Int)=some S/\S.l=(aK r.l.length).map (uh t r h):=by
 have hsm:=hV.sC
 have main:∀(d i:Nat),i+d=r.l.length->∀s:Sl Int,s.l=(aK i).map (uh t r h)->∃S,bD (gA t r (h:Int)) ((i:Int),s)=some S/\S.l=(aK r.l.length).map (uh t r h):=by
  intro d;induction d with
  |zero=>
   intro i hi s hs;obtain rfl:i=r.l.length:=by omega
   exact⟨s,cB (by simp only[gA,kK,cond_false]),hs⟩
  |succ d ih=>
   intro i hi s hs;have hlt:i<r.l.length:=by omega
   have hsl:s.l.length=i:=by rw[hs];simp
   have hstep:∃l e,jB t r (i:Int) (h:Int)=some (l,e)/\wr .i64 ((l.l.length:Int)-1)=uh t r h i:=by
    by_cases hk:∃k,i_ t r h i k
    .obtain ⟨k,hk⟩:=hk;obtain⟨w,h1,h2⟩:=Aw hV hh hlt hk;have:=hk.lt hV hlt;refine⟨_,_,h1,?_⟩;rw[uh,BC ⟨k,hk⟩,cond_true,Cd hk,Sl.iO,h2,ig (by omega) (by omega)];omega
    .obtain ⟨e,h1⟩:=HV hV hh hlt (fun k hk2=>hk ⟨k,hk2⟩);refine⟨_,_,h1,?_⟩;rw[uh,xY hk,cond_false];rfl
   obtain⟨l,e,h1,h2⟩:=hstep;obtain⟨S,h3,h4⟩:=ih (i+1) (by omega) (.mk (s.l++[uh t r h i])) (by rw[Sl.iO,hs,List.range_succ,List.map_append];rfl);exact⟨S,(dl (by simp only[gA,jt hlt,cond_true,h1,af,h2,ik (show(s.l++[uh t r h i]).length<=2147483648 by rw[av,bp];omega),k9 (show i<9223372036854775807 by omega)])).trans h3,h4⟩
 obtain⟨S,h1,h2⟩:=main r.l.length 0 (by omega) .nil rfl;have h1:bD (gA t r (h:Int)) (0,Sl.nil)=_:=h1;exact⟨S,by simp only[lD,mu hV,af,HD hh,cond_false,h1],h2⟩
theorem vw(hS:mg t r):iu t r=some (tt (gx t r)):=by
 by_cases hV:jl t r
 rotate_left
 .unfold iu;rw[wW (by have:=hS.2.2.2;omega) (fun dj hm=>by have:=hS.1 dj hm;omega),decide_eq_false hV,xY fun h=>hV h.1];rfl
 have hsm:=hV.sC;have hho:=hV.rT;by_cases hG:gx t r
 .rw [y9 hG,BC hG]
 have h1:=wV (f:=gY t r) (β:=Bool) (γ:=Unit) (aK t.bd.l.length) (fun _ h=>bif tt (∀s,s<r.l.length->∃k,i_ t r h s k)then none else some false) () (by simp;omega) (fun i hi=>by
  have hi:i<t.bd.l.length:=by simpa using hi
  rw[yq hi];obtain⟨S,h1,h2⟩:=Ox hV hi;have hc:=md (s:=S) (-1) (by rw[h2];simp;omega)
  have hm:decide ((-1:Int)∈S.l)=!tt (∀s,s<r.l.length->∃k,i_ t r i s k):=by
   rw[Bool.eq_iff_iff,decide_eq_true_eq,Bool.not_eq_true',CK,h2];constructor
   .intro hm hall;obtain⟨s,hs,e⟩:=cj.1 hm;rw[uh,BC (hall s (fz.1 hs)),cond_true]at e;omega
   .intro hn;obtain⟨s,hs⟩:=Classical.not_forall.1 hn;obtain⟨hs,hk⟩:=Classical.not_imp.1 hs;exact cj.2 ⟨s,fz.2 hs,by rw[uh,xY hk,cond_false]⟩
  rw[hm]at hc;simp only[gY,jt hi,cond_true,h1,af,hc];cases tt (∀s,s<r.l.length->∃k,i_ t r i s k)<;>rfl) (by simp only[gY,List.length_range,kK,cond_false])
 simp only[iu,mu hV,af,bS,cond_false,h1];cases hc:lW (fun(_:Nat)h=>bif tt (∀s,s<r.l.length->∃k,i_ t r h s k)then none else some false) (aK t.bd.l.length) 0 with
 |none=>exfalso;refine hG ⟨hV,fun s hs h hh=>?_⟩;have:=nG.1 hc h h (by simp[hh]);cases hq:tt (∀s,s<r.l.length->∃k,i_ t r h s k)with|true=>exact BB.1 hq s hs|false=>rw[hq]at this;simp at this
 |some b=>
  obtain⟨j,x,h2,h3,_⟩:=nF hc;cases hq:tt (∀s,s<r.l.length->∃k,i_ t r x s k)with
  |true=>rw[hq]at h3;simp at h3
  |false=>
   rw[hq]at h3;obtain rfl:false=b:=by simpa using h3
   rw[xY hG]
theorem IW{old now:Sl (Sl Int)}(hO:mg t old)(hN:mg t now)(hG:¬(gx t old/\gx t now)):mI t old now=some (.nil,2):=by
 unfold mI;rw[vw hO,vw hN];by_cases h1:gx t old
 .rw [BC h1,xY fun h2=>hG ⟨h1,h2⟩];rfl
 .rw [xY h1];rfl
end
end Go.Proofs.YthcplpfiidlinaaDoor.J
