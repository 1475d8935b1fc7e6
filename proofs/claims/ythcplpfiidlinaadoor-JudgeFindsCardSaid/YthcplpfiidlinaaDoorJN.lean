/- Routes of any kind: what the program's Walk, Far, r_ and jf answer. Conditions: as stated. -/
import Derived.Test.YthcplpfiidlinaaDoorJM
open Go.Ev Go
noncomputable section
open Bool renaming not_false->eI,not_true->ce
open List renaming length_append->av,length_singleton->bo,mem_map->ci,mem_range->ft,mem_singleton->aq,range->aK
open Option renaming bind_some->af
namespace Go.Proofs.YthcplpfiidlinaaDoor.J
section
variable{t:ah}{r:Sl (Sl Int)}{h:Nat}
theorem HP(hV:jk t r)(hh:h<t.bd.l.length):∀(d:Nat)(l:List Nat)(x:Nat),l.length+d=9->l.Nodup->(∀y∈l++[x],y<r.l.length)->(∀k,¬iY t r h x k)->
  bD (dX t r (h:Int)) (.mk (gB (l++[x])))=some (.inr ())\/∃e,e≠0/\bD (dX t r (h:Int)) (.mk (gB (l++[x])))=some (.inl (e,.nil)):=by
 have hsm:=hV.su;intro d;induction d with
 |zero=>intro l x hd hnd hlt _;exfalso;have hsub:l⊆aK r.l.length:=fun y hy=>ft.2 (hlt y (List.mem_append_left _ hy));have:=hnd.length_le_of_subset hsub;simp at this;omega
 |succ d ih=>
  intro l x hd hnd hlt hno;have hx:x<r.l.length:=hlt x (by simp);have htw:=uj (l:=l) (x:=x) (by omega);by_cases hm:x∈l
  .rw [decide_eq_true hm]at htw;exact .inl (cA (by simp only[dX,htw,af,ce,cond_false]))
  rw[decide_eq_false hm]at htw;have hlen:(Sl.mk (gB (l++[x]))).l.length=l.length+1:=by rw[Sl.iM,mE];simp
  have hw:wr .i64 (((Sl.mk (gB (l++[x]))).l.length:Int)-1)=(l.length:Int):=by rw[hlen,ie (by omega) (by omega)];omega
  have hi:l.length<(Sl.mk (gB (l++[x]))).l.length:=by omega
  have hg:gt (Sl.mk (gB (l++[x]))).l l.length=(x:Int):=by rw[Sl.iM,vj,F7]
  have hhr:h<(gt r.l x).l.length:=by rw[hV.dj hx];exact hh
  have hport:gt (gt r.l x).l h=c9 r h x:=rfl;have hH:¬zA t r h x:=fun hH=>hno 0 (.BU hH);rcases qB (h:=h) hV x with⟨_,e2⟩|⟨y,b,c,e1,hy,e2⟩
  .exact .inr ⟨13,by decide,cA (by simp only[dX,htw,af,eI,cond_true,hw,bp hi,bp hh,hg,bp hx,bp hhr,hport,vk,decide_eq_false hH,cond_false,vY hV hh hx,e2])⟩
  .have hcap:iF ((Sl.mk (gB (l++[x]))).l++[(y:Int)])=some (gB (l++[x]++[y])):=by rw[Sl.iM,ij (by rw[av,mE];simp;omega),AO]
   rw[dl (a':=.mk (gB (l++[x]++[y]))) (by simp only[dX,htw,af,eI,cond_true,hw,bp hi,bp hh,hg,bp hx,bp hhr,hport,vk,decide_eq_false hH,cond_false,vY hV hh hx,e2,ce,hcap])];refine ih (l++[x]) y (by rw[av,bo];omega) ?_ (fun z hz=>?_) fun k hk=>hno (k+1) (.kF hH e1 hk)
   .exact List.nodup_append.2 ⟨hnd,by simp,fun a ha b hb=>by rw[aq]at hb;subst hb;exact fun e=>hm (e▸ha)⟩
   .rcases List.mem_append.1 hz with hz|hz
    .exact hlt z hz
    .obtain rfl:=aq.1 hz;exact hy
theorem HO(hV:jk t r)(hh:h<t.bd.l.length){s:Nat}(hs:s<r.l.length)(hno:∀k,¬iY t r h s k):∃e,jA t r (s:Int) (h:Int)=some (.nil,e):=by
 rcases HP hV hh 9 [] s rfl List.nodup_nil (fun y hy=>by
  have e:y=s:=by simpa using hy
  rw[e];exact hs) hno with h1|⟨e,_,h1⟩
 .have h1:bD (dX t r (h:Int)) (.mk [(s:Int)])=_:=h1;exact⟨12,by simp only[jA,tn hV hs hh,mn hV,af,ce,cond_false,h1]⟩
 .have h1:bD (dX t r (h:Int)) (.mk [(s:Int)])=_:=h1;exact⟨e,by simp only[jA,tn hV hs hh,mn hV,af,ce,cond_false,h1]⟩
def uc(t:ah)(r:Sl (Sl Int))(h s:Nat):Int:=bif tt (∃k,iY t r h s k)then(eH t r h s:Int)else-1
theorem Ov(hV:jk t r)(hh:h<t.bd.l.length):∃S,lw t r (h:Int)=some S/\S.l=(aK r.l.length).map (uc t r h):=by
 have hsm:=hV.su
 have main:∀(d i:Nat),i+d=r.l.length->∀s:Sl Int,s.l=(aK i).map (uc t r h)->∃S,bD (gz t r (h:Int)) ((i:Int),s)=some S/\S.l=(aK r.l.length).map (uc t r h):=by
  intro d;induction d with
  |zero=>
   intro i hi s hs;obtain rfl:i=r.l.length:=by omega
   exact⟨s,cA (by simp only[gz,kH,cond_false]),hs⟩
  |succ d ih=>
   intro i hi s hs;have hlt:i<r.l.length:=by omega
   have hsl:s.l.length=i:=by rw[hs];simp
   have hstep:∃l e,jA t r (i:Int) (h:Int)=some (l,e)/\wr .i64 ((l.l.length:Int)-1)=uc t r h i:=by
    by_cases hk:∃k,iY t r h i k
    .obtain ⟨k,hk⟩:=hk;obtain⟨w,h1,h2⟩:=Al hV hh hlt hk;have:=hk.lt hV hlt;refine⟨_,_,h1,?_⟩;rw[uc,Bs ⟨k,hk⟩,cond_true,B3 hk,Sl.iM,h2,ie (by omega) (by omega)];omega
    .obtain ⟨e,h1⟩:=HO hV hh hlt (fun k hk2=>hk ⟨k,hk2⟩);refine⟨_,_,h1,?_⟩;rw[uc,xR hk,cond_false];rfl
   obtain⟨l,e,h1,h2⟩:=hstep;obtain⟨S,h3,h4⟩:=ih (i+1) (by omega) (.mk (s.l++[uc t r h i])) (by rw[Sl.iM,hs,List.range_succ,List.map_append];rfl);exact⟨S,(dl (by simp only[gz,js hlt,cond_true,h1,af,h2,ij (show(s.l++[uc t r h i]).length<=2147483648 by rw[av,bo];omega),kY (show i<9223372036854775807 by omega)])).trans h3,h4⟩
 obtain⟨S,h1,h2⟩:=main r.l.length 0 (by omega) .nil rfl;have h1:bD (gz t r (h:Int)) (0,Sl.nil)=_:=h1;exact⟨S,by simp only[lw,mn hV,af,Hx hh,cond_false,h1],h2⟩
theorem vp(hS:ng t r):ir t r=some (tt (gx t r)):=by
 by_cases hV:jk t r
 rotate_left
 .unfold ir;rw[wQ (by have:=hS.2.2.2;omega) (fun dj hm=>by have:=hS.1 dj hm;omega),decide_eq_false hV,xR fun h=>hV h.1];rfl
 have hsm:=hV.su;have hho:=hV.rO;by_cases hG:gx t r
 .rw [yV hG,Bs hG]
 have h1:=wP (f:=gW t r) (β:=Bool) (γ:=Unit) (aK t.bd.l.length) (fun _ h=>bif tt (∀s,s<r.l.length->∃k,iY t r h s k)then none else some false) () (by simp;omega) (fun i hi=>by
  have hi:i<t.bd.l.length:=by simpa using hi
  rw[yj hi];obtain⟨S,h1,h2⟩:=Ov hV hi;have hc:=l_ (s:=S) (-1) (by rw[h2];simp;omega)
  have hm:decide ((-1:Int)∈S.l)=!tt (∀s,s<r.l.length->∃k,iY t r i s k):=by
   rw[Bool.eq_iff_iff,decide_eq_true_eq,Bool.not_eq_true',CB,h2];constructor
   .intro hm hall;obtain⟨s,hs,e⟩:=ci.1 hm;rw[uc,Bs (hall s (ft.1 hs)),cond_true]at e;omega
   .intro hn;obtain⟨s,hs⟩:=Classical.not_forall.1 hn;obtain⟨hs,hk⟩:=Classical.not_imp.1 hs;exact ci.2 ⟨s,ft.2 hs,by rw[uc,xR hk,cond_false]⟩
  rw[hm]at hc;simp only[gW,js hi,cond_true,h1,af,hc];cases tt (∀s,s<r.l.length->∃k,iY t r i s k)<;>rfl) (by simp only[gW,List.length_range,kH,cond_false])
 simp only[ir,mn hV,af,ce,cond_false,h1];cases hc:lT (fun(_:Nat)h=>bif tt (∀s,s<r.l.length->∃k,iY t r h s k)then none else some false) (aK t.bd.l.length) 0 with
 |none=>exfalso;refine hG ⟨hV,fun s hs h hh=>?_⟩;have:=nD.1 hc h h (by simp[hh]);cases hq:tt (∀s,s<r.l.length->∃k,iY t r h s k)with|true=>exact Br.1 hq s hs|false=>rw[hq]at this;simp at this
 |some b=>
  obtain⟨j,x,h2,h3,_⟩:=nC hc;cases hq:tt (∀s,s<r.l.length->∃k,iY t r x s k)with
  |true=>rw[hq]at h3;simp at h3
  |false=>
   rw[hq]at h3;obtain rfl:false=b:=by simpa using h3
   rw[xR hG]
theorem IQ{old now:Sl (Sl Int)}(hO:ng t old)(hN:ng t now)(hG:¬(gx t old/\gx t now)):mD t old now=some (.nil,2):=by
 unfold mD;rw[vp hO,vp hN];by_cases h1:gx t old
 .rw [Bs h1,xR fun h2=>hG ⟨h1,h2⟩];rfl
 .rw [xR h1];rfl
end
end Go.Proofs.YthcplpfiidlinaaDoor.J
