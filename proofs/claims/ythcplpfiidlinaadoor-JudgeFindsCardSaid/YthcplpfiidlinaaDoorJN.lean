/- Routes of any kind: what the program's Walk, Far, Good and Moves answer. Conditions: as stated. -/
import Derived.Test.YthcplpfiidlinaaDoorJM
open Bool renaming not_false->dV,not_true->bS
open List renaming length_append->av,length_singleton->bp,mem_map->cj,mem_range->fD,mem_singleton->ao,range->aL
open Option renaming bind_some->af
open Go.Ev Go
noncomputable section
namespace Go.Proofs.YthcplpfiidlinaaDoor.J
section
variable{t:ah}{r:Sl (Sl Int)}{h:Nat}
theorem H9(hV:jo t r)(hh:h<t.bf.l.length):∀(d:Nat)(l:List Nat)(x:Nat),l.length+d=9->l.Nodup->(∀y∈l++[x],y<r.l.length)->(∀k,¬ja t r h x k)->
  bE (er t r (h:Int)) (.mk (gC (l++[x])))=some (.inr ())\/∃e,e≠0/\bE (er t r (h:Int)) (.mk (gC (l++[x])))=some (.inl (e,.nil)):=by
 have hsm:=hV.sM;intro d;induction d with
 |zero=>intro l x hd hnd hlt _;exfalso;have hsub:l⊆aL r.l.length:=fun y hy=>fD.2 (hlt y (List.mem_append_left _ hy));have:=hnd.length_le_of_subset hsub;simp at this;omega
 |succ d ih=>
  intro l x hd hnd hlt hno;have hx:x<r.l.length:=hlt x (by simp);have htw:=uB (l:=l) (x:=x) (by omega);by_cases hm:x∈l
  .rw [decide_eq_true hm]at htw;exact .inl (cB (by simp only[er,htw,af,bS,cond_false]))
  rw[decide_eq_false hm]at htw;have hlen:(Sl.mk (gC (l++[x]))).l.length=l.length+1:=by rw[Sl.iP,mP];simp
  have hw:wr .i64 (((Sl.mk (gC (l++[x]))).l.length:Int)-1)=(l.length:Int):=by rw[hlen,ii (by omega) (by omega)];omega
  have hi:l.length<(Sl.mk (gC (l++[x]))).l.length:=by omega
  have hg:gt (Sl.mk (gC (l++[x]))).l l.length=(x:Int):=by rw[Sl.iP,vD,Gn]
  have hhr:h<(gt r.l x).l.length:=by rw[hV.dl hx];exact hh
  have hport:gt (gt r.l x).l h=c_ r h x:=rfl;have hH:¬zS t r h x:=fun hH=>hno 0 (.Cc hH);rcases qO (h:=h) hV x with⟨_,e2⟩|⟨y,b,c,e1,hy,e2⟩
  .exact .inr ⟨13,by decide,cB (by simp only[er,htw,af,dV,cond_true,hw,bq hi,bq hh,hg,bq hx,bq hhr,hport,vE,decide_eq_false hH,cond_false,wm hV hh hx,e2])⟩
  .have hcap:iI ((Sl.mk (gC (l++[x]))).l++[(y:Int)])=some (gC (l++[x]++[y])):=by rw[Sl.iP,il (by rw[av,mP];simp;omega),A8]
   rw[dm (a':=.mk (gC (l++[x]++[y]))) (by simp only[er,htw,af,dV,cond_true,hw,bq hi,bq hh,hg,bq hx,bq hhr,hport,vE,decide_eq_false hH,cond_false,wm hV hh hx,e2,bS,hcap])];refine ih (l++[x]) y (by rw[av,bp];omega) ?_ (fun z hz=>?_) fun k hk=>hno (k+1) (.kM hH e1 hk)
   .exact List.nodup_append.2 ⟨hnd,by simp,fun a ha b hb=>by rw[ao]at hb;subst hb;exact fun e=>hm (e▸ha)⟩
   .rcases List.mem_append.1 hz with hz|hz
    .exact hlt z hz
    .obtain rfl:=ao.1 hz;exact hy
theorem H8(hV:jo t r)(hh:h<t.bf.l.length){s:Nat}(hs:s<r.l.length)(hno:∀k,¬ja t r h s k):∃e,jE t r (s:Int) (h:Int)=some (.nil,e):=by
 rcases H9 hV hh 9 [] s rfl List.nodup_nil (fun y hy=>by
  have e:y=s:=by simpa using hy
  rw[e];exact hs) hno with h1|⟨e,_,h1⟩
 .have h1:bE (er t r (h:Int)) (.mk [(s:Int)])=_:=h1;exact⟨12,by simp only[jE,tN hV hs hh,mC hV,af,bS,cond_false,h1]⟩
 .have h1:bE (er t r (h:Int)) (.mk [(s:Int)])=_:=h1;exact⟨e,by simp only[jE,tN hV hs hh,mC hV,af,bS,cond_false,h1]⟩
def ur(t:ah)(r:Sl (Sl Int))(h s:Nat):Int:=bif tt (∃k,ja t r h s k)then(eR t r h s:Int)else-1
theorem OJ(hV:jo t r)(hh:h<t.bf.l.length):∃S,lF t r (h:Int)=some S/\S.l=(aL r.l.length).map (ur t r h):=by
 have hsm:=hV.sM
 have main:∀(d i:Nat),i+d=r.l.length->∀s:Sl Int,s.l=(aL i).map (ur t r h)->∃S,bE (gA t r (h:Int)) ((i:Int),s)=some S/\S.l=(aL r.l.length).map (ur t r h):=by
  intro d;induction d with
  |zero=>
   intro i hi s hs;obtain rfl:i=r.l.length:=by omega
   exact⟨s,cB (by simp only[gA,kO,cond_false]),hs⟩
  |succ d ih=>
   intro i hi s hs;have hlt:i<r.l.length:=by omega
   have hsl:s.l.length=i:=by rw[hs];simp
   have hstep:∃l e,jE t r (i:Int) (h:Int)=some (l,e)/\wr .i64 ((l.l.length:Int)-1)=ur t r h i:=by
    by_cases hk:∃k,ja t r h i k
    .obtain ⟨k,hk⟩:=hk;obtain⟨w,h1,h2⟩:=AE hV hh hlt hk;have:=hk.lt hV hlt;refine⟨_,_,h1,?_⟩;rw[ur,BL ⟨k,hk⟩,cond_true,Cn hk,Sl.iP,h2,ii (by omega) (by omega)];omega
    .obtain ⟨e,h1⟩:=H8 hV hh hlt (fun k hk2=>hk ⟨k,hk2⟩);refine⟨_,_,h1,?_⟩;rw[ur,yf hk,cond_false];rfl
   obtain⟨l,e,h1,h2⟩:=hstep;obtain⟨S,h3,h4⟩:=ih (i+1) (by omega) (.mk (s.l++[ur t r h i])) (by rw[Sl.iP,hs,List.range_succ,List.map_append];rfl);exact⟨S,(dm (by simp only[gA,jw hlt,cond_true,h1,af,h2,il (show(s.l++[ur t r h i]).length<=2147483648 by rw[av,bp];omega),k_ (show i<9223372036854775807 by omega)])).trans h3,h4⟩
 obtain⟨S,h1,h2⟩:=main r.l.length 0 (by omega) .nil rfl;have h1:bE (gA t r (h:Int)) (0,Sl.nil)=_:=h1;exact⟨S,by simp only[lF,mC hV,af,HN hh,cond_false,h1],h2⟩
theorem vH(hS:ml t r):iv t r=some (tt (gy t r)):=by
 by_cases hV:jo t r
 rotate_left
 .unfold iv;rw[w9 (by have:=hS.2.2.2;omega) (fun dl hm=>by have:=hS.1 dl hm;omega),decide_eq_false hV,yf fun h=>hV h.1];rfl
 have hsm:=hV.sM;have hho:=hV.se;by_cases hG:gy t r
 .rw [zk hG,BL hG]
 have h1:=w8 (f:=gZ t r) (β:=Bool) (γ:=Unit) (aL t.bf.l.length) (fun _ h=>bif tt (∀s,s<r.l.length->∃k,ja t r h s k)then none else some false) () (by simp;omega) (fun i hi=>by
  have hi:i<t.bf.l.length:=by simpa using hi
  rw[yE hi];obtain⟨S,h1,h2⟩:=OJ hV hi;have hc:=mi (s:=S) (-1) (by rw[h2];simp;omega)
  have hm:decide ((-1:Int)∈S.l)=!tt (∀s,s<r.l.length->∃k,ja t r i s k):=by
   rw[Bool.eq_iff_iff,decide_eq_true_eq,Bool.not_eq_true',CZ,h2];constructor
   .intro hm hall;obtain⟨s,hs,e⟩:=cj.1 hm;rw[ur,BL (hall s (fD.1 hs)),cond_true]at e;omega
   .intro hn;obtain⟨s,hs⟩:=Classical.not_forall.1 hn;obtain⟨hs,hk⟩:=Classical.not_imp.1 hs;exact cj.2 ⟨s,fD.2 hs,by rw[ur,yf hk,cond_false]⟩
  rw[hm]at hc;simp only[gZ,jw hi,cond_true,h1,af,hc];cases tt (∀s,s<r.l.length->∃k,ja t r i s k)<;>rfl) (by simp only[gZ,List.length_range,kO,cond_false])
 simp only[iv,mC hV,af,bS,cond_false,h1];cases hc:lZ (fun(_:Nat)h=>bif tt (∀s,s<r.l.length->∃k,ja t r h s k)then none else some false) (aL t.bf.l.length) 0 with
 |none=>exfalso;refine hG ⟨hV,fun s hs h hh=>?_⟩;have:=nL.1 hc h h (by simp[hh]);cases hq:tt (∀s,s<r.l.length->∃k,ja t r h s k)with|true=>exact BK.1 hq s hs|false=>rw[hq]at this;simp at this
 |some b=>
  obtain⟨j,x,h2,h3,_⟩:=nJ hc;cases hq:tt (∀s,s<r.l.length->∃k,ja t r x s k)with
  |true=>rw[hq]at h3;simp at h3
  |false=>
   rw[hq]at h3;obtain rfl:false=b:=by simpa using h3
   rw[yf hG]
theorem I6{old now:Sl (Sl Int)}(hO:ml t old)(hN:ml t now)(hG:¬(gy t old/\gy t now)):mO t old now=some (.nil,2):=by
 unfold mO;rw[vH hO,vH hN];by_cases h1:gy t old
 .rw [BL h1,yf fun h2=>hG ⟨h1,h2⟩];rfl
 .rw [yf h1];rfl
end
end Go.Proofs.YthcplpfiidlinaaDoor.J
