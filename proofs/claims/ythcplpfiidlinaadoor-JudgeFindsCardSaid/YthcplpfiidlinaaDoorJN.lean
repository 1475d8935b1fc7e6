/- Routes of any kind: what the program's Walk, Far, sq and jx answer. Conditions: as stated. -/
import Derived.Test.YthcplpfiidlinaaDoorJM
open Go.Ev Go
noncomputable section
open Bool renaming not_false->eO,not_true->ce
open List renaming length_append->av,length_singleton->bo,mem_map->ci,mem_range->fA,mem_singleton->am,range->aL
open Option renaming bind_some->af
namespace Go.Proofs.YthcplpfiidlinaaDoor.J
section
variable{t:ah}{r:Sl (Sl Int)}{h:Nat}
theorem HY(hV:jl t r)(hh:h<t.bf.l.length):∀(d:Nat)(l:List Nat)(x:Nat),l.length+d=9->l.Nodup->(∀y∈l++[x],y<r.l.length)->(∀k,¬iZ t r h x k)->
  bE (eh t r (h:Int)) (.mk (gC (l++[x])))=some (.inr ())\/∃e,e≠0/\bE (eh t r (h:Int)) (.mk (gC (l++[x])))=some (.inl (e,.nil)):=by
 have hsm:=hV.sG;intro d;induction d with
 |zero=>intro l x hd hnd hlt _;exfalso;have hsub:l⊆aL r.l.length:=fun y hy=>fA.2 (hlt y (List.mem_append_left _ hy));have:=hnd.length_le_of_subset hsub;simp at this;omega
 |succ d ih=>
  intro l x hd hnd hlt hno;have hx:x<r.l.length:=hlt x (by simp);have htw:=uw (l:=l) (x:=x) (by omega);by_cases hm:x∈l
  .rw [decide_eq_true hm]at htw;exact .inl (cA (by simp only[eh,htw,af,ce,cond_false]))
  rw[decide_eq_false hm]at htw;have hlen:(Sl.mk (gC (l++[x]))).l.length=l.length+1:=by rw[Sl.iN,mK];simp
  have hw:wr .i64 (((Sl.mk (gC (l++[x]))).l.length:Int)-1)=(l.length:Int):=by rw[hlen,ig (by omega) (by omega)];omega
  have hi:l.length<(Sl.mk (gC (l++[x]))).l.length:=by omega
  have hg:gt (Sl.mk (gC (l++[x]))).l l.length=(x:Int):=by rw[Sl.iN,vy,Gh]
  have hhr:h<(gt r.l x).l.length:=by rw[hV.dj hx];exact hh
  have hport:gt (gt r.l x).l h=c9 r h x:=rfl;have hH:¬zL t r h x:=fun hH=>hno 0 (.B3 hH);rcases qL (h:=h) hV x with⟨_,e2⟩|⟨y,b,c,e1,hy,e2⟩
  .exact .inr ⟨13,by decide,cA (by simp only[eh,htw,af,eO,cond_true,hw,bp hi,bp hh,hg,bp hx,bp hhr,hport,vz,decide_eq_false hH,cond_false,wg hV hh hx,e2])⟩
  .have hcap:iG ((Sl.mk (gC (l++[x]))).l++[(y:Int)])=some (gC (l++[x]++[y])):=by rw[Sl.iN,ik (by rw[av,mK];simp;omega),AZ]
   rw[dl (a':=.mk (gC (l++[x]++[y]))) (by simp only[eh,htw,af,eO,cond_true,hw,bp hi,bp hh,hg,bp hx,bp hhr,hport,vz,decide_eq_false hH,cond_false,wg hV hh hx,e2,ce,hcap])];refine ih (l++[x]) y (by rw[av,bo];omega) ?_ (fun z hz=>?_) fun k hk=>hno (k+1) (.kJ hH e1 hk)
   .exact List.nodup_append.2 ⟨hnd,by simp,fun a ha b hb=>by rw[am]at hb;subst hb;exact fun e=>hm (e▸ha)⟩
   .rcases List.mem_append.1 hz with hz|hz
    .exact hlt z hz
    .obtain rfl:=am.1 hz;exact hy
theorem HX(hV:jl t r)(hh:h<t.bf.l.length){s:Nat}(hs:s<r.l.length)(hno:∀k,¬iZ t r h s k):∃e,jE t r (s:Int) (h:Int)=some (.nil,e):=by
 rcases HY hV hh 9 [] s rfl List.nodup_nil (fun y hy=>by
  have e:y=s:=by simpa using hy
  rw[e];exact hs) hno with h1|⟨e,_,h1⟩
 .have h1:bE (eh t r (h:Int)) (.mk [(s:Int)])=_:=h1;exact⟨12,by simp only[jE,tH hV hs hh,my hV,af,ce,cond_false,h1]⟩
 .have h1:bE (eh t r (h:Int)) (.mk [(s:Int)])=_:=h1;exact⟨e,by simp only[jE,tH hV hs hh,my hV,af,ce,cond_false,h1]⟩
def um(t:ah)(r:Sl (Sl Int))(h s:Nat):Int:=bif tt (∃k,iZ t r h s k)then(eN t r h s:Int)else-1
theorem OG(hV:jl t r)(hh:h<t.bf.l.length):∃S,lA t r (h:Int)=some S/\S.l=(aL r.l.length).map (um t r h):=by
 have hsm:=hV.sG
 have main:∀(d i:Nat),i+d=r.l.length->∀s:Sl Int,s.l=(aL i).map (um t r h)->∃S,bE (gA t r (h:Int)) ((i:Int),s)=some S/\S.l=(aL r.l.length).map (um t r h):=by
  intro d;induction d with
  |zero=>
   intro i hi s hs;obtain rfl:i=r.l.length:=by omega
   exact⟨s,cA (by simp only[gA,kL,cond_false]),hs⟩
  |succ d ih=>
   intro i hi s hs;have hlt:i<r.l.length:=by omega
   have hsl:s.l.length=i:=by rw[hs];simp
   have hstep:∃l e,jE t r (i:Int) (h:Int)=some (l,e)/\wr .i64 ((l.l.length:Int)-1)=um t r h i:=by
    by_cases hk:∃k,iZ t r h i k
    .obtain ⟨k,hk⟩:=hk;obtain⟨w,h1,h2⟩:=Aw hV hh hlt hk;have:=hk.lt hV hlt;refine⟨_,_,h1,?_⟩;rw[um,BC ⟨k,hk⟩,cond_true,Cd hk,Sl.iN,h2,ig (by omega) (by omega)];omega
    .obtain ⟨e,h1⟩:=HX hV hh hlt (fun k hk2=>hk ⟨k,hk2⟩);refine⟨_,_,h1,?_⟩;rw[um,x8 hk,cond_false];rfl
   obtain⟨l,e,h1,h2⟩:=hstep;obtain⟨S,h3,h4⟩:=ih (i+1) (by omega) (.mk (s.l++[um t r h i])) (by rw[Sl.iN,hs,List.range_succ,List.map_append];rfl);exact⟨S,(dl (by simp only[gA,jt hlt,cond_true,h1,af,h2,ik (show(s.l++[um t r h i]).length<=2147483648 by rw[av,bo];omega),k7 (show i<9223372036854775807 by omega)])).trans h3,h4⟩
 obtain⟨S,h1,h2⟩:=main r.l.length 0 (by omega) .nil rfl;have h1:bE (gA t r (h:Int)) (0,Sl.nil)=_:=h1;exact⟨S,by simp only[lA,my hV,af,HF hh,cond_false,h1],h2⟩
theorem vC(hS:oE t r):iu t r=some (tt (gy t r)):=by
 by_cases hV:jl t r
 rotate_left
 .unfold iu;rw[wY (by have:=hS.2.2.2;omega) (fun dj hm=>by have:=hS.1 dj hm;omega),decide_eq_false hV,x8 fun h=>hV h.1];rfl
 have hsm:=hV.sG;have hho:=hV.rX;by_cases hG:gy t r
 .rw [zf hG,BC hG]
 have h1:=wX (f:=gY t r) (β:=Bool) (γ:=Unit) (aL t.bf.l.length) (fun _ h=>bif tt (∀s,s<r.l.length->∃k,iZ t r h s k)then none else some false) () (by simp;omega) (fun i hi=>by
  have hi:i<t.bf.l.length:=by simpa using hi
  rw[yz hi];obtain⟨S,h1,h2⟩:=OG hV hi;have hc:=me (s:=S) (-1) (by rw[h2];simp;omega)
  have hm:decide ((-1:Int)∈S.l)=!tt (∀s,s<r.l.length->∃k,iZ t r i s k):=by
   rw[Bool.eq_iff_iff,decide_eq_true_eq,Bool.not_eq_true',CQ,h2];constructor
   .intro hm hall;obtain⟨s,hs,e⟩:=ci.1 hm;rw[um,BC (hall s (fA.1 hs)),cond_true]at e;omega
   .intro hn;obtain⟨s,hs⟩:=Classical.not_forall.1 hn;obtain⟨hs,hk⟩:=Classical.not_imp.1 hs;exact ci.2 ⟨s,fA.2 hs,by rw[um,x8 hk,cond_false]⟩
  rw[hm]at hc;simp only[gY,jt hi,cond_true,h1,af,hc];cases tt (∀s,s<r.l.length->∃k,iZ t r i s k)<;>rfl) (by simp only[gY,List.length_range,kL,cond_false])
 simp only[iu,my hV,af,ce,cond_false,h1];cases hc:lW (fun(_:Nat)h=>bif tt (∀s,s<r.l.length->∃k,iZ t r h s k)then none else some false) (aL t.bf.l.length) 0 with
 |none=>exfalso;refine hG ⟨hV,fun s hs h hh=>?_⟩;have:=nG.1 hc h h (by simp[hh]);cases hq:tt (∀s,s<r.l.length->∃k,iZ t r h s k)with|true=>exact BB.1 hq s hs|false=>rw[hq]at this;simp at this
 |some b=>
  obtain⟨j,x,h2,h3,_⟩:=nF hc;cases hq:tt (∀s,s<r.l.length->∃k,iZ t r x s k)with
  |true=>rw[hq]at h3;simp at h3
  |false=>
   rw[hq]at h3;obtain rfl:false=b:=by simpa using h3
   rw[x8 hG]
theorem IY{old now:Sl (Sl Int)}(hO:oE t old)(hN:oE t now)(hG:¬(gy t old/\gy t now)):mJ t old now=some (.nil,2):=by
 unfold mJ;rw[vC hO,vC hN];by_cases h1:gy t old
 .rw [BC h1,x8 fun h2=>hG ⟨h1,h2⟩];rfl
 .rw [x8 h1];rfl
end
end Go.Proofs.YthcplpfiidlinaaDoor.J
