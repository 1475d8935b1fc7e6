/- Routes of any kind: what the program's Walk, Far, Cz and aJ answer. Conditions: as stated. -/
import Derived.Test.YthcplpfiidlinaaDoorJM
open Go.Ev Go
noncomputable section
open Bool renaming not_false->dv,not_true->bO
open List renaming length_append->ap,length_singleton->aW,mem_map->c9,mem_range->hZ,mem_singleton->av,range->bt
open Option renaming bind_some->ae
namespace Go.Proofs.YthcplpfiidlinaaDoor.J
section
variable{t:af}{r:Sl (Sl Int)}{h:Nat}
theorem Hz(hV:fq t r)(hh:h<t.aN.l.length):∀(d:Nat)(l:List Nat)(x:Nat),l.length+d=9->l.Nodup->(∀y∈l++[x],y<r.l.length)->(∀k,¬gj t r h x k)->
  bc (eg t r (h:Int)) (.mk (gr (l++[x])))=some (.inr ())\/∃e,e≠0/\bc (eg t r (h:Int)) (.mk (gr (l++[x])))=some (.inl (e,.nil)):=by
 have hsm:=hV.uB;intro d;induction d with
 |zero=>intro l x hd hnd hlt _;exfalso;have hsub:l⊆bt r.l.length:=fun y hy=>hZ.2 (hlt y (List.mem_append_left _ hy));have:=hnd.length_le_of_subset hsub;simp at this;omega
 |succ d ih=>
  intro l x hd hnd hlt hno;have hx:x<r.l.length:=hlt x (by simp);have htw:=uP (l:=l) (x:=x) (by omega);by_cases hm:x∈l
  .rw [decide_eq_true hm]at htw;exact .inl (bC (by simp only[eg,htw,ae,bO,cond_false]))
  rw[decide_eq_false hm]at htw;have hlen:(Sl.mk (gr (l++[x]))).l.length=l.length+1:=by rw[Sl.lp,mN];simp
  have hw:wr .i64 (((Sl.mk (gr (l++[x]))).l.length:Int)-1)=(l.length:Int):=by rw[hlen,ku (by omega) (by omega)];omega
  have hi:l.length<(Sl.mk (gr (l++[x]))).l.length:=by omega
  have hg:gt (Sl.mk (gr (l++[x]))).l l.length=(x:Int):=by rw[Sl.lp,vT,F9]
  have hhr:h<(gt r.l x).l.length:=by rw[hV.cU hx];exact hh
  have hport:gt (gt r.l x).l h=lj r h x:=rfl;have hH:¬uz t r h x:=fun hH=>hno 0 (.Aj hH);rcases ud (h:=h) hV x with⟨_,e2⟩|⟨y,b,c,e1,hy,e2⟩
  .exact .inr ⟨13,by decide,bC (by simp only[eg,htw,ae,dv,cond_true,hw,bm hi,bm hh,hg,bm hx,bm hhr,hport,vU,decide_eq_false hH,cond_false,wC hV hh hx,e2])⟩
  .have hcap:fF ((Sl.mk (gr (l++[x]))).l++[(y:Int)])=some (gr (l++[x]++[y])):=by rw[Sl.lp,fR (by rw[ap,mN];simp;omega),A3]
   rw[bL (a':=.mk (gr (l++[x]++[y]))) (by simp only[eg,htw,ae,dv,cond_true,hw,bm hi,bm hh,hg,bm hx,bm hhr,hport,vU,decide_eq_false hH,cond_false,wC hV hh hx,e2,bO,hcap])];refine ih (l++[x]) y (by rw[ap,aW];omega) ?_ (fun z hz=>?_) fun k hk=>hno (k+1) (.ja hH e1 hk)
   .exact List.nodup_append.2 ⟨hnd,by simp,fun a ha b hb=>by rw[av]at hb;subst hb;exact fun e=>hm (e▸ha)⟩
   .rcases List.mem_append.1 hz with hz|hz
    .exact hlt z hz
    .obtain rfl:=av.1 hz;exact hy
theorem Hy(hV:fq t r)(hh:h<t.aN.l.length){s:Nat}(hs:s<r.l.length)(hno:∀k,¬gj t r h s k):∃e,ju t r (s:Int) (h:Int)=some (.nil,e):=by
 rcases Hz hV hh 9 [] s rfl List.nodup_nil (fun y hy=>by
  have e:y=s:=by simpa using hy
  rw[e];exact hs) hno with h1|⟨e,_,h1⟩
 .have h1:bc (eg t r (h:Int)) (.mk [(s:Int)])=_:=h1;exact⟨12,by simp only[ju,ua hV hs hh,my hV,ae,bO,cond_false,h1]⟩
 .have h1:bc (eg t r (h:Int)) (.mk [(s:Int)])=_:=h1;exact⟨e,by simp only[ju,ua hV hs hh,my hV,ae,bO,cond_false,h1]⟩
def uI(t:af)(r:Sl (Sl Int))(h s:Nat):Int:=bif tt (∃k,gj t r h s k)then(jE t r h s:Int)else-1
theorem Nh(hV:fq t r)(hh:h<t.aN.l.length):∃S,mK t r (h:Int)=some S/\S.l=(bt r.l.length).map (uI t r h):=by
 have hsm:=hV.uB
 have main:∀(d i:Nat),i+d=r.l.length->∀s:Sl Int,s.l=(bt i).map (uI t r h)->∃S,bc (gp t r (h:Int)) ((i:Int),s)=some S/\S.l=(bt r.l.length).map (uI t r h):=by
  intro d;induction d with
  |zero=>
   intro i hi s hs;obtain rfl:i=r.l.length:=by omega
   exact⟨s,bC (by simp only[gp,gk,cond_false]),hs⟩
  |succ d ih=>
   intro i hi s hs;have hlt:i<r.l.length:=by omega
   have hsl:s.l.length=i:=by rw[hs];simp
   have hstep:∃l e,ju t r (i:Int) (h:Int)=some (l,e)/\wr .i64 ((l.l.length:Int)-1)=uI t r h i:=by
    by_cases hk:∃k,gj t r h i k
    .obtain ⟨k,hk⟩:=hk;obtain⟨w,h1,h2⟩:=AA hV hh hlt hk;have:=hk.lt hV hlt;refine⟨_,_,h1,?_⟩;rw[uI,uQ ⟨k,hk⟩,cond_true,Hl hk,Sl.lp,h2,ku (by omega) (by omega)];omega
    .obtain ⟨e,h1⟩:=Hy hV hh hlt (fun k hk2=>hk ⟨k,hk2⟩);refine⟨_,_,h1,?_⟩;rw[uI,rU hk,cond_false];rfl
   obtain⟨l,e,h1,h2⟩:=hstep;obtain⟨S,h3,h4⟩:=ih (i+1) (by omega) (.mk (s.l++[uI t r h i])) (by rw[Sl.lp,hs,List.range_succ,List.map_append];rfl);exact⟨S,(bL (by simp only[gp,fz hlt,cond_true,h1,ae,h2,fR (show(s.l++[uI t r h i]).length<=2147483648 by rw[ap,aW];omega),gB (show i<9223372036854775807 by omega)])).trans h3,h4⟩
 obtain⟨S,h1,h2⟩:=main r.l.length 0 (by omega) .nil rfl;have h1:bc (gp t r (h:Int)) (0,Sl.nil)=_:=h1;exact⟨S,by simp only[mK,my hV,ae,Hg hh,cond_false,h1],h2⟩
theorem D1(hS:o5 t r):jw t r=some (tt (ny t r)):=by
 by_cases hV:fq t r
 rotate_left
 .unfold jw;rw[xl (by have:=hS.2.2.2;omega) (fun cU hm=>by have:=hS.1 cU hm;omega),decide_eq_false hV,rU fun h=>hV h.1];rfl
 have hsm:=hV.uB;have hho:=hV.qd;by_cases hG:ny t r
 .rw [K5 hG,uQ hG]
 have h1:=tn (f:=gS t r) (β:=Bool) (γ:=Unit) (bt t.aN.l.length) (fun _ h=>bif tt (∀s,s<r.l.length->∃k,gj t r h s k)then none else some false) () (by simp;omega) (fun i hi=>by
  have hi:i<t.aN.l.length:=by simpa using hi
  rw[JS hi];obtain⟨S,h1,h2⟩:=Nh hV hi;have hc:=oD (s:=S) (-1) (by rw[h2];simp;omega)
  have hm:decide ((-1:Int)∈S.l)=!tt (∀s,s<r.l.length->∃k,gj t r i s k):=by
   rw[Bool.eq_iff_iff,decide_eq_true_eq,Bool.not_eq_true',vq,h2];constructor
   .intro hm hall;obtain⟨s,hs,e⟩:=c9.1 hm;rw[uI,uQ (hall s (hZ.1 hs)),cond_true]at e;omega
   .intro hn;obtain⟨s,hs⟩:=Classical.not_forall.1 hn;obtain⟨hs,hk⟩:=Classical.not_imp.1 hs;exact c9.2 ⟨s,hZ.2 hs,by rw[uI,rU hk,cond_false]⟩
  rw[hm]at hc;simp only[gS,fz hi,cond_true,h1,ae,hc];cases tt (∀s,s<r.l.length->∃k,gj t r i s k)<;>rfl) (by simp only[gS,List.length_range,gk,cond_false])
 simp only[jw,my hV,ae,bO,cond_false,h1];cases hc:lP (fun(_:Nat)h=>bif tt (∀s,s<r.l.length->∃k,gj t r h s k)then none else some false) (bt t.aN.l.length) 0 with
 |none=>exfalso;refine hG ⟨hV,fun s hs h hh=>?_⟩;have:=nM.1 hc h h (by simp[hh]);cases hq:tt (∀s,s<r.l.length->∃k,gj t r h s k)with|true=>exact xV.1 hq s hs|false=>rw[hq]at this;simp at this
 |some b=>
  obtain⟨j,x,h2,h3,_⟩:=nL hc;cases hq:tt (∀s,s<r.l.length->∃k,gj t r x s k)with
  |true=>rw[hq]at h3;simp at h3
  |false=>
   rw[hq]at h3;obtain rfl:false=b:=by simpa using h3
   rw[rU hG]
end
end Go.Proofs.YthcplpfiidlinaaDoor.J
