/- Routes of any kind: what the program's Walk, Far, r_ and qR answer. Conditions: as stated. -/
import Derived.Test.YthcplpfiidlinaaDoorJM
open Go.Ev Go
noncomputable section
open Bool renaming not_false->eK,not_true->cm
open List renaming length_append->az,length_singleton->bn,mem_map->b_,mem_range->fq,mem_singleton->am,range->aK
open Option renaming bind_some->af
namespace Go.Proofs.YthcplpfiidlinaaDoor.J
section
variable{t:ah}{r:Sl (Sl Int)}{h:Nat}
theorem HD(hV:jg t r)(hh:h<t.bf.l.length):∀(d:Nat)(l:List Nat)(x:Nat),l.length+d=9->l.Nodup->(∀y∈l++[x],y<r.l.length)->(∀k,¬iT t r h x k)->
  bE (dZ t r (h:Int)) (.mk (gr (l++[x])))=some (.inr ())\/∃e,e≠0/\bE (dZ t r (h:Int)) (.mk (gr (l++[x])))=some (.inl (e,.nil)):=by
 have hsm:=hV.sv;intro d;induction d with
 |zero=>intro l x hd hnd hlt _;exfalso;have hsub:l⊆aK r.l.length:=fun y hy=>fq.2 (hlt y (List.mem_append_left _ hy));have:=hnd.length_le_of_subset hsub;simp at this;omega
 |succ d ih=>
  intro l x hd hnd hlt hno;have hx:x<r.l.length:=hlt x (by simp);have htw:=ul (l:=l) (x:=x) (by omega);by_cases hm:x∈l
  .rw [decide_eq_true hm]at htw;exact .inl (ct (by simp only[dZ,htw,af,cm,cond_false]))
  rw[decide_eq_false hm]at htw;have hlen:(Sl.mk (gr (l++[x]))).l.length=l.length+1:=by rw[Sl.iZ,mA];simp
  have hw:wr .i64 (((Sl.mk (gr (l++[x]))).l.length:Int)-1)=(l.length:Int):=by rw[hlen,ir (by omega) (by omega)];omega
  have hi:l.length<(Sl.mk (gr (l++[x]))).l.length:=by omega
  have hg:gt (Sl.mk (gr (l++[x]))).l l.length=(x:Int):=by rw[Sl.iZ,vo,FZ]
  have hhr:h<(gt r.l x).l.length:=by rw[hV.di hx];exact hh
  have hport:gt (gt r.l x).l h=cZ r h x:=rfl;have hH:¬zB t r h x:=fun hH=>hno 0 (.BS hH);rcases qB (h:=h) hV x with⟨_,e2⟩|⟨y,b,c,e1,hy,e2⟩
  .exact .inr ⟨13,by decide,ct (by simp only[dZ,htw,af,eK,cond_true,hw,bA hi,bA hh,hg,bA hx,bA hhr,hport,vp,decide_eq_false hH,cond_false,vY hV hh hx,e2])⟩
  .have hcap:jF ((Sl.mk (gr (l++[x]))).l++[(y:Int)])=some (gr (l++[x]++[y])):=by rw[Sl.iZ,jq (by rw[az,mA];simp;omega),AM]
   rw[dh (a':=.mk (gr (l++[x]++[y]))) (by simp only[dZ,htw,af,eK,cond_true,hw,bA hi,bA hh,hg,bA hx,bA hhr,hport,vp,decide_eq_false hH,cond_false,vY hV hh hx,e2,cm,hcap])];refine ih (l++[x]) y (by rw[az,bn];omega) ?_ (fun z hz=>?_) fun k hk=>hno (k+1) (.kE hH e1 hk)
   .exact List.nodup_append.2 ⟨hnd,by simp,fun a ha b hb=>by rw[am]at hb;subst hb;exact fun e=>hm (e▸ha)⟩
   .rcases List.mem_append.1 hz with hz|hz
    .exact hlt z hz
    .obtain rfl:=am.1 hz;exact hy
theorem HC(hV:jg t r)(hh:h<t.bf.l.length){s:Nat}(hs:s<r.l.length)(hno:∀k,¬iT t r h s k):∃e,jy t r (s:Int) (h:Int)=some (.nil,e):=by
 rcases HD hV hh 9 [] s rfl List.nodup_nil (fun y hy=>by
  have e:y=s:=by simpa using hy
  rw[e];exact hs) hno with h1|⟨e,_,h1⟩
 .have h1:bE (dZ t r (h:Int)) (.mk [(s:Int)])=_:=h1;exact⟨12,by simp only[jy,tn hV hs hh,ml hV,af,cm,cond_false,h1]⟩
 .have h1:bE (dZ t r (h:Int)) (.mk [(s:Int)])=_:=h1;exact⟨e,by simp only[jy,tn hV hs hh,ml hV,af,cm,cond_false,h1]⟩
def ue(t:ah)(r:Sl (Sl Int))(h s:Nat):Int:=bif tt (∃k,iT t r h s k)then(eJ t r h s:Int)else-1
theorem Oj(hV:jg t r)(hh:h<t.bf.l.length):∃S,lr t r (h:Int)=some S/\S.l=(aK r.l.length).map (ue t r h):=by
 have hsm:=hV.sv
 have main:∀(d i:Nat),i+d=r.l.length->∀s:Sl Int,s.l=(aK i).map (ue t r h)->∃S,bE (gp t r (h:Int)) ((i:Int),s)=some S/\S.l=(aK r.l.length).map (ue t r h):=by
  intro d;induction d with
  |zero=>
   intro i hi s hs;obtain rfl:i=r.l.length:=by omega
   exact⟨s,ct (by simp only[gp,kG,cond_false]),hs⟩
  |succ d ih=>
   intro i hi s hs;have hlt:i<r.l.length:=by omega
   have hsl:s.l.length=i:=by rw[hs];simp
   have hstep:∃l e,jy t r (i:Int) (h:Int)=some (l,e)/\wr .i64 ((l.l.length:Int)-1)=ue t r h i:=by
    by_cases hk:∃k,iT t r h i k
    .obtain ⟨k,hk⟩:=hk;obtain⟨w,h1,h2⟩:=Ai hV hh hlt hk;have:=hk.lt hV hlt;refine⟨_,_,h1,?_⟩;rw[ue,Bq ⟨k,hk⟩,cond_true,B3 hk,Sl.iZ,h2,ir (by omega) (by omega)];omega
    .obtain ⟨e,h1⟩:=HC hV hh hlt (fun k hk2=>hk ⟨k,hk2⟩);refine⟨_,_,h1,?_⟩;rw[ue,xT hk,cond_false];rfl
   obtain⟨l,e,h1,h2⟩:=hstep;obtain⟨S,h3,h4⟩:=ih (i+1) (by omega) (.mk (s.l++[ue t r h i])) (by rw[Sl.iZ,hs,List.range_succ,List.map_append];rfl);exact⟨S,(dh (by simp only[gp,jo hlt,cond_true,h1,af,h2,jq (show(s.l++[ue t r h i]).length<=2147483648 by rw[az,bn];omega),lp (show i<9223372036854775807 by omega)])).trans h3,h4⟩
 obtain⟨S,h1,h2⟩:=main r.l.length 0 (by omega) .nil rfl;have h1:bE (gp t r (h:Int)) (0,Sl.nil)=_:=h1;exact⟨S,by simp only[lr,ml hV,af,Hm hh,cond_false,h1],h2⟩
theorem vu(hS:m7 t r):il t r=some (tt (gk t r)):=by
 by_cases hV:jg t r
 rotate_left
 .unfold il;rw[wQ (by have:=hS.2.2.2;omega) (fun di hm=>by have:=hS.1 di hm;omega),decide_eq_false hV,xT fun h=>hV h.1];rfl
 have hsm:=hV.sv;have hho:=hV.rO;by_cases hG:gk t r
 .rw [yY hG,Bq hG]
 have h1:=wP (f:=gT t r) (β:=Bool) (γ:=Unit) (aK t.bf.l.length) (fun _ h=>bif tt (∀s,s<r.l.length->∃k,iT t r h s k)then none else some false) () (by simp;omega) (fun i hi=>by
  have hi:i<t.bf.l.length:=by simpa using hi
  rw[yn hi];obtain⟨S,h1,h2⟩:=Oj hV hi;have hc:=lY (s:=S) (-1) (by rw[h2];simp;omega)
  have hm:decide ((-1:Int)∈S.l)=!tt (∀s,s<r.l.length->∃k,iT t r i s k):=by
   rw[Bool.eq_iff_iff,decide_eq_true_eq,Bool.not_eq_true',CD,h2];constructor
   .intro hm hall;obtain⟨s,hs,e⟩:=b_.1 hm;rw[ue,Bq (hall s (fq.1 hs)),cond_true]at e;omega
   .intro hn;obtain⟨s,hs⟩:=Classical.not_forall.1 hn;obtain⟨hs,hk⟩:=Classical.not_imp.1 hs;exact b_.2 ⟨s,fq.2 hs,by rw[ue,xT hk,cond_false]⟩
  rw[hm]at hc;simp only[gT,jo hi,cond_true,h1,af,hc];cases tt (∀s,s<r.l.length->∃k,iT t r i s k)<;>rfl) (by simp only[gT,List.length_range,kG,cond_false])
 simp only[il,ml hV,af,cm,cond_false,h1];cases hc:lQ (fun(_:Nat)h=>bif tt (∀s,s<r.l.length->∃k,iT t r h s k)then none else some false) (aK t.bf.l.length) 0 with
 |none=>exfalso;refine hG ⟨hV,fun s hs h hh=>?_⟩;have:=ny.1 hc h h (by simp[hh]);cases hq:tt (∀s,s<r.l.length->∃k,iT t r h s k)with|true=>exact Bp.1 hq s hs|false=>rw[hq]at this;simp at this
 |some b=>
  obtain⟨j,x,h2,h3,_⟩:=nw hc;cases hq:tt (∀s,s<r.l.length->∃k,iT t r x s k)with
  |true=>rw[hq]at h3;simp at h3
  |false=>
   rw[hq]at h3;obtain rfl:false=b:=by simpa using h3
   rw[xT hG]
theorem ID{old now:Sl (Sl Int)}(hO:m7 t old)(hN:m7 t now)(hG:¬(gk t old/\gk t now)):mz t old now=some (.nil,2):=by
 unfold mz;rw[vu hO,vu hN];by_cases h1:gk t old
 .rw [Bq h1,xT fun h2=>hG ⟨h1,h2⟩];rfl
 .rw [xT h1];rfl
end
end Go.Proofs.YthcplpfiidlinaaDoor.J
