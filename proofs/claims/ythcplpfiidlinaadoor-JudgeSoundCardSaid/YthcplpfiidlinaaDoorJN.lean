/- Routes of any kind: what the program's Walk, Far, Ba and cZ answer. Conditions: as stated. -/
import Derived.Test.YthcplpfiidlinaaDoorJM
open Go.Ev Go
noncomputable section
open Bool renaming not_false->fg,not_true->cF
open List renaming length_append->aF,length_singleton->bD,mem_map->cN,mem_range->ge,mem_singleton->aq,range->bi
open Option renaming bind_some->ae
namespace Go.Proofs.YthcplpfiidlinaaDoor.J
section
variable{t:ah}{r:Sl (Sl Int)}{h:Nat}
theorem F3(hV:iH t r)(hh:h<t.a_.l.length):∀(d:Nat)(l:List Nat)(x:Nat),l.length+d=9->l.Nodup->(∀y∈l++[x],y<r.l.length)->(∀k,¬ip t r h x k)->
  br (dQ t r (h:Int)) (.mk (fY (l++[x])))=some (.inr ())\/∃e,e≠0/\br (dQ t r (h:Int)) (.mk (fY (l++[x])))=some (.inl (e,.nil)):=by
 have hsm:=hV.wY;intro d;induction d with
 |zero=>intro l x hd hnd hlt _;exfalso;have hsub:l⊆bi r.l.length:=fun y hy=>ge.2 (hlt y (List.mem_append_left _ hy));have:=hnd.length_le_of_subset hsub;simp at this;omega
 |succ d ih=>
  intro l x hd hnd hlt hno;have hx:x<r.l.length:=hlt x (by simp);have htw:=tj (l:=l) (x:=x) (by omega);by_cases hm:x∈l
  .rw [decide_eq_true hm]at htw;exact .inl (ci (by simp only[dQ,htw,ae,cF,cond_false]))
  rw[decide_eq_false hm]at htw;have hlen:(Sl.mk (fY (l++[x]))).l.length=l.length+1:=by rw[Sl.kT,lP];simp
  have hw:wr .i64 (((Sl.mk (fY (l++[x]))).l.length:Int)-1)=(l.length:Int):=by rw[hlen,nT (by omega) (by omega)];omega
  have hi:l.length<(Sl.mk (fY (l++[x]))).l.length:=by omega
  have hg:gt (Sl.mk (fY (l++[x]))).l l.length=(x:Int):=by rw[Sl.kT,uA,Ew]
  have hhr:h<(gt r.l x).l.length:=by rw[hV.cY hx];exact hh
  have hport:gt (gt r.l x).l h=jO r h x:=rfl;have hH:¬y_ t r h x:=fun hH=>hno 0 (.Cw hH);rcases su (h:=h) hV x with⟨_,e2⟩|⟨y,b,c,e1,hy,e2⟩
  .exact .inr ⟨13,by decide,ci (by simp only[dQ,htw,ae,fg,cond_true,hw,bI hi,bI hh,hg,bI hx,bI hhr,hport,uB,decide_eq_false hH,cond_false,ve hV hh hx,e2])⟩
  .have hcap:h_ ((Sl.mk (fY (l++[x]))).l++[(y:Int)])=some (fY (l++[x]++[y])):=by rw[Sl.kT,js (by rw[aF,lP];simp;omega),zF]
   rw[cG (a':=.mk (fY (l++[x]++[y]))) (by simp only[dQ,htw,ae,fg,cond_true,hw,bI hi,bI hh,hg,bI hx,bI hhr,hport,uB,decide_eq_false hH,cond_false,ve hV hh hx,e2,cF,hcap])];refine ih (l++[x]) y (by rw[aF,bD];omega) ?_ (fun z hz=>?_) fun k hk=>hno (k+1) (.jK hH e1 hk)
   .exact List.nodup_append.2 ⟨hnd,by simp,fun a ha b hb=>by rw[aq]at hb;subst hb;exact fun e=>hm (e▸ha)⟩
   .rcases List.mem_append.1 hz with hz|hz
    .exact hlt z hz
    .obtain rfl:=aq.1 hz;exact hy
theorem F1(hV:iH t r)(hh:h<t.a_.l.length){s:Nat}(hs:s<r.l.length)(hno:∀k,¬ip t r h s k):∃e,jc t r (s:Int) (h:Int)=some (.nil,e):=by
 rcases F3 hV hh 9 [] s rfl List.nodup_nil (fun y hy=>by
  have e:y=s:=by simpa using hy
  rw[e];exact hs) hno with h1|⟨e,_,h1⟩
 .have h1:br (dQ t r (h:Int)) (.mk [(s:Int)])=_:=h1;exact⟨12,by simp only[jc,sq hV hs hh,lD hV,ae,cF,cond_false,h1]⟩
 .have h1:br (dQ t r (h:Int)) (.mk [(s:Int)])=_:=h1;exact⟨e,by simp only[jc,sq hV hs hh,lD hV,ae,cF,cond_false,h1]⟩
def sZ(t:ah)(r:Sl (Sl Int))(h s:Nat):Int:=bif tt (∃k,ip t r h s k)then(jo t r h s:Int)else-1
theorem LU(hV:iH t r)(hh:h<t.a_.l.length):∃S,lN t r (h:Int)=some S/\S.l=(bi r.l.length).map (sZ t r h):=by
 have hsm:=hV.wY
 have main:∀(d i:Nat),i+d=r.l.length->∀s:Sl Int,s.l=(bi i).map (sZ t r h)->∃S,br (fW t r (h:Int)) ((i:Int),s)=some S/\S.l=(bi r.l.length).map (sZ t r h):=by
  intro d;induction d with
  |zero=>
   intro i hi s hs;obtain rfl:i=r.l.length:=by omega
   exact⟨s,ci (by simp only[fW,j4,cond_false]),hs⟩
  |succ d ih=>
   intro i hi s hs;have hlt:i<r.l.length:=by omega
   have hsl:s.l.length=i:=by rw[hs];simp
   have hstep:∃l e,jc t r (i:Int) (h:Int)=some (l,e)/\wr .i64 ((l.l.length:Int)-1)=sZ t r h i:=by
    by_cases hk:∃k,ip t r h i k
    .obtain ⟨k,hk⟩:=hk;obtain⟨w,h1,h2⟩:=zb hV hh hlt hk;have:=hk.lt hV hlt;refine⟨_,_,h1,?_⟩;rw[sZ,Ag ⟨k,hk⟩,cond_true,FQ hk,Sl.kT,h2,nT (by omega) (by omega)];omega
    .obtain ⟨e,h1⟩:=F1 hV hh hlt (fun k hk2=>hk ⟨k,hk2⟩);refine⟨_,_,h1,?_⟩;rw[sZ,Ah hk,cond_false];rfl
   obtain⟨l,e,h1,h2⟩:=hstep;obtain⟨S,h3,h4⟩:=ih (i+1) (by omega) (.mk (s.l++[sZ t r h i])) (by rw[Sl.kT,hs,List.range_succ,List.map_append];rfl);exact⟨S,(cG (by simp only[fW,jm hlt,cond_true,h1,ae,h2,js (show(s.l++[sZ t r h i]).length<=2147483648 by rw[aF,bD];omega),kz (show i<9223372036854775807 by omega)])).trans h3,h4⟩
 obtain⟨S,h1,h2⟩:=main r.l.length 0 (by omega) .nil rfl;have h1:br (fW t r (h:Int)) (0,Sl.nil)=_:=h1;exact⟨S,by simp only[lN,lD hV,ae,FL hh,cond_false,h1],h2⟩
theorem xU(hS:rg t r):iC t r=some (tt (mE t r)):=by
 by_cases hV:iH t r
 rotate_left
 .unfold iC;rw[vS (by have:=hS.2.2.2;omega) (fun cY hm=>by have:=hS.1 cY hm;omega),decide_eq_false hV,Ah fun h=>hV h.1];rfl
 have hsm:=hV.wY;have hho:=hV.rM;by_cases hG:mE t r
 .rw [JC hG,Ag hG]
 have h1:=sQ (f:=gD t r) (β:=Bool) (γ:=Unit) (bi t.a_.l.length) (fun _ h=>bif tt (∀s,s<r.l.length->∃k,ip t r h s k)then none else some false) () (by simp;omega) (fun i hi=>by
  have hi:i<t.a_.l.length:=by simpa using hi
  rw[Is hi];obtain⟨S,h1,h2⟩:=LU hV hi;have hc:=m8 (s:=S) (-1) (by rw[h2];simp;omega)
  have hm:decide ((-1:Int)∈S.l)=!tt (∀s,s<r.l.length->∃k,ip t r i s k):=by
   rw[Bool.eq_iff_iff,decide_eq_true_eq,Bool.not_eq_true',Br,h2];constructor
   .intro hm hall;obtain⟨s,hs,e⟩:=cN.1 hm;rw[sZ,Ag (hall s (ge.1 hs)),cond_true]at e;omega
   .intro hn;obtain⟨s,hs⟩:=Classical.not_forall.1 hn;obtain⟨hs,hk⟩:=Classical.not_imp.1 hs;exact cN.2 ⟨s,ge.2 hs,by rw[sZ,Ah hk,cond_false]⟩
  rw[hm]at hc;simp only[gD,jm hi,cond_true,h1,ae,hc];cases tt (∀s,s<r.l.length->∃k,ip t r i s k)<;>rfl) (by simp only[gD,List.length_range,j4,cond_false])
 simp only[iC,lD hV,ae,cF,cond_false,h1];cases hc:kw (fun(_:Nat)h=>bif tt (∀s,s<r.l.length->∃k,ip t r h s k)then none else some false) (bi t.a_.l.length) 0 with
 |none=>exfalso;refine hG ⟨hV,fun s hs h hh=>?_⟩;have:=lM.1 hc h h (by simp[hh]);cases hq:tt (∀s,s<r.l.length->∃k,ip t r h s k)with|true=>exact wB.1 hq s hs|false=>rw[hq]at this;simp at this
 |some b=>
  obtain⟨j,x,h2,h3,_⟩:=mI hc;cases hq:tt (∀s,s<r.l.length->∃k,ip t r x s k)with
  |true=>rw[hq]at h3;simp at h3
  |false=>
   rw[hq]at h3;obtain rfl:false=b:=by simpa using h3
   rw[Ah hG]
end
end Go.Proofs.YthcplpfiidlinaaDoor.J
