/- AgentAgain: what stays. Conditions: as stated. -/
import Derived.Test.YtjjajcecekocdaaGreatRG
open Go.Ev Go
namespace Go.Proofs.YtjjajcecekocdaaGreat.A
structure Eq2(a b:Ag):Prop where
 t:b.bU=a.bU
 s:b.bm.es=a.bm.es
 ar:b.cq.es=a.cq.es
 d:b.done.l=a.done.l
 sw:b.sw=a.sw
 lf:b.cz=a.cz
theorem Eq2.abk(a:Ag):Eq2 a a:=⟨rfl,rfl,rfl,rfl,rfl,rfl⟩
theorem aa_{ν:Type}{m:Mp Int ν}(h:MI m)(k:Int):(jF (jF m k) k).es=(jF m k).es:=by rw[(Cv _ (Cw h k) k).1,(Cv m h k).1,List.filter_filter];congr 1;funext e;simp
theorem abm{b:Ag}(hI:AI b){rd:Int}{L L':List aZ}{e e':Int}{a1 a2:Ag}(h1:E4 b rd L e a1)(h2:E4 a1 rd L' e' a2):e'=e/\L'=[]/\Eq2 a1 a2:=by
 have notin:∀{x:aB}{d:List aB},b.done.l=d++[x]->x.1=rd->∀y∈d,y.1≠rd:=fun hd hx y hy hyr=>by have:=hI.dd;rw[hd,List.map_append,List.nodup_append]at this;exact this.2.2 _ (List.mem_map.2 ⟨y,hy,rfl⟩) _ (by simp) (hyr.trans hx.symm)
 cases h1 with
 |all h0 hd ht hs ha hk g1 g2 g3 g4 g5 hL=>cases h2 with|all _ hd2 ht2 hs2 ha2 _ f1 f2 f3 f4 f5 hL2=>refine⟨rfl,by rw[hL2,hd];rfl,?_,by rw[hs2,hs],by rw[ha2,ha],by rw[hd2,hd],f1,f4⟩;rw[ht2];unfold Is;rw[hd];rfl|no k0 _ _ _=>omega|RM k0 _ _ _=>omega|oA k0 _=>omega
 |@no x d h0 hd hD hx=>cases h2 with|all k0 _ _ _ _ _ _ _ _ _ _ _=>omega|no _ _ _ _=>exact⟨rfl,rfl,.abk _⟩|@RM x' d' w _ hd' hx' _=>rw[hd]at hd';obtain⟨_,h⟩:=List.append_inj' hd' rfl;simp at h;exact absurd (h▸hx') hx|oA _ hD'=>exact absurd hD hD'
 |@RM x d w h0 hd hx hl=>have hdl:((b.Nv x.2 d).Qp rd w).done.l=d:=hl;have hnD:¬Dn ((b.Nv x.2 d).Qp rd w) rd:=fun⟨y,hy,hyr⟩=>notin hd hx y (hdl▸hy) hyr;cases h2 with|all k0 _ _ _ _ _ _ _ _ _ _ _=>omega|no _ _ hD' _=>exact absurd hD' hnD|@RM x' d' w' _ hd' hx' _=>exact absurd ⟨x',by rw[hd'];simp,hx'⟩ hnD|@oA w' _ _=>exact⟨rfl,rfl,rfl,aa_ hI.S rd,aa_ hI.A rd,rfl,rfl,rfl⟩
 |@oA w h0 hD=>have hnD:¬Dn (b.Qp rd w) rd:=hD;cases h2 with|all k0 _ _ _ _ _ _ _ _ _ _ _=>omega|no _ _ hD' _=>exact absurd hD' hnD|@RM x' d' w' _ hd' hx' _=>exact absurd ⟨x',by show x'∈b.done.l;rw[show b.done.l=d'++[x']from hd'];simp,hx'⟩ hnD|@oA w' _ _=>exact⟨rfl,rfl,rfl,aa_ hI.S rd,aa_ hI.A rd,rfl,rfl,rfl⟩
theorem abt{a:Ag}{now:Int}{m:ad}{L:List aZ}{e:Int}{a':Ag}(hd:QI a now m L e a'):a'.up=a.up/\a'.sw=a.sw:=by
 have hup:(a.lh (ad.U m)).up=a.up/\(a.lh (ad.U m)).sw=a.sw:=by unfold Ag.lh;split<;>exact⟨rfl,rfl⟩
 cases hd with
 |old _=>exact⟨rfl,rfl⟩
 |Qa _ _=>
  refine(⟨?_,?_⟩:_/\_)
  .rw [<-hup.1];unfold gE;split;rfl;split;rfl;split;rfl;split<;>rfl
  .rw [<-hup.2];unfold gE;split;rfl;split;rfl;split;rfl;split<;>rfl
 |Zm _ _=>
  refine(⟨?_,?_⟩:_/\_)
  .rw [<-hup.1];unfold x5;split;rfl;split;rfl;split;rfl;split;rfl;split<;>rfl
  .rw [<-hup.2];unfold x5;split;rfl;split;rfl;split;rfl;split;rfl;split<;>rfl
 |To _ _ hU=>cases hU with|all _ _ _ _ _ _ g1 _ g3 _ _ _=>exact⟨g3.trans hup.1,g1.trans hup.2⟩|no _ _ _ _=>exact hup|RM _ _ _ _=>exact hup|oA _ _=>exact hup
 |MV _ _ _=>exact hup
end Go.Proofs.YtjjajcecekocdaaGreat.A
