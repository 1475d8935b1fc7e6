/- Changes of tables: what they come to, over lists, for the agent's program. Conditions: as stated. -/
import Derived.Test.YtjjajcecekocdaaGreatQE
open List renaming flatMap_cons->bg,length_append->bi,length_cons->c_,mem_cons->aN,pairwise_cons->m6
open Go.Ev Go
noncomputable section
namespace Go.Proofs.YtjjajcecekocdaaGreat.A
abbrev xu(y:ae)(l:Sl aT):ae:=(⟨ae.c9 y,ae.M y,l⟩:ae)
def g1(q:ae->Bool)(eH:Bool)(a:Sl aT)(y:ae):List ae:=bif q y then(bif eH then[]else[xu y a])else[y]
def se(q:ae->Bool)(eH:Bool)(a:Sl aT)(t:List ae):List ae:=t.flatMap (g1 q eH a)
def ins(x:ae):List ae->List ae
 |[]=>[x]
 |y::r=>bif tt (ae.c9 x<=ae.c9 y)then y::ins x r else x::y::r
theorem lS{α:Type}[Inhabited α]{l:List α}{i:Nat}(h:i<l.length):l.take (i+1)=l.take i++[gt l i]:=by rw[List.take_add_one,L_ h];rfl
theorem sL{α:Type}[Inhabited α]{l:List α}{i:Nat}(h:i<l.length):l.drop i=gt l i::l.drop (i+1):=by rw[gX h];exact List.drop_eq_getElem_cons h
theorem R7(q:ae->Bool)(eH:Bool)(a:Sl aT)(y:ae):(g1 q eH a y).length<=1:=by unfold g1;cases q y<;>cases eH<;>simp
theorem CB(q:ae->Bool)(eH:Bool)(a:Sl aT)(t:List ae):(se q eH a t).length<=t.length:=by
 induction t with
 |nil=>exact Nat.le_refl 0
 |cons y r ih=>
  have h1:=R7 q eH a y;have h2:(se q eH a (y::r)).length=(g1 q eH a y).length+(se q eH a r).length:=by unfold se;rw[bg,bi]
  rw[h2,c_];omega
theorem CA{q:ae->Bool}{a:Sl aT}{t:List ae}:se q false a t=t.map fun y=>bif q y then xu y a else y:=by
 induction t with
 |nil=>rfl
 |cons y r ih=>
  have:se q false a (y::r)=g1 q false a y++se q false a r:=by unfold se;rw[bg]
  rw[this,ih,List.map_cons];unfold g1;cases q y<;>rfl
theorem zT{q:ae->Bool}{a:Sl aT}{t:List ae}:se q true a t=t.filter fun y=>!q y:=by
 induction t with
 |nil=>rfl
 |cons y r ih=>
  have:se q true a (y::r)=g1 q true a y++se q true a r:=by unfold se;rw[bg]
  rw[this,ih,List.filter_cons];unfold g1;cases q y<;>rfl
theorem yo{x:ae}{l r:List ae}(h:∀y∈l,ae.c9 x<=ae.c9 y):ins x (l++r)=l++ins x r:=by induction l with|nil=>rfl|cons y l ih=>rw[List.cons_append,ins,iC (h y (by simp)),cond_true,ih fun z hz=>h z (by simp[hz])];rfl
theorem Cf(x:ae)(l:List ae):(ins x l).length=l.length+1:=by
 induction l with
 |nil=>rfl
 |cons y r ih=>
  rw[ins];cases tt (ae.c9 x<=ae.c9 y)
  .rfl
  .rw [cond_true,c_,ih,c_]
theorem HN{x y:ae}{l:List ae}:y∈ins x l<->y=x\/y∈l:=by
 induction l with
 |nil=>simp[ins]
 |cons z r ih=>
  rw[ins];cases tt (ae.c9 x<=ae.c9 z)
  .simp only[cond_false,aN]
  .simp only[cond_true,aN,ih];exact or_left_comm
theorem NW{x:ae}{l:List ae}(hs:Ki l)(hk:∀y∈l,¬mI y x):Ki (ins x l):=by
 unfold Ki at*;induction l with
 |nil=>simp[ins]
 |cons y r ih=>
  rw[ins];rw[m6]at hs;by_cases h:ae.c9 x<=ae.c9 y
  .rw [iC h,cond_true,m6];refine⟨fun z hz=>?_,ih hs.2 fun z hz=>hk z (by simp[hz])⟩;rcases HN.1 hz with rfl|hz
   .exact ⟨h,hk y (by simp)⟩
   .exact hs.1 z hz
  .rw [eI h,cond_false,m6,m6];refine⟨fun z hz=>?_,hs⟩;refine⟨?_,fun q=>hk z hz q.symm⟩;rcases aN.1 hz with rfl|hz
   .omega
   .have:=(hs.1 z hz).1;omega
open Classical in
def tj(t:List ae)(m:ai)(ports aD:Int):List ae×Int:=
 if¬C4 (ai.R m) ports then(t,2)
 else if ai.bh m=1 then
  (if ai.iY m=true/\∃y∈t,Fd y (ai.R m)then(t,14)
  else if∃y∈t,mI y (ai.R m)then(se (fun y=>tt (mI y (ai.R m))) false (ae.iK (ai.R m)) t,0)
  else if aD<=t.length then(t,6)else(ins (ai.R m) t,0))
 else if ai.bh m=2 then(se (fun y=>tt (uU (ae.M y) (ae.M (ai.R m)))) false (ae.iK (ai.R m)) t,0)
 else if ai.bh m=4 then(se (fun y=>tt (uU (ae.M y) (ae.M (ai.R m)))) true (ae.iK (ai.R m)) t,0)
 else if ai.bh m=3 then(if∃y∈t,mI y (ai.R m)then(se (fun y=>tt (mI y (ai.R m))) false (ae.iK (ai.R m)) t,0)else(t,7))
 else if ai.bh m=5 then(if∃y∈t,mI y (ai.R m)then(se (fun y=>tt (mI y (ai.R m))) true (ae.iK (ai.R m)) t,0)else(t,7))
 else(t,2)
theorem NV{q:ae->Bool}{a:Sl aT}{t:List ae}(h:Ki t):Ki (se q false a t):=by
 have e:∀y:ae,ae.c9 (bif q y then xu y a else y)=ae.c9 y/\ae.M (bif q y then xu y a else y)=ae.M y:=fun y=>by cases q y<;>exact⟨rfl,rfl⟩
 unfold Ki at*;rw[CA,List.pairwise_map];refine h.imp fun{y z}h=>?_;unfold mI at*;rw[(e y).1,(e y).2,(e z).1,(e z).2];exact h
theorem NO{q:ae->Bool}{eH:Bool}{x:ae}{t:List ae}{ports aD:Int}(h:ug t ports aD)(hx:C4 x ports):ug (se q eH (ae.iK x) t) ports aD:=by
 refine⟨fun y hy=>?_,?_,by have:=CB q eH (ae.iK x) t;have:=h.n;omega⟩
 .unfold se at hy;obtain⟨z,hz,hyz⟩:=List.mem_flatMap.1 hy;have hz:=h.r z hz;unfold g1 at hyz;cases hq:q z<;>cases eH<;>simp only[hq,cond_true,cond_false,List.mem_singleton,List.not_mem_nil]at hyz
  .rw [hyz];exact hz
  .rw [hyz];exact hz
  .rw [hyz];exact⟨hz.lo,hz.hi,hz.m,hx.a⟩
 .cases eH
  .exact NV h.s
  .rw [zT];exact List.Pairwise.sublist List.filter_sublist h.s
theorem GT{t:List ae}{m:ai}{ports aD:Int}(h:ug t ports aD):ug (tj t m ports aD).1 ports aD/\(tj t m ports aD).1.length<=t.length+1:=by
 have key:∀{t':List ae}{e:Int},ug t' ports aD->t'.length<=t.length+1->ug ((t',e):List ae×Int).1 ports aD/\((t',e):List ae×Int).1.length<=t.length+1:=fun a b=>⟨a,b⟩;unfold tj;by_cases hx:C4 (ai.R m) ports
 case neg=>rw[if_pos hx];exact key h (by omega)
 rw[if_neg (not_not_intro hx)];have kc:∀{q:ae->Bool}{eH:Bool},ug ((se q eH (ae.iK (ai.R m)) t,(0:Int)):List ae×Int).1 ports aD/\((se q eH (ae.iK (ai.R m)) t,(0:Int)):List ae×Int).1.length<=t.length+1:=fun{q eH}=>key (NO h hx) (Nat.le_succ_of_le (CB _ _ _ _));have k0:∀{e:Int},ug ((t,e):List ae×Int).1 ports aD/\((t,e):List ae×Int).1.length<=t.length+1:=key h (by omega);split
 .split
  .exact k0
  .split
   .exact kc
   .split
    .exact k0
    .rename_i h1 h2 h3;refine key ⟨fun y hy=>?_,NW h.s fun y hy hk=>h2 ⟨y,hy,hk⟩,by rw[Cf];omega⟩ (by rw[Cf];omega);rcases HN.1 hy with rfl|hy
     .exact hx
     .exact h.r y hy
 .split
  .exact kc
  .split
   .exact kc
   .split
    .split
     .exact kc
     .exact k0
    .split
     .split
      .exact kc
      .exact k0
     .exact k0
theorem nc{α:Type}{l:List α}{x:α}{n:Nat}(h:l.length<=n)(hn:n<2147483648):ld (l++[x])=some (l++[x]):=ZJ (by rw[bi,List.length_singleton];omega)
end Go.Proofs.YtjjajcecekocdaaGreat.A
