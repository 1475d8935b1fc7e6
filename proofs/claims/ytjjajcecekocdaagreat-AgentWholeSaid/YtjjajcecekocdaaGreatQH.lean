/- Changes of tables: what they come to, over lists, for the agent's program. Conditions: as stated. -/
import Derived.Test.YtjjajcecekocdaaGreatQE
open Bool renaming not_false->fh,not_true->dC
open List renaming append_nil->bv,cons_append->aU,flatMap_cons->bg,length_append->bi,length_cons->c_,length_take->cj,mem_cons->aN,mem_singleton->au,pairwise_cons->m6,take_length->ij
open Nat renaming le_refl->am,le_trans->e_
open Option renaming bind_some->ah
open Go.Ev Go
noncomputable section
namespace Go.Proofs.YtjjajcecekocdaaGreat.A
abbrev xu(y:ae)(l:Sl aT):ae:=(⟨ae.c9 y,ae.M y,l⟩:ae)
def g1(q:ae->Bool)(eH:Bool)(a:Sl aT)(y:ae):List ae:=bif q y then(bif eH then[]else[xu y a])else[y]
def se(q:ae->Bool)(eH:Bool)(a:Sl aT)(t:List ae):List ae:=t.flatMap (g1 q eH a)
def ins(x:ae):List ae->List ae
 |[]=>[x]
 |y::r=>bif tt (ae.c9 x<=ae.c9 y)then y::ins x r else x::y::r
theorem lS{α:Type}[Inhabited α]{l:List α}{i:Nat}(h:i<l.length):l.take (i+1)=l.take i++[gt l i]:=by rw[List.take_add_one,L_ h];rfl
theorem sL{α:Type}[Inhabited α]{l:List α}{i:Nat}(h:i<l.length):l.drop i=gt l i::l.drop (i+1):=by rw[gX h];exact List.drop_eq_getElem_cons h
theorem R7(q:ae->Bool)(eH:Bool)(a:Sl aT)(y:ae):(g1 q eH a y).length<=1:=by unfold g1;cases q y<;>cases eH<;>simp
theorem CB(q:ae->Bool)(eH:Bool)(a:Sl aT)(t:List ae):(se q eH a t).length<=t.length:=by
 induction t with
 |nil=>exact am 0
 |cons y r ih=>
  have h1:=R7 q eH a y;have h2:(se q eH a (y::r)).length=(g1 q eH a y).length+(se q eH a r).length:=by unfold se;rw[bg,bi]
  rw[h2,c_];omega
theorem MT(q:ae->Bool)(eH:Bool)(a:Sl aT)(t:List ae)(y:ae):se q eH a (t++[y])=se q eH a t++g1 q eH a y:=by unfold se;rw[List.flatMap_append,bg,List.flatMap_nil,bv]
theorem CA{q:ae->Bool}{a:Sl aT}{t:List ae}:se q false a t=t.map fun y=>bif q y then xu y a else y:=by
 induction t with
 |nil=>rfl
 |cons y r ih=>
  have:se q false a (y::r)=g1 q false a y++se q false a r:=by unfold se;rw[bg]
  rw[this,ih,List.map_cons];unfold g1;cases q y<;>rfl
theorem zT{q:ae->Bool}{a:Sl aT}{t:List ae}:se q true a t=t.filter fun y=>!q y:=by
 induction t with
 |nil=>rfl
 |cons y r ih=>
  have:se q true a (y::r)=g1 q true a y++se q true a r:=by unfold se;rw[bg]
  rw[this,ih,List.filter_cons];unfold g1;cases q y<;>rfl
theorem yo{x:ae}{l r:List ae}(h:∀y∈l,ae.c9 x<=ae.c9 y):ins x (l++r)=l++ins x r:=by induction l with|nil=>rfl|cons y l ih=>rw[aU,ins,iC (h y (by simp)),cond_true,ih fun z hz=>h z (by simp[hz])];rfl
theorem LW{x:ae}{l r:List ae}(h:∃y∈l,¬ae.c9 x<=ae.c9 y):ins x (l++r)=ins x l++r:=by
 induction l with
 |nil=>obtain⟨y,hy,_⟩:=h;simp at hy
 |cons y l ih=>
  rw[aU,ins,ins];by_cases hy:ae.c9 x<=ae.c9 y
  .rw [iC hy,cond_true,cond_true,aU,ih];obtain⟨z,hz,hz2⟩:=h;rcases aN.1 hz with rfl|hz
   .exact absurd hy hz2
   .exact ⟨z,hz,hz2⟩
  .rw [eI hy];rfl
theorem Cf(x:ae)(l:List ae):(ins x l).length=l.length+1:=by
 induction l with
 |nil=>rfl
 |cons y r ih=>
  rw[ins];cases tt (ae.c9 x<=ae.c9 y)
  .rfl
  .rw [cond_true,c_,ih,c_]
theorem HN{x y:ae}{l:List ae}:y∈ins x l<->y=x\/y∈l:=by
 induction l with
 |nil=>simp[ins]
 |cons z r ih=>
  rw[ins];cases tt (ae.c9 x<=ae.c9 z)
  .simp only[cond_false,aN]
  .simp only[cond_true,aN,ih];exact or_left_comm
theorem NW{x:ae}{l:List ae}(hs:Ki l)(hk:∀y∈l,¬mI y x):Ki (ins x l):=by
 unfold Ki at*;induction l with
 |nil=>simp[ins]
 |cons y r ih=>
  rw[ins];rw[m6]at hs;by_cases h:ae.c9 x<=ae.c9 y
  .rw [iC h,cond_true,m6];refine⟨fun z hz=>?_,ih hs.2 fun z hz=>hk z (by simp[hz])⟩;rcases HN.1 hz with rfl|hz
   .exact ⟨h,hk y (by simp)⟩
   .exact hs.1 z hz
  .rw [eI h,cond_false,m6,m6];refine⟨fun z hz=>?_,hs⟩;refine⟨?_,fun q=>hk z hz q.symm⟩;rcases aN.1 hz with rfl|hz
   .omega
   .have:=(hs.1 z hz).1;omega
open Classical in
def tj(t:List ae)(m:ai)(ports aD:Int):List ae×Int:=
 if¬C4 (ai.R m) ports then(t,2)
 else if ai.bh m=1 then
  (if ai.iY m=true/\∃y∈t,Fd y (ai.R m)then(t,14)
  else if∃y∈t,mI y (ai.R m)then(se (fun y=>tt (mI y (ai.R m))) false (ae.iK (ai.R m)) t,0)
  else if aD<=t.length then(t,6)else(ins (ai.R m) t,0))
 else if ai.bh m=2 then(se (fun y=>tt (uU (ae.M y) (ae.M (ai.R m)))) false (ae.iK (ai.R m)) t,0)
 else if ai.bh m=4 then(se (fun y=>tt (uU (ae.M y) (ae.M (ai.R m)))) true (ae.iK (ai.R m)) t,0)
 else if ai.bh m=3 then(if∃y∈t,mI y (ai.R m)then(se (fun y=>tt (mI y (ai.R m))) false (ae.iK (ai.R m)) t,0)else(t,7))
 else if ai.bh m=5 then(if∃y∈t,mI y (ai.R m)then(se (fun y=>tt (mI y (ai.R m))) true (ae.iK (ai.R m)) t,0)else(t,7))
 else(t,2)
theorem NV{q:ae->Bool}{a:Sl aT}{t:List ae}(h:Ki t):Ki (se q false a t):=by
 have e:∀y:ae,ae.c9 (bif q y then xu y a else y)=ae.c9 y/\ae.M (bif q y then xu y a else y)=ae.M y:=fun y=>by cases q y<;>exact⟨rfl,rfl⟩
 unfold Ki at*;rw[CA,List.pairwise_map];refine h.imp fun{y z}h=>?_;unfold mI at*;rw[(e y).1,(e y).2,(e z).1,(e z).2];exact h
theorem NO{q:ae->Bool}{eH:Bool}{x:ae}{t:List ae}{ports aD:Int}(h:ug t ports aD)(hx:C4 x ports):ug (se q eH (ae.iK x) t) ports aD:=by
 refine⟨fun y hy=>?_,?_,by have:=CB q eH (ae.iK x) t;have:=h.n;omega⟩
 .unfold se at hy;obtain⟨z,hz,hyz⟩:=List.mem_flatMap.1 hy;have hz:=h.r z hz;unfold g1 at hyz;cases hq:q z<;>cases eH<;>simp only[hq,cond_true,cond_false,au,List.not_mem_nil]at hyz
  .rw [hyz];exact hz
  .rw [hyz];exact hz
  .rw [hyz];exact⟨hz.lo,hz.hi,hz.m,hx.a⟩
 .cases eH
  .exact NV h.s
  .rw [zT];exact List.Pairwise.sublist List.filter_sublist h.s
theorem GT{t:List ae}{m:ai}{ports aD:Int}(h:ug t ports aD):ug (tj t m ports aD).1 ports aD/\(tj t m ports aD).1.length<=t.length+1:=by
 have key:∀{t':List ae}{e:Int},ug t' ports aD->t'.length<=t.length+1->ug ((t',e):List ae×Int).1 ports aD/\((t',e):List ae×Int).1.length<=t.length+1:=fun a b=>⟨a,b⟩;unfold tj;by_cases hx:C4 (ai.R m) ports
 case neg=>rw[if_pos hx];exact key h (by omega)
 rw[if_neg (not_not_intro hx)];have kc:∀{q:ae->Bool}{eH:Bool},ug ((se q eH (ae.iK (ai.R m)) t,(0:Int)):List ae×Int).1 ports aD/\((se q eH (ae.iK (ai.R m)) t,(0:Int)):List ae×Int).1.length<=t.length+1:=fun{q eH}=>key (NO h hx) (Nat.le_succ_of_le (CB _ _ _ _));have k0:∀{e:Int},ug ((t,e):List ae×Int).1 ports aD/\((t,e):List ae×Int).1.length<=t.length+1:=key h (by omega);split
 .split
  .exact k0
  .split
   .exact kc
   .split
    .exact k0
    .rename_i h1 h2 h3;refine key ⟨fun y hy=>?_,NW h.s fun y hy hk=>h2 ⟨y,hy,hk⟩,by rw[Cf];omega⟩ (by rw[Cf];omega);rcases HN.1 hy with rfl|hy
     .exact hx
     .exact h.r y hy
 .split
  .exact kc
  .split
   .exact kc
   .split
    .split
     .exact kc
     .exact k0
    .split
     .split
      .exact kc
      .exact k0
     .exact k0
theorem nc{α:Type}{l:List α}{x:α}{n:Nat}(h:l.length<=n)(hn:n<2147483648):ld (l++[x])=some (l++[x]):=ZJ (by rw[bi,List.length_singleton];omega)
theorem rz{t:Sl ae}{m:ai}{strict eH:Bool}(hn:t.l.length<2147483648)(hM:∀y∈t.l,uT (ae.M y))(hm:uT (ae.M (ai.R m)))(q:ae->Bool)
  (hq:q=fun y=>bif strict then tt (mI y (ai.R m))else tt (uU (ae.M y) (ae.M (ai.R m)))):
  ∃s n,mA t m strict eH=some (s,n)/\s.l=se q eH (ae.iK (ai.R m)) t.l/\n=(t.l.countP q:Nat):=by
 have h:∃r,bw (kp t m strict eH) (0,((0:Nat):Int),Sl.nil)=some r/\(r.2.l=se q eH (ae.iK (ai.R m)) t.l/\r.1=(t.l.countP q:Nat)):=by
  refine tg (fun i(s:Int×Sl ae)=>(s.1,((i:Nat):Int),s.2)) t.l.length (fun i s=>s.2.l=se q eH (ae.iK (ai.R m)) (t.l.take i)/\s.1=((t.l.take i).countP q:Nat)) _ (fun i s hi hI=>.inl ?_) (fun s hI=>⟨_,?_,by rwa[ij]at hI⟩) 0 (0,Sl.nil) (by omega) ⟨rfl,rfl⟩
  .obtain ⟨n,s⟩:=s;obtain⟨h1,h2⟩:=hI;simp only at h1 h2;have hl:s.l.length<=i:=by rw[h1];exact e_ (CB _ _ _ _) (by rw[cj];omega)
   have hc:(t.l.take i).countP q<=i:=e_ List.countP_le_length (by rw[cj];omega);simp only[kp];rw[decide_eq_true (by omega),cond_true,cB hi,u9 (by omega)];simp only[ah];rw[BW (hM _ (gy hi)) hm,BU];simp only[ah];rw[show(bif strict then some (tt (mI (gt t.l i) (ai.R m)))else some (tt (uU (ae.M (gt t.l i)) (ae.M (ai.R m)))):Option Bool)=some (q (gt t.l i))by rw[hq];cases strict<;>rfl];simp only[ah];rw[lS hi,MT,List.countP_append,List.countP_singleton,<-h1];cases hqi:q (gt t.l i)
   .rw [fh,cond_true,nc hl (by omega)];refine⟨(_,_),rfl,?_,?_⟩
    .unfold g1;rw[hqi];rfl
    .simpa using h2
   .rw [dC,cond_false];have hw:wr .i64 (n+1)=(((t.l.take i).countP q+1:Nat):Int):=by rw[h2,u9 (by omega)]
    cases eH
    .rw [fh,cond_true];simp only[vq,ah];rw[nc hl (by omega)];refine⟨(_,_),rfl,?_,?_⟩
     .unfold g1;rw[hqi];rfl
     .simpa using hw
    .rw [dC,cond_false];refine⟨(_,_),rfl,?_,?_⟩
     .unfold g1;rw[hqi];simp
     .simpa using hw
  .simp only[kp];rw[decide_eq_false (by omega),cond_false]
 obtain⟨r,h1,h2,h3⟩:=h;refine⟨r.2,r.1,?_,h2,h3⟩;unfold mA;have h1:bw (kp t m strict eH) (0,0,Sl.nil)=some r:=h1;rw[h1];rfl
theorem zb{t:Sl ae}{x:ae}(hn:t.l.length<2147483647):∃s,qA t x=some s/\s.l=ins x t.l:=by
 have h:∃r,bw (lD t x) (false,((0:Nat):Int),Sl.nil)=some r/\((r.1=false/\(∀y∈t.l,ae.c9 x<=ae.c9 y)/\r.2.l=t.l)\/(r.1=true/\r.2.l=ins x t.l)):=by
  refine tg (fun i(s:Bool×Sl ae)=>(s.1,((i:Nat):Int),s.2)) t.l.length
   (fun i s=>(s.1=false/\(∀y∈t.l.take i,ae.c9 x<=ae.c9 y)/\s.2.l=t.l.take i)\/(s.1=true/\(∃y∈t.l.take i,¬ae.c9 x<=ae.c9 y)/\s.2.l=ins x (t.l.take i))) _ (fun i s hi hI=>.inl ?_) (fun s hI=>⟨(s.1,s.2),?_,?_⟩) 0 (false,Sl.nil) (by omega) (.inl ⟨rfl,fun y hy=>by simp at hy,rfl⟩)
  .obtain ⟨b,s⟩:=s;have hlt:(t.l.take i).length=i:=by rw[cj];omega
   simp only[lD];rw[decide_eq_true (by omega),cond_true,cB hi,u9 (by omega)];simp only[ah];rcases hI with⟨rfl,h1,h2⟩|⟨rfl,h1,h2⟩
   .simp only at h2;rw[fh,cond_true];by_cases hp:ae.c9 (gt t.l i)<ae.c9 x
    .rw [decide_eq_true hp];simp only[ah,cond_true];rw[nc (n:=i) (by rw[h2];omega) (by omega)];simp only[ah];rw[nc (n:=i+1) (by show(s.l++[x]).length<=i+1;rw[bi,h2,hlt];exact am _) (by omega)];refine⟨(_,_),rfl,.inr ⟨rfl,⟨gt t.l i,by rw[lS hi];simp,by omega⟩,?_⟩⟩;rw[lS hi,yo h1,ins,eI (by omega),cond_false];show(s.l++[x])++[gt t.l i]=_;rw[h2,List.append_assoc];rfl
    .rw [decide_eq_false hp];simp only[ah,cond_false];rw[nc (n:=i) (by rw[h2];omega) (by omega)];refine⟨(_,_),rfl,.inl ⟨rfl,fun y hy=>?_,?_⟩⟩
     .rw [lS hi]at hy;rcases List.mem_append.1 hy with hy|hy
      .exact h1 y hy
      .rw [au.1 hy];omega
     .rw [lS hi,<-h2];rfl
   .simp only at h2;rw[dC,cond_false];simp only[ah,cond_false];rw[nc (n:=i+1) (by rw[h2,Cf];omega) (by omega)];refine⟨(_,_),rfl,.inr ⟨rfl,?_,?_⟩⟩
    .obtain ⟨y,hy,hy2⟩:=h1;exact⟨y,by rw[lS hi];exact List.mem_append_left _ hy,hy2⟩
    .rw [lS hi,LW h1,<-h2];rfl
  .simp only[lD];rw[decide_eq_false (by omega),cond_false]
  .rw [ij]at hI;rcases hI with hI|⟨h1,_,h2⟩
   .exact .inl hI
   .exact .inr ⟨h1,h2⟩
 obtain⟨r,h1,h2⟩:=h;unfold qA;have h1:bw (lD t x) (false,0,Sl.nil)=some r:=h1;rw[h1];obtain⟨b,s⟩:=r;rcases h2 with⟨rfl,h2,h3⟩|⟨rfl,h2⟩
 .simp only at h3;simp only[ah,fh,cond_true];rw[nc (n:=t.l.length) (by rw[h3];omega) (by omega)];refine⟨_,rfl,?_⟩;have:=yo (x:=x) (l:=t.l) (r:=[]) h2;rw[bv]at this;rw[this,<-h3];rfl
 .exact ⟨s,rfl,h2⟩
end Go.Proofs.YtjjajcecekocdaaGreat.A
