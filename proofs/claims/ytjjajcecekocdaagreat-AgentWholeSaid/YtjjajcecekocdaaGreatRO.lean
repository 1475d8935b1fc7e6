/- Bundles of an agent: of, Check, Commit. Conditions: at most sixteen changes. -/
import Derived.Test.YtjjajcecekocdaaGreatRH
open Option renaming bind_some->ah
open Go.Ev Go
noncomputable section
namespace Go.Proofs.YtjjajcecekocdaaGreat.A
abbrev ML(m:ai):Prop:=(ae.iK (ai.R m)).l.length<9223372036854775808
structure Of(b:av)(L:List ai):Prop where
 st:av.uX b=1
 n:av.n b=L.length
 l:∀j,j<L.length->bl b j=gt L j
theorem Qh{l:Sl ai}(hn:l.l.length<=16)(hm:∀m∈l.l,ML m):∃b,ue l=some (.inr b)/\Of b l.l:=by
 have hl:∃b,bw (o3 l) (((0:Nat):Int),(⟨0,(mx (.ar 16 .b)),(mx (.ar 16 y3)),0⟩:av))=some b/\
   (av.uX b=0/\(∀j,l.l.length<=j->j<16->EW b j=false)/\(∀j,j<l.l.length->EW b j=true/\bl b j=gt l.l j)):=by
  refine tg (fun i(s:av)=>(((i:Nat):Int),s)) l.l.length (fun i s=>av.uX s=0/\(∀j,i<=j->j<16->EW s j=false)/\(∀j,j<i->EW s j=true/\bl s j=gt l.l j)) _ (fun i s hi hI=>.inl ?_) (fun s hI=>⟨s,?_,hI⟩) 0 _ (by omega) ⟨rfl,fun j _ hj=>OI j hj,fun j hj=>by omega⟩
  .obtain ⟨h1,h2,h3⟩:=hI;simp only[o3];rw[decide_eq_true (by omega),cond_true,cB hi];simp only[ah];rw[PP (by omega) h1 (fun h=>by rw[h2 i (Nat.le_refl _) (by omega)]at h;cases h) (hm _ (gy hi))];simp only[ah];rw[u9 (by omega)];refine⟨_,rfl,rfl,fun j hj hj2=>?_,fun j hj=>?_⟩
   .show gt (Arr.set (av.AB s) i true).1 j=false;rw[CJ _ _ (by omega),if_neg (by omega)];exact h2 j (by omega) hj2
   .show gt (Arr.set (av.AB s) i true).1 j=true/\gt (Arr.set (av.l s) i (gt l.l i)).1 j=gt l.l j;rw[CJ _ _ (by omega),CJ _ _ (by omega)];by_cases e:i=j
    .subst e;simp
    .rw [if_neg e,if_neg e];exact h3 j (by omega)
  .simp only[o3];rw[decide_eq_false (by omega),cond_false]
 obtain⟨b,hb,h1,h2,h3⟩:=hl;refine⟨(⟨1,av.AB b,av.l b,(l.l.length:Int)⟩:av),?_,rfl,rfl,fun j hj=>(h3 j hj).2⟩;unfold ue vE;simp only[ah];have hb2:bw (o3 l) ((0:Int),(⟨0,(mx (.ar 16 .b)),(mx (.ar 16 y3)),0⟩:av))=some b:=hb;rw[hb2];simp only[ah];rw[J5 hn h1 h2 fun j hj=>(h3 j hj).1];simp only[ah];rfl
theorem EV{b:av}{L:List ai}(h:Of b L)(hn:L.length<=16):∃s,ii b=some (s,b)/\s.l=L:=M0 hn h.st h.n h.l
abbrev md(t:Sl ae)(aD:Int)(L:List ai):List ae×Int×Int:=kr t.l 8 aD t.l L 0
theorem EQ{b:av}{L:List ai}(h:Of b L)(hn:L.length<=16){t:Sl ae}{aD:Int}(ht:t.l.length<=1000000)(hT:ug t.l 8 aD)(hf:∀m∈L,rX m):
  iT b t 8 aD=some ((md t aD L).2.2,b):=by
 obtain⟨s,e1,e2⟩:=EV h hn;obtain⟨q,e3,e4⟩:=uW (t:=t) (l:=s) (aD:=aD) (by rw[e2];omega) hT (by rw[e2];exact hf);unfold iT eK;simp only[ah];rw[h.st,show((1:Int) !=1)=false from rfl,cond_false,e1];simp only[ah];rw[e3,e2];rfl
theorem JR{b:av}{L:List ai}(h:Of b L)(hn:L.length<=16){t:Sl ae}{aD:Int}(ht:t.l.length<=1000000)(hT:ug t.l 8 aD)(hf:∀m∈L,rX m):
  ∃q b',jJ b t 8 aD=some (q,(md t aD L).2.2,b')/\q.l=(md t aD L).1:=by
 obtain⟨s,e1,e2⟩:=EV h hn;obtain⟨q,e3,e4⟩:=uW (t:=t) (l:=s) (aD:=aD) (by rw[e2];omega) hT (by rw[e2];exact hf);unfold jJ;rw[EQ h hn ht hT hf];simp only[ah];by_cases he:(md t aD L).2.2=0
 .rw [he,show((0:Int) !=0)=false from rfl,cond_false,e1];simp only[ah];rw[e3];simp only[ah,lg];exact⟨q,_,rfl,by rw[e4,e2]⟩
 .rw [show((md t aD L).2.2 !=0)=true by simpa using he,cond_true];exact⟨t,b,rfl,(Lq L t.l 0 he).1.symm⟩
theorem Vo{t:Sl ae}{aD:Int}{L:List ai}(hT:ug t.l 8 aD):ug (md t aD L).1 8 aD:=(HE hT L t.l 0 hT).1
theorem Jn(m:aj)(port:Int)(p:Arr 4 Int):∃b,oB m port p=some b:=by
 unfold oB;by_cases hp:((aj.dk m !=(-1))&&(aj.dk m !=port))=true
 .rw [hp];exact⟨_,rfl⟩
 .rw [show((aj.dk m !=(-1))&&(aj.dk m !=port))=false by simpa using hp,cond_false]
  obtain⟨r,hr,_⟩:=tg (f:=mC m p) (fun i(_:Unit)=>((i:Nat):Int)) 4 (fun _ _=>True) (fun _=>True) (fun i s hi _=>by
   simp only[mC];rw[decide_eq_true (by omega),cond_true,cB hi];simp only[ah];cases hb:(oe .i64 (CI .i64 (gt p.1 i) (gt (aj.vH m).1 i)) (gt (aj.nT m).1 i) !=0)with|true=>exact .inr ⟨_,rfl,trivial⟩|false=>exact .inl ⟨(),by rw[cond_false,u9 (by omega)],trivial⟩) (fun s _=>by
   simp only[mC];exact⟨_,rfl,trivial⟩) 0 () (by omega) trivial
  have hr2:bw (mC m p) (0:Int)=some r:=hr;rw[hr2];cases r<;>exact⟨_,rfl⟩
end Go.Proofs.YtjjajcecekocdaaGreat.A
