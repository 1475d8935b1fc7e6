/- Graphs: the reference's Loop. Conditions: as stated. -/
import Derived.Test.YthcplpfiidlinaaDoorJA
open Go.Ev Go
open Option renaming bind_some->ae
namespace Go.Proofs.YthcplpfiidlinaaDoor.J
theorem Rq{α:Type}[Inhabited α]{f:Int->Option (Sum Int (Sum Bool Unit))}(l:List α)(p:α->Bool)(hb:l.length<9223372036854775808)
  (hstep:∀i:Nat,i<l.length->f (i:Int)=some (bif p (gt l i)then .inr (.inl true)else .inl (wr .i64 ((i:Int)+1)))) (hend:f (l.length:Int)=some (.inr (.inr ()))):
  br f 0=some (bif l.any p then .inl true else .inr ()):=by
 rw[sQ l (fun _ x=>bif p x then some true else none) () hb (fun i hi=>by rw[hstep i hi];cases p (gt l i)<;>rfl) hend]
 have:∀(l:List α)(k:Nat),kw (fun _ x=>bif p x then some true else none) l k=bif l.any p then some true else none:=by
  intro l;induction l with
  |nil=>intro k;rfl
  |cons x l ih=>intro k;simp only[kw,List.any_cons];cases p x with|true=>rfl|false=>exact ih (k+1)
 rw[this];cases l.any p<;>rfl
theorem Jz(s:Sl Int)(x:Int)(hb:s.l.length<1000000):zr s x=some (decide (x∈s.l)):=by
 have h:=Rq (f:=oe s x) s.l (·==x) (by omega) (fun i hi=>by simp only[oe,jm hi,cond_true,bI hi,ae];cases(gt s.l i==x)<;>rfl) (by simp only[oe,j4,cond_false]);have e:s.l.any (·==x)=decide (x∈s.l):=by rw[Bool.eq_iff_iff];simp
 rw[e]at h;simp only[zr,h,ae];cases decide (x∈s.l)<;>rfl
instance(l:List aO)(i j:Nat):Decidable (Ed l i j):=by unfold Ed;infer_instance
theorem HW.Qv{l:List aO}{d i j k:Nat}(h:HW l j d i)(e:Ed l j k):HW l k (d+1) i:=by induction h with|zero=>exact .jK e .zero|jK e2 _ ih=>exact .jK e2 ih
def PH(n:Nat)(l:List aO):Prop:=∃g,g<n/\∃d,1<=d/\d<=n/\HW l g d g
theorem Gz{n:Nat}{l:List aO}{o:List Nat}(hF:wy n l)(hP:wx n l 0 o):¬PH n l:=by
 rintro⟨g,hg,d,h1,_,h3⟩
 have hpos:∀i,i<n->∃p,p<o.length/\gt o p=i:=fun i hi=>by
  rcases(hP.all i).2 hi with h|h
  .simp at h
  .exact I1 h
 have key:∀(d i:Nat),HW l g d i->∀p,p<o.length->gt o p=i->∃q,q<o.length/\gt o q=g/\p+d<=q:=by intro d i h;induction h with|zero=>intro p hp e;exact⟨p,hp,e,Nat.le_refl _⟩|@jK d i k e _ ih=>intro p hp e2;obtain⟨q,hq,e3⟩:=hpos k (hF.lt e).2;obtain⟨q0,hq0,e4⟩:=hP.wg q hq i (by rw[e3];exact e);have:q0=p:=(List.getElem_inj (i:=q0) (j:=p) (h₀:=by omega) (h₁:=hp) hP.nd).1 (by rw[<-eA (show q0<o.length by omega),<-eA hp,e4,e2]);obtain⟨q2,h4,h5,h6⟩:=ih q hq e3;exact⟨q2,h4,h5,by omega⟩
 obtain⟨p,hp,e⟩:=hpos g hg;obtain⟨q,hq,e2,h4⟩:=key d g h3 p hp e;have:q=p:=(List.getElem_inj (i:=q) (j:=p) (h₀:=hq) (h₁:=hp) hP.nd).1 (by rw[<-eA hq,<-eA hp,e2,e]);omega
theorem GD{n:Nat}{l:Sl aO}(hb:l.l.length<1000000)(hF:wy n l.l):∃s b,ig (n:Int) l=some (s,b)/\(b=false<->PH n l.l):=by
 rcases D0 hb hF with⟨s,o,h1,_,h3⟩|⟨h1,x,o,h2,h3⟩
 .exact ⟨s,true,h1,fun h=>(by cases h),fun h=>absurd h (Gz hF h3)⟩
 .refine ⟨.nil,false,h1,fun _=>?_,fun _=>rfl⟩;obtain⟨g,hg,hf⟩:=Dv h2 h3;unfold PG at hf
  have hf:∃k d,Ed l.l g k/\HW l.l g d k/\d<n:=by
   apply Classical.byContradiction;intro hno
   exact hf fun k d e h=>by
    rcases Nat.lt_or_ge d n with h2|h2
    .exact absurd ⟨k,d,e,h,h2⟩ hno
    .exact h2
  obtain⟨k,d,e,h,hd⟩:=hf;exact⟨g,hg,d+1,by omega,hd,.jK e h⟩
end Go.Proofs.YthcplpfiidlinaaDoor.J
