/- Ports of good routes: no hole, no ring. Conditions: as stated. -/
import Derived.Test.YtpnnnoagjcpmhaaDoorUH
import Derived.Test.YtpnnnoagjcpmhaaDoorUA
open Option.some renaming inj->aa
open Go.Ev Go
namespace Go.Proofs.YtpnnnoagjcpmhaaDoor.U
theorem Kv{α:Type}[Inhabited α]{l:List α}{i:Nat}(h:i<l.length):gt l i∈l:=by rw[eu h];exact List.getElem_mem _
def Fb(t:ah)(h:Nat)(sw p:Int):Bool:=!(kV t sw p).2.2.2&&!(decide (gt t.aR.l h=((sw,p):dl)))
def nQ(t:ah)(sw p:Int):List bc:=bif(kV t sw p).2.2.2 then[(sw,(kV t sw p).1)]else[]
section
variable{t:ah}{old now:Sl (Sl Int)}{s h:Nat}
theorem NY{m:ap}:m∈u_ t old now<->∃h s,h<t.aR.l.length/\s<now.l.length/\cK now h s≠cK old h s/\m=((s:Int),(h:Int),cK now h s,(ei t now h s:Int)):=DF.trans zL
theorem PF{m:ap}(hm:m∈u_ t old now)(h1:m.1=(s:Int))(h2:m.2.1=(h:Int)):m=((s:Int),(h:Int),cK now h s,(ei t now h s:Int))/\cK now h s≠cK old h s/\s<now.l.length/\h<t.aR.l.length:=by
 obtain⟨h',s',a,b,c,rfl⟩:=NY.1 hm;have e1:s'=s:=by have h1:(s':Int)=(s:Int):=h1;omega
 have e2:h'=h:=by have h2:(h':Int)=(h:Int):=h2;omega
 subst e1 e2;exact⟨rfl,c,b,a⟩
theorem GO(hV:py t){r:Sl (Sl Int)}(hh:h<t.aR.l.length)(H:qq t r h s):oO t r h s=none:=by unfold oO;cases hc:lg (lL (s:Int) (cK r h s)) t.aW.l 0 with|none=>rfl|some q=>obtain⟨a,b,c⟩:=q;obtain⟨j,l,hl,hj,_⟩:=(Il hV).1 hc;have:=DT hV (List.mem_of_getElem? hl) (Kv hh) hj.O_;refine absurd ?_ this;unfold rP;rw[List.mem_singleton,H.1,H.2]
theorem yK{r:Sl (Sl Int)}(hG:gk t r)(hh:h<t.aR.l.length)(hs:s<r.l.length):Fb t h (s:Int) (cK r h s)=false:=by
 unfold Fb;by_cases h0:ei t r h s=0
 .have H:=yV hG hh hs h0;have e:gt t.aR.l h=(((s:Int),cK r h s):dl):=Prod.ext H.1 H.2;rw[decide_eq_true e,Bool.not_true,Bool.and_false]
 .obtain ⟨_,s',e1,_⟩:=yW hG hh hs h0;rcases o_ (h:=h) hG.1 s with⟨e2,_⟩|⟨y,b,c,_,_,e2⟩
  .rw [e2]at e1;cases e1
  .rw [e2];rfl
theorem rj{r:Sl (Sl Int)}(hG:gk t r)(hh:h<t.aR.l.length)(hs:s<r.l.length){a b c:Int}(hp:kV t (s:Int) (cK r h s)=(a,b,c,true)):∃s':Nat,a=(s':Int)/\s'<r.l.length/\ei t r h s=ei t r h s'+1:=by
 rcases o_ (h:=h) hG.1 s with⟨_,e2⟩|⟨y,b',c',e1,hy,e2⟩
 .rw [e2]at hp;cases hp
 .rw [e2]at hp;obtain⟨rfl,_⟩:=Prod.mk.inj hp;by_cases h0:ei t r h s=0
  .rw [GO hG.1.rZ hh (yV hG hh hs h0)]at e1;cases e1
  .obtain ⟨_,s',e3,hs',e4⟩:=yW hG hh hs h0;rw[e3]at e1;obtain rfl:=aa e1;exact⟨s',rfl,hs',e4⟩
theorem Gc{E:List bc}{f:Nat->Nat}(hE:∀i j,Ed E i j->f j<f i){g:Nat}:∀{d i:Nat},MH E g d i->f g+d<=f i:=by intro d i hp;induction hp with|zero=>exact Nat.le_refl _|iD e _ ih=>have:=hE _ _ e;omega
theorem LN{E:List bc}{f:Nat->Nat}(hE:∀i j,Ed E i j->f j<f i)(n:Nat):¬Qg n E:=by rintro⟨g,_,d,h1,_,h3⟩;have:=Gc hE h3;omega
end
end Go.Proofs.YtpnnnoagjcpmhaaDoor.U
