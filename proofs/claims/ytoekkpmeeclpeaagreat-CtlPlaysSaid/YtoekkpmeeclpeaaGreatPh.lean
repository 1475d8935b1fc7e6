/- The relation between typed values and the model's memory, and how it is kept. Conditions: none, these are definitions and small laws. -/
import Derived.Test.YtoekkpmeeclpeaaGreatDe
import Derived.ChangeKeysEq
import Derived.WideKeyRuns
open Array renaming getElem?_eq_none->jg,getElem?_eq_some_iff->bZ
open Bool renaming and_eq_true->ax
open Go renaming Call->te
open Ieee renaming Datum->gu,Format->iS
open List renaming all_eq_true->cw,append_assoc->bm,append_nil->bO,cons_append->eX,drop_drop->ol,getElem?_append_left->mh,getElem?_append_right->lY,getElem?_eq_some_iff->bG,length->eg,length_append->au,length_cons->di,length_drop->jL,length_eq_one_iff->iw,length_eq_zero_iff->cu,length_take->bw,map_cons->bN,replicate->az,replicate_succ->gG
open List.cons renaming inj->aE
open Nat renaming add_assoc->gF,le_refl->aw,le_succ->cA,le_trans->bg,succ_mul->gS,zero_le->cG
open Option renaming map_eq_some_iff->dh
open Option.some renaming inj->af
open Prod.mk renaming inj->aq
open Sigma.mk renaming inj->ir
namespace Go.Ev
structure iW(S:Nat->Prop)(w:World)(S':Nat->Prop)(w':World):Prop where
 sub:∀b,S b->S' b
 mg:∀b,S b->w'.heap[b]?=w.heap[b]?
def Io(w0 w:World):Prop:=w.os=w0.os/\w.output=w0.output/\w.tape=w0.tape/\w0.drawn*0<=w.drawn*0
def uq(w:World)(b:Nat)(cr:Array Value):Prop:=∃t,w.heap[b]?=some (.cells cr t (0,0))
structure QE(K:Nat->Prop)(w0 w:World):Prop where
 WM:∀b,K b->b<w0.heap.size
 tH:∀b,K b->w.heap[b]?=w0.heap[b]?
 grow:w0.heap.size<=w.heap.size
 frz:∀a,a.block<w0.heap.size->w.frozen? a=w0.frozen? a
 N0:∀b cr,uq w0 b cr->∃arr',uq w b arr'/\arr'.size=cr.size
 io:Io w0 w
section
variable{S S' S'' K:Nat->Prop}{w0 w w' w'':World}{b:Nat}{cr:Array Value}
theorem iW.refl(S:Nat->Prop)(w:World):iW S w S w:=⟨fun _ h=>h,fun _ _=>rfl⟩
theorem iW.trans(a:iW S w S' w')(b:iW S' w' S'' w''):iW S w S'' w'':=⟨fun x h=>b.sub x (a.sub x h),fun x h=>(b.mg x (a.sub x h)).trans (a.mg x h)⟩
theorem Io.refl(w:World):Io w w:=⟨rfl,rfl,rfl,aw _⟩
theorem Io.trans(h:Io w w')(h2:Io w' w''):Io w w'':=⟨h2.1.trans h.1,h2.2.1.trans h.2.1,h2.2.2.1.trans h.2.2.1,bg h.2.2.2 h2.2.2.2⟩
theorem Fe(h:w'.heap[b]?=w.heap[b]?)(off:Nat):w'.cell? ⟨b,off,none⟩=w.cell? ⟨b,off,none⟩:=by simp[World.cell?,h]
theorem uq.cell(h:uq w b cr)(i:Nat):w.cell? ⟨b,i,none⟩=cr[i]?:=by obtain⟨t,h⟩:=h;simp[World.cell?,h]
theorem uq.lt(h:uq w b cr):b<w.heap.size:=by obtain⟨t,h⟩:=h;exact(bZ.1 h).1
theorem uq.frozen(h:uq w b cr)(i:Nat)(s:Option Nat):w.frozen? ⟨b,i,s⟩=false:=by obtain⟨t,h⟩:=h;simp[World.frozen?,h]
theorem uq.mg(h:uq w b cr)(hs:w'.heap[b]?=w.heap[b]?):uq w' b cr:=by obtain⟨t,h⟩:=h;exact⟨t,hs.trans h⟩
theorem uq.zH{arr':Array Value}(h:uq w b cr)(h':uq w b arr'):cr=arr':=by obtain⟨t,h⟩:=h;obtain⟨t',h'⟩:=h';rw[h]at h';simp at h';exact h'.1
end
def At(w:World)(b:Nat):Nat->List Value->Prop
 |_,[]=>True
 |o,v::r=>w.cell? ⟨b,o,none⟩=some v/\At w b (o+1) r
section
variable{w w':World}{b:Nat}
theorem DY{x y:List Value}:∀{o:Nat},At w b o (x++y)<->At w b o x/\At w b (o+x.length) y:=by induction x with|nil=>intro o;simp[At]|cons v r ih=>intro o;simp only[eX,At,ih,di,and_assoc];rw[show o+1+r.length=o+(r.length+1)by omega]
theorem At.mg(hs:w'.heap[b]?=w.heap[b]?){c:List Value}:∀{o:Nat},At w b o c->At w' b o c:=by induction c with|nil=>intro o h;trivial|cons v r ih=>intro o h;exact⟨(Fe hs o).trans h.1,ih h.2⟩
theorem At.get{c:List Value}:∀{o:Nat},At w b o c->∀{i:Nat}{v:Value},c[i]?=some v->w.cell? ⟨b,o+i,none⟩=some v:=by
 induction c with
 |nil=>intro o h i v hi;simp at hi
 |cons x r ih=>
  intro o h i v hi;cases i with
  |zero=>
   obtain rfl:x=v:=by simpa using hi
   exact h.1
  |succ i=>have:=ih h.2 (i:=i) (by simpa using hi);rwa[show o+1+i=o+(i+1)by omega]at this
theorem aaS{c:List Value}:∀{o:Nat},(∀i v,c[i]?=some v->w.cell? ⟨b,o+i,none⟩=some v)->At w b o c:=by induction c with|nil=>intro o h;trivial|cons x r ih=>intro o h;exact⟨h 0 x rfl,ih fun i v hi=>by have:=h (i+1) v (by simpa using hi);rwa[show o+(i+1)=o+1+i by omega]at this⟩
theorem Fj{cr:Array Value}(h:uq w b cr){c:List Value}{o:Nat}:At w b o c<->∀i v,c[i]?=some v->cr[o+i]?=some v:=by
 constructor
 .intro ha i v hi;rw[<-h.cell];exact ha.get hi
 .intro ha;exact aaS fun i v hi=>by rw[h.cell];exact ha i v hi
end
def o_{α:Type}(R:α->List Value->Prop):List α->List Value->Prop
 |[],c=>c=[]
 |x::l,c=>∃a b,c=a++b/\R x a/\o_ R l b
theorem ns{α:Type}{R:α->List Value->Prop}{l m:List α}:∀{c:List Value},o_ R (l++m) c<->∃a b,c=a++b/\o_ R l a/\o_ R m b:=by
 induction l with
 |nil=>intro c;exact⟨fun h=>⟨[],c,rfl,rfl,h⟩,fun⟨a,b,e,e2,h⟩=>by subst e2;simpa[e]using h⟩
 |cons x l ih=>
  intro c;simp only[eX,o_,ih];constructor
  .rintro ⟨a,b,rfl,h1,d,e,rfl,h2,h3⟩;exact⟨a++d,e,by simp,⟨a,d,rfl,h1,h2⟩,h3⟩
  .rintro ⟨a,b,rfl,⟨d,e,rfl,h1,h2⟩,h3⟩;exact⟨d,e++b,by simp,h1,e,b,rfl,h2,h3⟩
theorem o_.imp{α:Type}{R R':α->List Value->Prop}{l:List α}(h:∀x∈l,∀c,R x c->R' x c):∀{c:List Value},o_ R l c->o_ R' l c:=by induction l with|nil=>intro c h;exact h|cons x l ih=>rintro c ⟨a,b,rfl,h1,h2⟩;exact⟨a,b,rfl,h x (by simp) a h1,ih (fun y hy=>h y (by simp[hy])) h2⟩
theorem o_.len{α:Type}{R:α->List Value->Prop}{n:Nat}{l:List α}(h:∀x∈l,∀c,R x c->c.length=n):∀{c:List Value},o_ R l c->c.length=l.length*n:=by induction l with|nil=>rintro c rfl;simp|cons x l ih=>rintro c ⟨a,b,rfl,h1,h2⟩;rw[au,h x (by simp) a h1,ih (fun y hy=>h y (by simp[hy])) h2,di,gS];omega
def one:Value->Bool
 |.agg _|.tuple _=>false
 |_=>true
def KY(k:FloatKind)(n:Nat):Prop:=(k.format.read n).isNaN=true
def RT(S:Nat->Prop)(w:World):(t:Ty)->El t->List Value->Prop
 |.i k,x,c=>c=[.int k x]
 |.b,x,c=>c=[.bool x]
 |.s,x,c=>c=[.string x]
 |.f k,x,c=>∃m,c=[.float k m]/\(m=x\/KY k x/\KY k m)
 |.sl t,x,c=>match(x:Sl (El t))with|.nil=>c=[.slice none 0 0]|.mk l=>∃a cap,c=[.slice (some a) l.length cap]/\l.length<=cap/\0<ei t/\(l=[]/\cap=0\/S a.block/\a.spot=none/\∃d,o_ (RT S w t) l d/\At w a.block a.off d)
 |.mp _ _,_,c|.o _,_,c=>∃v,c=[v]/\one v=true
 |.un,_,c=>c=[]
 |.pr a a2,x,c=>∃d e,c=d++e/\RT S w a x.1 d/\RT S w a2 x.2 e
 |.st t,x,c=>RT S w t x c
 |.ar _ t,x,c=>o_ (RT S w t) x.1 c
section
variable{S S':Nat->Prop}{w w':World}
theorem RT.mono(hs:iW S w S' w'):∀{t:Ty}{x:El t}{c:List Value},RT S w t x c->RT S' w' t x c:=by
 intro t;induction t with
 |sl t ih=>intro x c h;cases x with|nil=>exact h|mk l=>obtain⟨a,cap,h1,h2,h3,h4⟩:=h;refine⟨a,cap,h1,h2,h3,h4.imp id ?_⟩;rintro⟨h4,h5,d,h6,h7⟩;exact⟨hs.sub _ h4,h5,d,h6.imp fun _ _ _=>ih,h7.mg (hs.mg _ h4)⟩
 |pr a a2 iha ihb=>rintro x c ⟨d,e,h1,h2,h3⟩;exact⟨d,e,h1,iha h2,ihb h3⟩
 |st t ih=>intro x c h;exact ih h
 |ar n t ih=>intro x c h;exact o_.imp (fun _ _ _=>ih) h
 |_=>intro x c h;exact h
theorem RT.len:∀{t:Ty}{x:El t}{c:List Value},RT S w t x c->c.length=ei t:=by
 intro t;induction t with
 |sl t ih=>intro x c h;cases x with|nil=>obtain rfl:c=_:=h;rfl|mk l=>obtain⟨a,cap,rfl,_⟩:=h;rfl
 |pr a a2 iha ihb=>rintro x c ⟨d,e,rfl,h2,h3⟩;rw[au,iha h2,ihb h3];rfl
 |st t ih=>intro x c h;exact ih h
 |ar n t ih=>intro x c h;rw[o_.len (fun _ _ _=>ih) h,x.2];rfl
 |f k=>rintro x c ⟨m,rfl,_⟩;rfl
 |mp k v=>rintro x c ⟨v,rfl,_⟩;rfl
 |o k=>rintro x c ⟨v,rfl,_⟩;rfl
 |_=>intro x c h;obtain rfl:c=_:=h;rfl
end
structure rJ where
 cQ:Nat
 jA:Nat
 ext:Nat
 cap:Nat
 t:Ty
 n:Option Nat
abbrev iq:=Nat->Option rJ
def Ren(φ φ':iq):Prop:=∀i l,φ i=some l->φ' i=some l
theorem Ren.refl(φ:iq):Ren φ φ:=fun _ _ h=>h
theorem Ren.trans{a b c:iq}(h:Ren a b)(h2:Ren b c):Ren a c:=fun i l e=>h2 i l (h i l e)
def nB{α:Type}:Sl α->Option Nat
 |.nil=>none
 |.mk l=>some l.length
def E6(l:rJ)(lo:Nat)(n:Option Nat)(c:List Value):Prop:=match n with|none=>c=[.slice none 0 0]|some m=>∃addr cap,c=[.slice (some ⟨l.cQ,addr,none⟩) m cap]/\m<=cap/\lo+cap=l.cap/\(0<cap->addr=l.jA+lo*ei l.t)/\addr+cap*ei l.t<=l.ext
def inN(l:rJ)(lo:Nat):Option Nat->Prop
 |none=>True
 |some q=>∃m,l.n=some m/\lo+q<=m
def nlV(k:Nat):Value:=match k with|0=>.slice none 0 0|1=>.pointer none|2=>.nilFunc|3=>.map none|_=>.nilIface
def RC(S:Nat->Prop)(w:World)(φ:iq):V->List Value->Prop
 |.x t v,c=>RT S w t v c
 |.kb b,c=>c=[.bool b]
 |.nl k,c=>c=[nlV k]
 |.so id,c|.sr id,c=>∃l,φ id=some l/\E6 l 0 l.n c
 |.sb id _ lo t r,c=>∃l,φ id=some l/\l.t=t/\inN l lo (nB r)/\E6 l lo (nB r) c
 |.op id t p,c=>∃l,φ id=some l/\l.t=t/\Vv t p/\c=[.pointer (some ⟨l.cQ,CG t p,none⟩)]
 |.ep id n t p,c=>∃l m,φ id=some l/\l.t=t/\l.n=some m/\n<m/\Vv t p/\c=[.pointer (some ⟨l.cQ,l.jA+n*ei t+CG t p,none⟩)]
 |.pt t v,c=>∃b o d,c=[.pointer (some ⟨b,o,none⟩)]/\S b/\RT S w t v d/\At w b o d
 |.fn _ f l,c=>∃d,c=[.func (.func f) #[] d.toArray]/\RC S w φ l d
 |.om id,c=>∃l,φ id=some l/\c=[.map (some l.cQ)]
 |.vs id t,c=>∃l,φ id=some l/\l.t=t/\c=[.slice (some ⟨l.cQ,0,none⟩) (nfT t) (nfT t)]
 |.rc l,c=>RC S w φ l c
 |.fl l,c=>c=l/\l.all plain=true
 |.ni,c=>c=[]
 |.co a r,c=>∃d e,c=d++e/\RC S w φ a d/\RC S w φ r e
 |.gn,c=>∃v,c=[v]/\one v=true
 |.tp _,_|.no,_=>False
def RW(S:Nat->Prop)(w:World)(φ:iq):V->Value->Prop
 |.tp l,x=>∃xs:List Value,x=.tuple xs.toArray/\RWs l xs
 |.no,x=>x=undef
 |.gn,_=>True
 |v,x=>∃c,RC S w φ v c/\if DW v then x=.agg c.toArray else c=[x]
where RWs:V->List Value->Prop
 |.ni,xs=>xs=[]
 |.co a r,xs=>∃x ys,xs=x::ys/\(∃c,RC S w φ a c/\if DW a then x=.agg c.toArray else c=[x])/\RWs r ys
 |_,_=>False
section
variable{S S':Nat->Prop}{w w':World}{φ φ':iq}
theorem RC.mono(hs:iW S w S' w')(hr:Ren φ φ'):∀{v:V}{c:List Value},RC S w φ v c->RC S' w' φ' v c:=by intro v;induction v with|x t v=>intro c h;exact RT.mono hs h|so id|sr id=>rintro c ⟨l,h1,h2⟩;exact⟨l,hr _ _ h1,h2⟩|sb id ver lo t r=>rintro c ⟨l,h1,h2⟩;exact⟨l,hr _ _ h1,h2⟩|op id t p=>rintro c ⟨l,h1,h2⟩;exact⟨l,hr _ _ h1,h2⟩|ep id n t p=>rintro c ⟨l,m,h1,h2⟩;exact⟨l,m,hr _ _ h1,h2⟩|om id=>rintro c ⟨l,h1,h2⟩;exact⟨l,hr _ _ h1,h2⟩|vs id t=>rintro c ⟨l,h1,h2⟩;exact⟨l,hr _ _ h1,h2⟩|pt t v=>rintro c ⟨b,o,d,h1,h2,h3,h4⟩;exact⟨b,o,d,h1,hs.sub _ h2,h3.mono hs,h4.mg (hs.mg _ h2)⟩|fn z f l ih=>rintro c ⟨d,h1,h2⟩;exact⟨d,h1,ih h2⟩|rc l ih=>intro c h;exact ih h|co a r iha ihr=>rintro c ⟨d,e,h1,h2,h3⟩;exact⟨d,e,h1,iha h2,ihr h3⟩|_=>intro c h;exact h
theorem RW.mono(hs:iW S w S' w')(hr:Ren φ φ'){v:V}{x:Value}(h:RW S w φ v x):RW S' w' φ' v x:=by
 have k1:∀{v:V}{x:Value},(∃c,RC S w φ v c/\if DW v then x=.agg c.toArray else c=[x])->∃c,RC S' w' φ' v c/\if DW v then x=.agg c.toArray else c=[x]:=fun⟨c,h1,h2⟩=>⟨c,h1.mono hs hr,h2⟩;have k2:∀{l:V}{xs:List Value},RW.RWs S w φ l xs->RW.RWs S' w' φ' l xs:=by intro l;induction l with|co a r _ ihr=>rintro xs ⟨x,ys,h1,h2,h3⟩;exact⟨x,ys,h1,k1 h2,ihr h3⟩|ni=>intro xs h;exact h|_=>intro xs h;exact h.elim
 cases v with|tp l=>obtain⟨xs,h1,h2⟩:=h;exact⟨xs,h1,k2 h2⟩|no=>exact h|gn=>exact h|_=>exact k1 h
end
def rD(ag:Bool)(xs:List Value):Value:=if ag then .agg xs.toArray else xs.headD undef
def Ut(S:Nat->Prop)(w:World)(k v:Ty)(e:El k×El v×Nat)(m:MapEntry):Prop:=∃c d,RT S w k e.1 c/\m.key=rD (kR k) c/\RT S w v e.2.1 d/\m.val=rD (kR v) d/\m.born=e.2.2
def od(S:Nat->Prop)(w:World)(k v:Ty):List (El k×El v×Nat)->List MapEntry->Prop
 |[],[]=>True
 |e::es,m::ms=>Ut S w k v e m/\od S w k v es ms
 |_,_=>False
def NW(S:Nat->Prop)(w:World)(t:Ty):Sl (El t)->Value->Prop
 |.nil,v=>v=.slice none 0 0
 |.mk l,v=>∃b addr cap cr d,v=.slice (some ⟨b,addr,none⟩) l.length cap/\uq w b cr/\l.length<=cap/\addr+cap*ei t<=cr.size/\o_ (RT S w t) l d/\At w b addr d
def xX(w:World)(l:rJ)(i:Nat):List Nat:=match w.cell? ⟨l.cQ,l.jA+i,none⟩with|some (.slice (some a) _ _)=>[a.block]|_=>[]
def vR(w:World)(l:rJ)(ln:Option (Nat×Nat))(i:Nat):List Nat:=if ln.map (·.1)=some i then[]else xX w l i
def Jy(w:World)(l:rJ)(ln:Option (Nat×Nat))(n:Nat):List Nat:=(List.range n).flatMap (vR w l ln)
def RO(S:Nat->Prop)(w:World)(φ:iq)(l:rJ):O->Prop
 |.ar t s _=>l.t=t/\l.n=nB s/\oq t=true/\0<ei t/\∀r,s=.mk r->∃cr d,uq w l.cQ cr/\cr.size=l.ext/\r.length<=l.cap/\l.jA+r.length*ei t<=l.ext/\o_ (RT S w t) r d/\At w l.cQ l.jA d
 |.im t s _=>l.t=t/\l.n=nB s/\oq t=true/\0<ei t/\∀r,s=.mk r->S l.cQ/\∃d,o_ (RT S w t) r d/\At w l.cQ l.jA d
 |.bx t v=>l.t=t/\fg v false t=true/\∃cr,uq w l.cQ cr/\RC S w φ v cr.toList
 |.ib t v=>l.t=t/\oq t=true/\S l.cQ/\∃d,RT S w t v d/\At w l.cQ 0 d
 |.mp k v m=>oq v=true/\(∃ks,G8 k=some ks)/\∃ms,w.heap[l.cQ]?=some (.map ms m.c_)/\od S w k v m.es ms.toList
 |.rw t s ln=>l.t=.sl t/\l.n=nB (s:Sl (Sl (El t)))/\oq t=true/\0<ei t/\∀r,s=.mk r->∃cr,uq w l.cQ cr/\cr.size=l.ext/\r.length<=l.cap/\l.jA+r.length<=l.ext/\
   (∀i j b,i<r.length->j<r.length->b∈vR w l ln i->b≠l.cQ/\(i≠j->b∉vR w l ln j))/\∀i x,r[i]?=some x->∃v,cr[l.jA+i]?=some v/\(match ln with|some (m,id)=>if m=i then(∃l',φ id=some l'/\l'.n=nB x)/\RC S w φ (.so id) [v]else NW S w t x v|none=>NW S w t x v)
def ob(w:World)(l:rJ):O->List Nat
 |.ar _ s _=>match s with|.nil=>[]|.mk _=>[l.cQ]
 |.bx _ _|.mp _ _ _=>[l.cQ]
 |.rw _ s ln=>match s with|.nil=>[]|.mk r=>l.cQ::Jy w l ln r.length
 |_=>[]
section
variable{S S' K:Nat->Prop}{w0 w w':World}{φ φ':iq}{l:rJ}{o:O}
theorem od.imp{k v:Ty}{es:List (El k×El v×Nat)}(h:∀e m,Ut S w k v e m->Ut S' w' k v e m):∀{ms:List MapEntry},od S w k v es ms->od S' w' k v es ms:=by
 induction es with
 |nil=>intro ms h;cases ms<;>exact h
 |cons e es ih=>intro ms hE;cases ms with|nil=>exact hE|cons m ms=>exact⟨h e m hE.1,ih hE.2⟩
theorem od.mono(hs:iW S w S' w'){k v:Ty}{es:List (El k×El v×Nat)}{ms:List MapEntry}(h:od S w k v es ms):od S' w' k v es ms:=h.imp fun _ _⟨c,d,h1,h2,h3,h4⟩=>⟨c,d,h1.mono hs,h2,h3.mono hs,h4⟩
theorem U3(h:w'.heap[l.cQ]?=w.heap[l.cQ]?)(i:Nat):xX w' l i=xX w l i:=by simp[xX,Fe h]
theorem LQ(h:w'.heap[l.cQ]?=w.heap[l.cQ]?)(ln:Option (Nat×Nat)):vR w' l ln=vR w l ln:=by funext i;simp only[vR,U3 h]
theorem Tr(h:l.cQ∈ob w l o->w'.heap[l.cQ]?=w.heap[l.cQ]?):ob w' l o=ob w l o:=by
 cases o with
 |rw t s ln=>cases s with|nil=>rfl|mk r=>simp only[ob,Jy];rw[LQ (h (by simp[ob]))]
 |_=>rfl
theorem L_{ln:Option (Nat×Nat)}{n i b:Nat}(hi:i<n)(hln:ln.map (·.1)≠some i)(hb:b∈xX w l i):b∈Jy w l ln n:=List.mem_flatMap.2 ⟨i,by simpa using hi,by unfold vR;rw[if_neg hln];exact hb⟩
theorem NW.mono(hs:iW S w S' w'){t:Ty}{x:Sl (El t)}{v:Value}(hb:∀a n m,v=.slice (some a) n m->w'.heap[a.block]?=w.heap[a.block]?)(h:NW S w t x v):NW S' w' t x v:=by cases x with|nil=>exact h|mk r=>obtain⟨b,addr,cap,cr,d,rfl,h2,h3,h4,h5,h6⟩:=h;have e:=hb _ _ _ rfl;exact⟨b,addr,cap,cr,d,rfl,h2.mg e,h3,h4,h5.imp fun _ _ _=>RT.mono hs,h6.mg e⟩
theorem RO.mono(hs:iW S w S' w')(hr:Ren φ φ')(hb:∀b∈ob w l o,w'.heap[b]?=w.heap[b]?)(h:RO S w φ l o):RO S' w' φ' l o:=by
 cases o with
 |ar t s v=>obtain⟨h1,h2,h3,h4,h5⟩:=h;refine⟨h1,h2,h3,h4,fun r e=>?_⟩;obtain⟨cr,d,k1,k2,k3,k4,k5,k6⟩:=h5 r e;have e2:=hb l.cQ (by rw[e];simp[ob]);exact⟨cr,d,k1.mg e2,k2,k3,k4,k5.imp fun _ _ _=>RT.mono hs,k6.mg e2⟩
 |im t s v=>obtain⟨h1,h2,h3,h4,h5⟩:=h;refine⟨h1,h2,h3,h4,fun r e=>?_⟩;obtain⟨k0,d,k5,k6⟩:=h5 r e;exact⟨hs.sub _ k0,d,k5.imp fun _ _ _=>RT.mono hs,k6.mg (hs.mg _ k0)⟩
 |bx t c=>obtain⟨h1,h2,cr,h3,h4⟩:=h;exact⟨h1,h2,cr,h3.mg (hb _ (by simp[ob])),h4.mono hs hr⟩
 |ib t v=>obtain⟨h1,h2,h3,d,h4,h5⟩:=h;exact⟨h1,h2,hs.sub _ h3,d,h4.mono hs,h5.mg (hs.mg _ h3)⟩
 |mp k v m=>obtain⟨h1,h2,ms,h3,h4⟩:=h;exact⟨h1,h2,ms,(hb _ (by simp[ob])).trans h3,h4.mono hs⟩
 |rw t s ln=>
  obtain⟨h1,h2,h3,h4,h5⟩:=h;refine⟨h1,h2,h3,h4,fun r e=>?_⟩;subst e;obtain⟨cr,k1,k2,k3,k4,k6,k5⟩:=h5 r rfl;have e2:=hb l.cQ (by simp[ob]);refine⟨cr,k1.mg e2,k2,k3,k4,by rw[LQ e2];exact k6,fun i x hi=>?_⟩;obtain⟨v,m1,m2⟩:=k5 i x hi;have dK:ln.map (·.1)≠some i->NW S w t x v->NW S' w' t x v:=fun hn hrow=>hrow.mono hs fun a n m ea=>by refine hb _ ?_;simp only[ob];refine List.mem_cons_of_mem _ (L_ (bG.1 hi).1 hn ?_);simp[xX,k1.cell,m1,ea]
  refine⟨v,m1,?_⟩;cases ln with
  |none=>exact dK (by simp) m2
  |some q=>
   obtain⟨m,id⟩:=q;simp only at m2|-;split
   .rename_i e3;rw[if_pos e3]at m2;obtain⟨⟨l',a1,a2⟩,a3⟩:=m2;exact⟨⟨l',hr _ _ a1,a2⟩,a3.mono hs hr⟩
   .rename_i e3;rw[if_neg e3]at m2;exact dK (by simpa using e3) m2
end
def HR(l:rJ):O->Prop
 |.ar t s _|.im t s _=>l.t=t/\l.n=nB s
 |.rw t s _=>l.t=.sl t/\l.n=nB (s:Sl (Sl (El t)))
 |_=>True
def A6(φ:iq)(h:H2):Prop:=∀id l o,φ id=some l->fO h id=some o->HR l o
theorem RO.HR{S:Nat->Prop}{w:World}{φ:iq}{l:rJ}{o:O}(h:RO S w φ l o):HR l o:=by cases o with|ar t s v=>exact⟨h.1,h.2.1⟩|im t s v=>exact⟨h.1,h.2.1⟩|rw t s ln=>exact⟨h.1,h.2.1⟩|_=>trivial
def KU(S:Nat->Prop)(w:World):Prop:=∀g v,acD g=some v->RC S w (fun _=>none) v [.pointer (some ⟨g,0,none⟩)]/\DW v=false/\v≠.no/\v≠.gn/\∀l,v≠.tp l
abbrev Hf:=Nat->Option O
structure Inv(S K:Nat->Prop)(w0:World)(φ:iq)(H:Hf)(w:World):Prop where
 IQ:∀b,S b->b<w.heap.size
 sk:∀b,S b->¬K b
 yu:QE K w0 w
 R5:KU S w
 o9:∀id o,H id=some o->∃l,φ id=some l/\RO S w φ l o/\∀b∈ob w l o,¬S b/\¬K b/\b<w.heap.size
 jz:∀i j a b l m,H i=some a->H j=some b->φ i=some l->φ j=some m->i≠j->∀x∈ob w l a,x∉ob w m b
section
variable{S S' K:Nat->Prop}{w0 w w':World}{φ φ':iq}{H H':Hf}
theorem KU.mono(h:KU S w)(hs:iW S w S' w'):KU S' w':=fun g v hg=>⟨(h g v hg).1.mono hs (Ren.refl _),(h g v hg).2⟩
theorem Inv.iT(hI:Inv S K w0 φ H w)(T:Nat->Prop)(hs:iW S w S' w')(hr:Ren φ φ')(hslt:∀b,S' b->b<w'.heap.size)(hsk:∀b,S' b->¬K b)(hfrm:QE K w0 w')
  (h0:∀i o,¬T i->H' i=some o->H i=some o)
  (h1:∀i o l,¬T i->H i=some o->φ i=some l->∀b∈ob w l o,w'.heap[b]?=w.heap[b]?/\¬S' b)
  (h2:∀i o,T i->H' i=some o->∃l,φ' i=some l/\RO S' w' φ' l o/\∀b∈ob w' l o,¬S' b/\¬K b/\b<w'.heap.size/\
   (∀j a m,¬T j->H' j=some a->φ j=some m->b∉ob w m a)/\∀j a m,T j->j≠i->H' j=some a->φ' j=some m->b∉ob w' m a):
  Inv S' K w0 φ' H' w':=by
 have old:∀i o,¬T i->H' i=some o->∃l,φ i=some l/\φ' i=some l/\ob w' l o=ob w l o/\H i=some o:=by intro i o ht ho;obtain⟨l,a1,_⟩:=hI.o9 i o (h0 i o ht ho);exact⟨l,a1,hr _ _ a1,Tr fun hb=>(h1 i o l ht (h0 i o ht ho) a1 _ hb).1,h0 i o ht ho⟩
 refine⟨hslt,hsk,hfrm,hI.R5.mono hs,fun i o ho=>?_,fun i j a b l m hi hj hl hm hne x hx hy=>?_⟩
 .by_cases ht:T i
  .obtain ⟨l,a1,a2,a4⟩:=h2 i o ht ho;exact⟨l,a1,a2,fun b hb=>⟨(a4 b hb).1,(a4 b hb).2.1,(a4 b hb).2.2.1⟩⟩
  .obtain ⟨l,b1,b2,b3,b4⟩:=old i o ht ho;obtain⟨l2,a1,a2,a4⟩:=hI.o9 i o b4;obtain rfl:l=l2:=af (b1.symm.trans a1);refine⟨l,b2,a2.mono hs hr fun b hb=>(h1 i o l ht b4 a1 b hb).1,fun b hb=>?_⟩;rw[b3]at hb;obtain⟨c1,c2⟩:=h1 i o l ht b4 a1 b hb;refine⟨c2,(a4 b hb).2.1,?_⟩;have hlt:=(a4 b hb).2.2;rw[Array.getElem?_eq_getElem hlt]at c1;exact(bZ.1 c1).1
 .by_cases ti:T i<;>by_cases tj:T j
  .obtain ⟨l2,a1,_,a4⟩:=h2 i a ti hi;obtain rfl:l=l2:=af (hl.symm.trans a1);exact(a4 x hx).2.2.2.2 j b m tj (fun e=>hne e.symm) hj hm hy
  .obtain ⟨l2,a1,_,a4⟩:=h2 i a ti hi;obtain rfl:l=l2:=af (hl.symm.trans a1);obtain⟨m2,b1,b2,b3,b4⟩:=old j b tj hj;obtain rfl:m=m2:=af (hm.symm.trans b2);exact(a4 x hx).2.2.2.1 j b m tj hj b1 (b3▸hy)
  .obtain ⟨m2,a1,_,a4⟩:=h2 j b tj hj;obtain rfl:m=m2:=af (hm.symm.trans a1);obtain⟨l2,b1,b2,b3,b4⟩:=old i a ti hi;obtain rfl:l=l2:=af (hl.symm.trans b2);exact(a4 x hy).2.2.2.1 i a l ti hi b1 (b3▸hx)
  .obtain ⟨l2,b1,b2,b3,b4⟩:=old i a ti hi;obtain rfl:l=l2:=af (hl.symm.trans b2);obtain⟨m2,c1,c2,c3,c4⟩:=old j b tj hj;obtain rfl:m=m2:=af (hm.symm.trans c2);exact hI.jz i j a b l m b4 c4 b1 c1 hne x (b3▸hx) (c3▸hy)
theorem Inv.G7(hI:Inv S K w0 φ H w)(h:∀i o,H' i=some o->H i=some o):Inv S K w0 φ H' w:=⟨hI.IQ,hI.sk,hI.yu,hI.R5,fun i o ho=>hI.o9 i o (h i o ho),fun i j a b l m hi hj=>hI.jz i j a b l m (h _ _ hi) (h _ _ hj)⟩
abbrev xm:=List (Nat×Option O)
def up(H:Hf)(u:xm):Hf:=fun i=>match iV u i with|some o=>o|none=>H i
theorem GH:up H []=H:=rfl
theorem cx(i:Nat)(o:Option O)(u:xm)(j:Nat):up H ((i,o)::u) j=if i=j then o else up H u j:=by
 simp only[up,iV];by_cases e:i=j
 .subst e;simp
 .rw [show(i==j)=false by simpa using e];simp[e]
theorem zm{α:Type}(a b:List (Nat×α))(k:Nat):iV (a++b) k=match iV a k with|some x=>some x|none=>iV b k:=by induction a with|nil=>rfl|cons p r ih=>obtain⟨i,x⟩:=p;simp only[eX,iV];cases h:(i==k)<;>simp[ih]
theorem mj(u v:xm):up H (u++v)=up (up H v) u:=by funext j;simp only[up,zm];cases iV u j<;>rfl
theorem oz(u:xm)(h:H2):fO (u++h)=up (fO h) u:=by funext j;simp only[fO,up,zm];cases iV u j<;>rfl
theorem Bm{o:Obj}{b:Nat}(h:b<w.heap.size):({w with heap:=w.heap.push o}:World).heap[b]?=w.heap[b]?:=by simp[Array.getElem?_push,Nat.ne_of_lt h]
theorem xc(w:World)(cr:Array Value)(t:TypeId):uq {w with heap:=w.heap.push (.cells cr t)} w.heap.size cr:=⟨t,by simp⟩
theorem PW(o:Obj)(ho:∀c t r,o=.cells c t r->r=(0,0))(a:Addr):({w with heap:=w.heap.push o}:World).frozen? a=w.frozen? a:=by
 unfold World.frozen?;rcases Nat.lt_trichotomy a.block w.heap.size with h|h|h
 .rw [Bm h]
 .rw [h];simp only[Array.getElem?_push_size,jg (aw _)];cases o with|cells c t r=>obtain rfl:=ho c t r rfl;simp|_=>rfl
 .rw [jg (by simp;omega),jg (by omega)]
theorem QE.push(h:QE K w0 w)(o:Obj)(ho:∀c t r,o=.cells c t r->r=(0,0)):QE K w0 {w with heap:=w.heap.push o}where
 WM:=h.WM
 tH b hb:=(Bm (Nat.lt_of_lt_of_le (h.WM b hb) h.grow)).trans (h.tH b hb)
 grow:=by have:=h.grow;simp;omega
 frz a ha:=(PW o ho a).trans (h.frz a ha)
 N0 b a ha:=let⟨a',h1,h2⟩:=h.N0 b a ha;⟨a',h1.mg (Bm h1.lt),h2⟩
 io:=h.io
theorem iW.push(hs:∀b,S b->b<w.heap.size)(o:Obj):iW S w S {w with heap:=w.heap.push o}:=⟨fun _ h=>h,fun b h=>Bm (hs b h)⟩
theorem iW.D3(S:Nat->Prop)(w:World)(n:Nat):iW S w S {w with drawn:=n}:=⟨fun _ h=>h,fun _ _=>rfl⟩
theorem Inv.D3(hI:Inv S K w0 φ H w)(n:Nat)(hn:w.drawn<=n):Inv S K w0 φ H {w with drawn:=n}:=
 hI.iT (fun _=>False) (iW.D3 S w n) (Ren.refl _) hI.IQ hI.sk ⟨hI.yu.WM,hI.yu.tH,hI.yu.grow,hI.yu.frz,hI.yu.N0,hI.yu.io.trans ⟨rfl,rfl,rfl,by simp⟩⟩ (fun _ _ _ h=>h)
  (fun i o l _ ho hl b hb=>⟨rfl,by obtain⟨l2,a,_,c⟩:=hI.o9 i o ho;obtain rfl:=af (hl.symm.trans a);exact(c b hb).1⟩) fun _ _ h=>h.elim
def ext(φ:iq)(i:Nat)(l:rJ):iq:=fun j=>if j=i then some l else φ j
theorem pY{i:Nat}(l:rJ)(hi:φ i=none):Ren φ (ext φ i l):=fun j m h=>by simp only[ext];split<;>simp_all
theorem gQ(φ:iq)(i:Nat)(l:rJ):ext φ i l i=some l:=by simp[ext]
theorem Inv.size(hI:Inv S K w0 φ H w):¬S w.heap.size/\¬K w.heap.size:=⟨fun h=>Nat.lt_irrefl _ (hI.IQ _ h),fun h=>by have:=hI.yu.WM _ h;have:=hI.yu.grow;omega⟩
theorem Inv.new(hI:Inv S K w0 φ H w){i:Nat}(hi:φ i=none){b:Obj}(hb:∀c t r,b=.cells c t r->r=(0,0)){l:rJ}{o:O}(hl:l.cQ=w.heap.size)
  (hro:iW S w S {w with heap:=w.heap.push b}->RO S {w with heap:=w.heap.push b} (ext φ i l) l o) (hob:∀x∈ob {w with heap:=w.heap.push b} l o,x=l.cQ):
  Inv S K w0 (ext φ i l) (up H [(i,some o)]) {w with heap:=w.heap.push b}:=by
 obtain⟨nS,nK⟩:=hI.size;have hs:=iW.push hI.IQ b;refine hI.iT (fun j=>j=i) hs (pY l hi) (fun x hx=>by have:=hI.IQ x hx;simp;omega) hI.sk (hI.yu.push b hb) (fun j a hj ha=>?_) (fun j a m hj ha hm x hx=>?_) fun j a hj ha=>?_
 .rw [cx,if_neg (fun e=>hj e.symm)]at ha;exact ha
 .obtain ⟨m2,b1,_,b4⟩:=hI.o9 j a ha;obtain rfl:=af (hm.symm.trans b1);exact⟨Bm (b4 x hx).2.2,(b4 x hx).1⟩
 .subst hj;rw[cx,if_pos rfl]at ha;obtain rfl:=af ha;refine⟨l,gQ _ _ _,hro hs,fun x hx=>?_⟩;obtain rfl:=hob x hx;rw[hl];refine⟨nS,nK,by simp,fun k a m hk ha hm hx2=>?_,fun k a m hk hne=>absurd hk hne⟩;rw[cx,if_neg (fun e=>hk e.symm)]at ha;obtain⟨m2,b1,_,b4⟩:=hI.o9 k a ha;obtain rfl:=af (hm.symm.trans b1);exact Nat.lt_irrefl _ (b4 _ hx2).2.2
theorem Inv.set(hI:Inv S K w0 φ H w){id:Nat}{o o':O}{l:rJ}(ho:H id=some o)(hl:φ id=some l)(hb:l.cQ∈ob w l o)(hother:∀b,b≠l.cQ->w'.heap[b]?=w.heap[b]?)(hsize:w'.heap.size=w.heap.size)
  (hfrz:∀a,w'.frozen? a=w.frozen? a) (hown:∀cr,uq w l.cQ cr->∃arr',uq w' l.cQ arr'/\arr'.size=cr.size) (hio:Io w w') (hro:iW S w S w'->RO S w' φ l o') (hob:∀x∈ob w' l o',x∈ob w l o):
  iW S w S w'/\Inv S K w0 φ (up H [(id,some o')]) w':=by
 obtain⟨l2,a1,a2,a4⟩:=hI.o9 id o ho;obtain rfl:=af (hl.symm.trans a1);have hs:iW S w S w':=⟨fun _ h=>h,fun b h=>hother b fun e=>(a4 _ hb).1 (e▸h)⟩
 refine⟨hs,hI.iT (fun j=>j=id) hs (Ren.refl _) (fun x hx=>hsize▸hI.IQ x hx) hI.sk ?_ (fun j a hj ha=>?_) (fun j a m hj ha hm x hx=>?_) fun j a hj ha=>?_⟩
 .refine ⟨hI.yu.WM,fun b hk=>(hother b fun e=>(a4 _ hb).2.1 (e▸hk)).trans (hI.yu.tH b hk),hsize▸hI.yu.grow,fun a ha=>(hfrz a).trans (hI.yu.frz a ha),fun b cr h=>?_,hI.yu.io.trans hio⟩;obtain⟨arr',k1,k2⟩:=hI.yu.N0 b cr h;by_cases e:b=l.cQ
  .subst e;obtain⟨a',k3,k4⟩:=hown _ k1;exact⟨a',k3,k4.trans k2⟩
  .exact ⟨arr',k1.mg (hother b e),k2⟩
 .rw [cx,if_neg (fun e=>hj e.symm)]at ha;exact ha
 .obtain ⟨m2,b1,_,b4⟩:=hI.o9 j a ha;obtain rfl:=af (hm.symm.trans b1);exact⟨hother x fun e=>hI.jz j id a o m l ha ho hm hl hj x hx (e▸hb),(b4 x hx).1⟩
 .subst hj;rw[cx,if_pos rfl]at ha;obtain rfl:=af ha;refine⟨l,hl,hro hs,fun x hx=>?_⟩;obtain⟨c1,c2,c3⟩:=a4 x (hob x hx);refine⟨c1,c2,hsize▸c3,fun k a m hk ha hm hx2=>?_,fun k a m hk hne=>absurd hk hne⟩;rw[cx,if_neg (fun e=>hk e.symm)]at ha;exact hI.jz j k o a l m ho ha hl hm (fun e=>hk e.symm) x (hob x hx) hx2
end
section
variable{S:Nat->Prop}{w:World}{φ:iq}
theorem Mm{v:Value}(h:one v=true):v.cells= #[v]:=by cases v<;>simp_all[one,Value.cells]
theorem Vr{v:Value}(h:plain v=true):one v=true:=by cases v<;>simp_all[plain,one]
theorem o_.all{α:Type}{R:α->List Value->Prop}{Q:Value->Prop}{l:List α}(h:∀x∈l,∀c,R x c->∀v∈c,Q v):∀{c:List Value},o_ R l c->∀v∈c,Q v:=by
 induction l with
 |nil=>rintro c rfl v hv;simp at hv
 |cons x l ih=>
  rintro c ⟨a,b,rfl,h1,h2⟩ v hv
  grind
theorem RT.one:∀{t:Ty}{x:El t}{c:List Value},RT S w t x c->∀v∈c,one v=true:=by
 intro t;induction t with
 |sl t ih=>intro x c h;cases x with|nil=>obtain rfl:c=_:=h;simp[Ev.one]|mk l=>obtain⟨a,cap,rfl,_⟩:=h;simp[Ev.one]
 |pr a a2 iha ihb=>rintro x c ⟨d,e,rfl,h2,h3⟩ v hv;grind
 |st t ih=>intro x c h;exact ih h
 |ar n t ih=>intro x c h;exact o_.all (fun _ _ _=>ih) h
 |f k=>rintro x c ⟨m,rfl,_⟩;simp[Ev.one]
 |mp k v=>rintro x c ⟨v,rfl,h⟩;simpa using h
 |o k=>rintro x c ⟨v,rfl,h⟩;simpa using h
 |_=>intro x c h;obtain rfl:c=_:=h;simp[Ev.one]
theorem J_{l:rJ}{lo:Nat}{n:Option Nat}{c:List Value}(h:E6 l lo n c):∃v,c=[v]/\one v=true:=by cases n with|none=>exact⟨_,h,rfl⟩|some m=>obtain⟨a,cap,h,_⟩:=h;exact⟨_,h,rfl⟩
theorem aca(k:Nat):one (nlV k)=true:=by unfold nlV;split<;>rfl
theorem RC.Tc:∀{v:V}{c:List Value},RC S w φ v c->(∀x∈c,one x=true)/\c.length=LG v:=by
 intro v;have k1:∀{c:List Value},(∃x,c=[x]/\one x=true)->(∀x∈c,one x=true)/\c.length=1:=by rintro c ⟨x,rfl,h⟩;simpa using h
 induction v with|x t v=>intro c h;exact⟨RT.one h,RT.len h⟩|so id|sr id=>rintro c ⟨l,_,h⟩;exact k1 (J_ h)|sb id ver lo t r=>rintro c ⟨l,_,_,_,h⟩;exact k1 (J_ h)|op id t p=>rintro c ⟨l,_,_,_,rfl⟩;exact k1 ⟨_,rfl,rfl⟩|ep id n t p=>rintro c ⟨l,m,_,_,_,_,_,rfl⟩;exact k1 ⟨_,rfl,rfl⟩|pt t v=>rintro c ⟨b,o,d,rfl,_⟩;exact k1 ⟨_,rfl,rfl⟩|fn z f l=>rintro c ⟨d,rfl,_⟩;exact k1 ⟨_,rfl,rfl⟩|om id=>rintro c ⟨l,_,rfl⟩;exact k1 ⟨_,rfl,rfl⟩|vs id t=>rintro c ⟨l,_,_,rfl⟩;exact k1 ⟨_,rfl,rfl⟩|rc l ih=>intro c h;exact ih h|fl l=>rintro c ⟨rfl,h⟩;exact⟨fun x hx=>Vr (cw.1 h x hx),rfl⟩|ni=>rintro c rfl;simp[LG]|co a r iha ihr=>rintro c ⟨d,e,rfl,h1,h2⟩;obtain⟨a1,a2⟩:=iha h1;obtain⟨b1,b2⟩:=ihr h2;exact⟨fun x hx=>(List.mem_append.1 hx).elim (a1 x) (b1 x),by rw[au,a2,b2];rfl⟩|gn=>intro c h;exact k1 h|kb b=>rintro c rfl;exact k1 ⟨_,rfl,rfl⟩|nl k=>rintro c rfl;exact k1 ⟨_,rfl,aca k⟩|tp l=>intro c h;exact h.elim|no=>intro c h;exact h.elim
theorem RC.len{v:V}{c:List Value}(h:RC S w φ v c):c.length=LG v:=h.Tc.2
theorem arZ:∀(v:V)(ln:Bool)(t:Ty),fg v ln t=true->LG v=ei t:=by
 intro v;induction v with
 |rc l ih=>
  intro ln t hf;cases ln with
  |true=>cases t<;>simp[fg]at hf
  |false=>cases t with|st t=>exact ih true t hf|_=>simp[fg]at hf
 |co a r iha ihr=>
  intro ln t hf;cases ln with
  |false=>simp[fg]at hf
  |true=>
   cases t with
   |pr t u=>simp only[fg,ax]at hf;simp[LG,ei,iha _ _ hf.1,ihr _ _ hf.2]
   |_=>cases r with|ni=>have hf':fg a false _=true:=hf;simp[LG,iha _ _ hf']|_=>simp[fg]at hf
 |x u v=>intro ln t hf;cases ln with|false=>simp only[fg,decide_eq_true_eq]at hf;subst hf;rfl|true=>cases t<;>simp[fg]at hf
 |nl k=>intro ln t hf;cases ln<;>cases t<;>first|rfl|(simp[fg]at hf;done)|skip
 |_=>intro ln t hf;cases ln<;>cases t<;>first|rfl|(simp[fg]at hf;done)
theorem kJ{t u:Ty}{v:El t}{y:El u}(h:fF t u v=some y):∃e:t=u,e▸v=y:=by unfold fF at h;simp_all
theorem agn:∀{t:Ty}{l r:List Value}{x:El t},Gl t l=some (x,r)->∃a,l=a++r/\RT S w t x a:=by
 intro t;induction t with
 |i k=>
  intro l r x h;simp only[Gl,anD]at h;split at h
  .split at h
   .rename_i e;subst e;obtain⟨rfl,rfl⟩:=aq (af h);exact⟨[_],rfl,rfl⟩
   .cases h
  .cases h
 |f k=>
  intro l r x h;simp only[Gl,aeD]at h;split at h
  .split at h
   .rename_i e;subst e;obtain⟨rfl,rfl⟩:=aq (af h);exact⟨[_],rfl,_,rfl,.inl rfl⟩
   .cases h
  .cases h
 |b=>
  intro l r x h;simp only[Gl,anF]at h;split at h;·obtain⟨rfl,rfl⟩:=aq (af h);exact⟨[_],rfl,rfl⟩
  .cases h
 |s=>
  intro l r x h;simp only[Gl,anB]at h;split at h;·obtain⟨rfl,rfl⟩:=aq (af h);exact⟨[_],rfl,rfl⟩
  .cases h
 |sl t=>
  intro l r x h;simp only[Gl,anC]at h;split at h;·obtain⟨rfl,rfl⟩:=aq (af h);exact⟨[_],rfl,rfl⟩
  .cases h
 |pr a c iha ihc=>
  intro l r x h;simp only[Gl]at h;split at h
  .rename_i y l1 h1;split at h
   .rename_i z l2 h2;obtain⟨rfl,rfl⟩:=aq (af h);obtain⟨d,rfl,h3⟩:=iha h1;obtain⟨e,rfl,h4⟩:=ihc h2;exact⟨d++e,by simp,d,e,rfl,h3,h4⟩
   .cases h
  .cases h
 |st t ih=>intro l r x h;exact ih h
 |ar n t ih=>
  have go:∀(m:Nat)(l r:List Value)(x:Arr m (El t)),Z7 (Gl t) m l=some (x,r)->∃a,l=a++r/\o_ (RT S w t) x.1 a:=by
   intro m;induction m with
   |zero=>intro l r x h;obtain⟨rfl,rfl⟩:=aq (af h);exact⟨[],rfl,rfl⟩
   |succ m ihm=>
    intro l r x h;simp only[Z7]at h;split at h
    .rename_i y l1 h1;split at h
     .rename_i z l2 h2;obtain⟨rfl,rfl⟩:=aq (af h);obtain⟨d,rfl,h3⟩:=ih h1;obtain⟨e,rfl,h4⟩:=ihm _ _ _ h2;exact⟨d++e,by simp,d,e,rfl,h3,h4⟩
     .cases h
    .cases h
  intro l r x h;exact go n l r x h
 |_=>intro l r x h;simp[Gl]at h
theorem zw{v:V}{u:Ty}{y:El u}{c:List Value}(h:vf u v=some y)(hv:RC S w φ v c):RT S w u y c/\DW v=kR u:=by
 cases v with
 |x t v=>obtain⟨rfl,rfl⟩:=kJ h;exact⟨hv,rfl⟩
 |kb b=>obtain⟨rfl,rfl⟩:=kJ h;exact⟨hv,rfl⟩
 |nl k=>
  cases k with
  |zero=>
   cases u<;>simp only[vf]at h<;>first|cases h;done|skip
   obtain rfl:=af h;exact⟨hv,rfl⟩
  |succ k=>simp[vf]at h
 |fl l=>
  obtain⟨rfl,h1⟩:=hv;simp[vf]at h;cases ha:kR u
  .rw [ha]at h;simp at h
  rw[ha]at h;split at h
  .rename_i x hx;obtain rfl:=af h;obtain⟨a,e,h3⟩:=agn (S:=S) hx;rw[bO]at e;exact⟨e▸h3,rfl⟩
  .cases h
 |_=>simp[vf]at h
theorem Qm:∀{v:V}{ln:Bool}{u:Ty}{y:El u}{c:List Value},xi v ln u=some y->RC S w φ v c->RT S w u y c/\(ln=false->DW v=kR u):=by
 intro v;induction v with
 |rc l ih=>
  intro ln u y c h hv;cases ln with
  |true=>cases u<;>simp[xi]at h
  |false=>cases u with|st u=>exact⟨(ih h hv).1,fun _=>rfl⟩|_=>simp[xi,vf]at h
 |co a r iha ihr=>
  intro ln u y c h hv;obtain⟨x1,x2,rfl,h1,h2⟩:=hv;cases ln with
  |false=>cases u<;>simp[xi,vf]at h
  |true=>
   cases u with
   |pr t u=>
    simp only[xi]at h;split at h
    .rename_i p q hp hq;obtain rfl:=af h;exact⟨⟨x1,x2,rfl,(iha hp h1).1,(ihr hq h2).1⟩,fun e=>by cases e⟩
    .cases h
   |_=>cases r with|ni=>have h':xi a false _=some y:=h;obtain rfl:x2=[]:=h2;exact⟨by rw[bO];exact(iha h' h1).1,fun e=>by cases e⟩|_=>simp[xi]at h
 |_=>
  intro ln u y c h hv;cases ln with
  |true=>cases u<;>simp[xi]at h
  |false=>first|exact⟨(zw h hv).1,fun _=>(zw h hv).2⟩|(simp[xi]at h)
theorem Dr{v:V}{u:Ty}{y:El u}{c:List Value}(h:zN u v=some y)(hv:RC S w φ v c):RT S w u y c:=(Qm h hv).1
theorem NA{v:V}{u:Ty}{y:El u}{c:List Value}(h:zN u v=some y)(hv:RC S w φ v c):DW v=kR u:=(Qm h hv).2 rfl
theorem RF{t:Ty}{v x:V}{c:List Value}(h:QL t v=some x)(hv:RC S w φ v c):RC S w φ x c/\fg x false t=true:=by
 unfold QL at h;split at h
 .rename_i y hy;obtain rfl:=af h;cases hd:oq t<;>rw[hd]at hy
  .cases hy
  .exact ⟨(zw hy hv).1,by simp[fg]⟩
 grind
theorem Cq{α:Type}[Inhabited α]{R:α->List Value->Prop}{n k:Nat}{l:List α}{c:List Value}(hn:∀x∈l,∀c,R x c->c.length=n)(hk:k<l.length)(h:o_ R l c):
  ∃a m b,c=a++m++b/\a.length=k*n/\R (gt l k) m/\∀y m',R y m'->o_ R (l.set k y) (a++m'++b):=by
 induction l generalizing c k with
 |nil=>simp at hk
 |cons x l ih=>
  obtain⟨d,e,rfl,h1,h2⟩:=h;cases k with
  |zero=>exact⟨[],d,e,rfl,by simp,h1,fun y m' hy=>⟨m',e,rfl,hy,h2⟩⟩
  |succ k=>
   obtain⟨a,m,b,rfl,q1,q2,q3⟩:=ih (fun y hy=>hn y (by simp[hy])) (by simpa using hk) h2;refine⟨d++a,m,b,by simp,?_,by simpa,fun y m' hy=>?_⟩
   .grind
   .exact ⟨d,a++m'++b,by simp,h1,q3 y m' hy⟩
theorem ab8:∀{l:V}{t u:Ty}{i:Nat}{c:List Value},fg l true t=true->RC S w φ l c->Lm t i=some u->
  ∃a m b x,c=a++m++b/\a.length=KZ t i/\C_ l i=some x/\fg x false u=true/\RC S w φ x m/\∀y m',RC S w φ y m'->RC S w φ (MW l i y) (a++m'++b):=by
 intro l;induction l with
 |co a r iha ihr=>
  rintro t u i c hf ⟨d,e,rfl,h1,h2⟩ hu;have ane:fg a false t=true->r=.ni->Lm t 0=some t->KZ t 0=0->i=0->∃a' m b x,d++e=a'++m++b/\a'.length=KZ t i/\C_ (.co a r) i=some x/\fg x false u=true/\RC S w φ x m/\∀y m',RC S w φ y m'->RC S w φ (MW (.co a r) i y) (a'++m'++b):=by rintro hf2 rfl h3 h4 rfl;obtain rfl:=af (hu.symm.trans h3);exact⟨[],d,e,a,rfl,h4.symm,rfl,hf2,h1,fun y m' hy=>⟨m',e,rfl,hy,h2⟩⟩
  cases t with
  |pr t u'=>simp only[fg,ax]at hf;cases i with|zero=>obtain rfl:=af hu;exact⟨[],d,e,a,rfl,rfl,rfl,hf.1,h1,fun y m' hy=>⟨m',e,rfl,hy,h2⟩⟩|succ i=>obtain⟨a',m,b,x,rfl,q1,q2,q3,q4,q5⟩:=ihr hf.2 h2 hu;refine⟨d++a',m,b,x,by simp,?_,q2,q3,q4,fun y m' hy=>⟨d,a'++m'++b,by simp,h1,q5 y m' hy⟩⟩;rw[au,q1,h1.len,arZ _ _ _ hf.1];rfl
  |_=>
   cases r with
   |ni=>cases i with|zero=>exact ane (show fg a false _=true from hf) rfl rfl rfl rfl|succ i=>simp[Lm]at hu
   |_=>simp[fg]at hf
 |_=>intro t u i c hf;cases t<;>simp[fg]at hf
theorem Kc:∀{t u:Ty}{v:El t}{i:Nat}{c:List Value},RT S w t v c->Lm t i=some u->
  ∃a m b y,c=a++m++b/\a.length=KZ t i/\Ha t v i=some (.x u y)/\RT S w u y m/\(∀z v' m',XN t v i z=some v'->RC S w φ z m'->RT S w t v' (a++m'++b))/\
   ∀z m',RC S w φ z m'->RC S w φ (MW (Xh t v) i z) (a++m'++b):=by
 intro t;induction t with
 |pr a c iha ihc=>
  rintro u v i cs ⟨d,e,rfl,h1,h2⟩ hu;cases i with
  |zero=>
   obtain rfl:=af hu;refine⟨[],d,e,v.1,rfl,rfl,rfl,h1,fun z v' m' hs hz=>?_,fun z m' hz=>⟨m',e,rfl,hz,?_⟩⟩
   .simp [XN]at hs;split at hs
    .rename_i y hy;obtain rfl:=af hs;exact⟨m',e,rfl,(zw hy hz).1,h2⟩
    .cases hs
   .have tl:∀{t:Ty}{v:El t}{c:List Value},RT S w t v c->RC S w φ (Xh t v) c:=by intro t;induction t with|pr a c _ ihc=>rintro v cs ⟨d,e,rfl,h1,h2⟩;exact⟨d,e,rfl,h1,ihc h2⟩|_=>intro v c h;exact⟨c,[],(bO c).symm,h,rfl⟩
    exact tl h2
  |succ i=>
   obtain⟨a',m,b,y,rfl,q1,q2,q3,q4,q5⟩:=ihc h2 hu;refine⟨d++a',m,b,y,by simp,?_,q2,q3,fun z v' m' hs hz=>?_,fun z m' hz=>⟨d,a'++m'++b,by simp,h1,q5 z m' hz⟩⟩
   .rw [au,q1,h1.len];rfl
   .simp only[XN]at hs;split at hs
    .rename_i y hy;obtain rfl:=af hs;exact⟨d,a'++m'++b,by simp,h1,q4 z y m' hy hz⟩
    .cases hs
 |_=>intro u v i c h hu;cases i with|succ i=>simp[Lm]at hu|zero=>obtain rfl:=af hu;exact⟨[],c,[],v,by simp,rfl,rfl,h,fun z v' m' hs hz=>by simpa using(zw hs hz).1,fun z m' hz=>⟨m',[],by simp,hz,rfl⟩⟩
theorem Xg:∀{t:Ty}{v:El t}{c:List Value},RT S w t v c->RC S w φ (Xh t v) c:=by intro t;induction t with|pr a c _ ihc=>rintro v cs ⟨d,e,rfl,h1,h2⟩;exact⟨d,e,rfl,h1,ihc h2⟩|_=>intro v c h;exact⟨c,[],(bO c).symm,h,rfl⟩
theorem Bq:∀{p:xK}{v:V}{t u:Ty}{c:List Value},fg v false t=true->RC S w φ v c->Vv t p->Fw t p=some u->
  ∃a m b,c=a++m++b/\a.length=CG t p/\m.length=ei u/\(∀x,zJ v p=some x->RC S w φ x m/\fg x false u=true)/\∀y v' m',vD v p y=some v'->RC S w φ y m'->RC S w φ v' (a++m'++b):=by
 intro p;induction p with
 |nil=>
  intro v t u c hf hv _ hu;obtain rfl:t=u:=by cases t<;>simpa[Fw]using hu
  refine⟨[],c,[],by simp,by cases t<;>rfl,by rw[hv.len,arZ _ _ _ hf],fun x hx=>?_,fun y v' m' hs hy=>?_⟩
  .obtain rfl:v=x:=by simpa[zJ]using hx
   exact⟨hv,hf⟩
  .obtain rfl:y=v':=by simpa[vD]using hs
   simpa using hy
 |cons q p ih=>
  intro v t u c hf hv hp hu;cases q with
  |fd i=>
   cases t with
   |st t=>
    obtain⟨u1,hu1,hp⟩:=hp;simp only[Fw,hu1]at hu;simp only[CG,hu1];cases v with
    |x t' v=>
     simp only[fg,decide_eq_true_eq]at hf;subst hf;obtain⟨a,m,b,y,rfl,q1,q2,q3,q4,q5⟩:=Kc (φ:=φ) (show RT S w t v c from hv) hu1;obtain⟨a2,m2,b2,rfl,r1,r2,r3,r4⟩:=ih (v:=.x u1 y) (by simp[fg]) q3 hp hu;refine⟨a++a2,m2,b2++b,by simp,by simp[q1,r1],r2,fun x hx=>r3 x (by simpa[zJ,q2]using hx),fun z v' m' hs hz=>?_⟩;simp only[vD,q2]at hs;split at hs
     .rename_i y' hy';have h1:=r4 z y' m' hy' hz;split at hs
      .rename_i v2 hv2;obtain rfl:=af hs;show RT S w t v2 _;simpa using q4 y' v2 _ hv2 h1
      .obtain rfl:=af hs;show RC S w φ (MW (Xh t v) i y') _;simpa using q5 y' _ h1
     .cases hs
    |rc l=>
     obtain⟨a,m,b,y,rfl,q1,q2,q3,q4,q5⟩:=ab8 (l:=l) hf hv hu1;obtain⟨a2,m2,b2,rfl,r1,r2,r3,r4⟩:=ih q3 q4 hp hu;refine⟨a++a2,m2,b2++b,by simp,by simp[q1,r1],r2,fun x hx=>r3 x (by simpa[zJ,q2]using hx),fun z v' m' hs hz=>?_⟩;simp only[vD,q2]at hs;split at hs
     .rename_i y' hy';obtain rfl:=af hs;show RC S w φ (MW l i y') _;simpa using q5 y' _ (r4 z y' m' hy' hz)
     .cases hs
    |_=>simp[fg]at hf
   |_=>exact hp.elim
  |ix k=>
   cases t with
   |ar n t=>
    obtain⟨hk,hp⟩:=hp;simp only[CG];cases v with
    |x t' v=>
     simp only[fg,decide_eq_true_eq]at hf;subst hf;obtain⟨a,m,b,rfl,q1,q2,q3⟩:=Cq (fun _ _ _ h=>RT.len h) (by rw[v.2];exact hk) (hv);obtain⟨a2,m2,b2,rfl,r1,r2,r3,r4⟩:=ih (v:=.x t (gt v.1 k)) (by simp[fg]) q2 hp hu;refine⟨a++a2,m2,b2++b,by simp,by simp[q1,r1],r2,fun x hx=>r3 x (by simpa[zJ]using hx),fun z v' m' hs hz=>?_⟩;simp only[vD]at hs;split at hs
     .rename_i y' hy';split at hs
      .rename_i y2 hy2;obtain rfl:=af hs;have:=q3 y2 _ (zw hy2 (r4 z y' m' hy' hz)).1;show o_ (RT S w t) (v.1.set k y2) _;simpa using this
      .cases hs
     .cases hs
    |_=>simp[fg]at hf
   |_=>exact hp.elim
theorem ae6{a b:Value}(h:vEq a b=true):a=b:=by
 unfold vEq at h;split at h<;>first|rfl|(simp at h)|skip
 .simpa using h
 .simpa using h
 .simpa using h
 .simpa using h
theorem BH:∀{a b:List Value},zG a b=true->a=b:=by
 intro a;induction a with
 |nil=>intro b h;cases b<;>simp_all[zG]
 |cons x a ih=>intro b h;cases b with|nil=>simp[zG]at h|cons y b=>simp[zG]at h;rw[ae6 h.1,ih h.2]
theorem GA{α:Type}{R:α->List Value->Prop}{x:α}{c:List Value}(h:R x c)(n:Nat):o_ R (az n x) (az n c).flatten:=by induction n with|zero=>rfl|succ n ih=>exact⟨c,_,by simp[gG],h,ih⟩
theorem RT.ze:∀{t:Ty},oq t=true->RT S w t (pM t) (DC t):=by intro t;induction t with|pr a a2 iha ihb=>intro h;simp[oq]at h;exact⟨_,_,rfl,iha h.1,ihb h.2⟩|st t ih=>intro h;exact ih h|ar n t ih=>intro h;exact GA (ih h) n|f k=>intro _;exact⟨_,rfl,.inl rfl⟩|mp k v=>intro h;simp[oq]at h|o k=>intro h;simp[oq]at h|_=>intro _;rfl
theorem aeY:∀{t:Ty},(fg (Mx t).1 false t=true->RC S w φ (Mx t).1 (DC t))/\(fg (Mx t).2 true t=true->RC S w φ (Mx t).2 (DC t)):=by
 intro t;have one:∀{v:V}{c:List Value},RC S w φ v c->RC S w φ (.co v .ni) c:=fun h=>⟨_,[],(bO _).symm,h,rfl⟩;induction t with
 |pr a a2 iha ihb=>refine⟨fun h=>by simp[Mx,fg]at h,fun h=>?_⟩;simp[Mx,fg]at h;exact⟨_,_,rfl,iha.1 h.1,ihb.2 h.2⟩
 |st t ih=>
  have k:fg (bif oq t then V.x (.st t) (pM t)else .rc (Mx t).2) false (.st t)=true->RC S w φ (bif oq t then V.x (.st t) (pM t)else .rc (Mx t).2) (DC t):=by
   intro h;cases hd:oq t
   .rw [hd]at h;exact ih.2 h
   .exact RT.ze hd
  exact⟨k,fun h=>one (k h)⟩
 |ar n t ih=>
  have k:fg (bif oq t then V.x (.ar n t) (pM _)else .no) false (.ar n t)=true->RC S w φ (bif oq t then V.x (.ar n t) (pM _)else .no) (DC (.ar n t)):=by
   intro h;cases hd:oq t
   .rw [hd]at h;simp[fg]at h
   .exact RT.ze hd
  exact⟨k,fun h=>one (k h)⟩
 |sl t=>
  have k:RC S w φ (bif oq t then V.x (.sl t) Sl.nil else .nl 0) (DC (.sl t)):=by cases oq t<;>exact rfl
  exact⟨fun _=>k,fun _=>one k⟩
 |o k=>exact⟨fun _=>rfl,fun _=>one rfl⟩
 |mp k v=>exact⟨fun _=>rfl,fun _=>one rfl⟩
 |un=>exact⟨fun _=>rfl,fun _=>one rfl⟩
 |i k=>exact⟨fun _=>rfl,fun _=>one rfl⟩
 |b=>exact⟨fun _=>rfl,fun _=>one rfl⟩
 |s=>exact⟨fun _=>rfl,fun _=>one rfl⟩
 |f k=>exact⟨fun _=>⟨_,rfl,.inl rfl⟩,fun _=>one ⟨_,rfl,.inl rfl⟩⟩
theorem WT{t:Ty}(h:fg (SL t) false t=true):RC S w φ (SL t) (DC t):=aeY.1 h
end
variable{P:Program}
theorem Cp(b off n:Nat):(⟨b,off,none⟩:Addr).add n=⟨b,off+n,none⟩:=by unfold Addr.add;split<;>simp_all
theorem m8{t:TypeId}{n:Nat}(h:fh P t=some n)(w:World):(sizeOf t).run P w=.ok n w:=by simp[fh]at h;obtain⟨i,hi,rfl⟩:=h;simp[sizeOf,typeInfo,hi]
theorem cU{t:TypeId}{d:TypeDesc}(h:P.underlying t=some d)(w:World):(underlying t).run P w=.ok d w:=by simp[underlying,h]
theorem DH{t:TypeId}{g:Bool}(h:gx P t=some g)(w:World):(isAgg t).run P w=.ok g w:=by simp[gx]at h;obtain⟨d,hd,rfl⟩:=h;simp[isAgg,cU hd];cases d<;>rfl
theorem yF{t:TypeId}{z:List Value}(h:jH P t=some z)(w:World):
  ∃v,(zeroValue t).run P w=.ok v w/\v.cells.toList=z/\∀x∈z,plain x=true:=by
 simp only[jH]at h;split at h
 .rename_i v hv;split at h
  .rename_i hp;obtain rfl:=af h;obtain⟨i,hi,hz⟩:=Option.bind_eq_some_iff.1 hv;exact⟨v,by simp[zeroValue,typeInfo,hi,hz],rfl,fun x hx=>cw.1 hp x hx⟩
  .simp at h
 .simp at h
section
variable{w:World}
inductive D1:Value->Value->Prop
 |lit {v:Value} (h:plain v=true):D1 v v
 |nan {k:FloatKind} {n m:Nat} (hn:KY k n) (hm:KY k m):D1 (.float k n) (.float k m)
theorem KY.eq{k:FloatKind}{n:Nat}(h:KY k n):∃s t,k.format.read n=.nan s t:=by
 unfold KY gu.isNaN at h
 grind
theorem L5{k:FloatKind}{n:Nat}(h:KY k n)(y:Nat):k.format.add n y=none/\k.format.sub n y=none/\k.format.mul n y=none/\k.format.div n y=none/\k.format.order n y=none:=by obtain⟨s,t,h⟩:=h.eq;simp[iS.add,iS.sub,iS.mul,iS.div,iS.order,h,gu.sum,gu.product,gu.quotient,gu.order]
theorem Tw{k:FloatKind}{n:Nat}(h:KY k n)(y:Nat):k.format.add y n=none/\k.format.sub y n=none/\k.format.mul y n=none/\k.format.div y n=none/\k.format.order y n=none:=by obtain⟨s,t,h⟩:=h.eq;cases hy:k.format.read y<;>simp[iS.add,iS.sub,iS.mul,iS.div,iS.order,h,hy,gu.opposite,gu.sum,gu.product,gu.quotient,gu.order]
theorem aat{op:BinOp}{k:FloatKind}{n m:Nat}(hn:KY k n)(hm:KY k m)(y:Value):AY op (.float k n) y=AY op (.float k m) y:=by
 cases y with
 |float k' y=>
  unfold AY zP VA;obtain⟨a1,a2,a3,a4,a5⟩:=L5 hn y;obtain⟨b1,b2,b3,b4,b5⟩:=L5 hm y
  grind
 |_=>rfl
theorem aas{op:BinOp}{k:FloatKind}{n m:Nat}(hn:KY k n)(hm:KY k m)(y:Value):AY op y (.float k n)=AY op y (.float k m):=by cases y with|float k' y=>simp_all[AY,zP,VA,Tw]|_=>rfl
theorem St{op:BinOp}{a b va vb v:Value}(ha:D1 a va)(hb:D1 b vb)(h:AY op a b=some v):AY op va vb=some v:=by
 cases ha with
 |lit _=>cases hb with|lit _=>exact h|nan hn hm=>rw[<-aas hn hm];exact h
 |nan hn hm=>cases hb with|lit _=>rw[<-aat hn hm];exact h|nan hn' hm'=>rw[<-aat hn hm,<-aas hn' hm'];exact h
theorem TJ(k:FloatKind)(x y t:Nat):KY k ((Question.nanBits k x y).cut t):=by
 cases k with
 |f32=>
  show((iS.read Ieee.single) _).isNaN=true;have h1:((t %2)*2^31+0x7f800000+1+(t/2) %(2^23-1)) %2147483648=0x7f800001+(t/2) %8388607:=by omega
  show(gu.isNaN (if((t %2)*2^31+0x7f800000+1+(t/2) %(2^23-1)) %2147483648<8388608 then _ else if((t %2)*2^31+0x7f800000+1+(t/2) %(2^23-1)) %2147483648<2139095040 then _ else if((t %2)*2^31+0x7f800000+1+(t/2) %(2^23-1)) %2147483648=2139095040 then _ else _))=true;rw[if_neg (by omega),if_neg (by omega),if_neg (by omega)];rfl
 |f64=>
  show((iS.read Ieee.double) _).isNaN=true;have h1:((t %2)*2^63+0x7ff0000000000000+1+(t/2) %(2^52-1)) %9223372036854775808=0x7ff0000000000001+(t/2) %4503599627370495:=by omega
  show(gu.isNaN (if((t %2)*2^63+0x7ff0000000000000+1+(t/2) %(2^52-1)) %9223372036854775808<4503599627370496 then _ else if((t %2)*2^63+0x7ff0000000000000+1+(t/2) %(2^52-1)) %9223372036854775808<9218868437227405312 then _ else if((t %2)*2^63+0x7ff0000000000000+1+(t/2) %(2^52-1)) %9223372036854775808=9218868437227405312 then _ else _))=true;rw[if_neg (by omega),if_neg (by omega),if_neg (by omega)];rfl
theorem PN(k:FloatKind):KY k (EO k):=by cases k<;>(unfold KY;decide)
theorem XU{op:BinOp}{t:TypeId}{x y v:Value}(h:zP op x y=some v):(binOp op t x y).run P w=.ok v w/\plain v=true/\(∀a b,(eqGuard op t a b x y).run P w=.ok () w):=by
 have hg:∀a b,(match x,y with|.nilIface,.nilIface=>False|.agg _,.agg _=>False|_,_=>True)->(eqGuard op t a b x y).run P w=.ok () w:=by intro a b hxy;unfold eqGuard;cases op<;>simp<;>(cases x<;>cases y<;>simp_all)
 unfold zP at h;split at h
 .rename_i k a k' b;refine(fun⟨h1,h2⟩=>⟨h1,h2,fun a b=>hg a b trivial⟩:(_/\_)->_) ?_;split at h
  .split at h
   .simp at h
   .rename_i hb;obtain rfl:=af h;simp[binOp,Op.shift,hb,plain]
  .split at h
   .simp at h
   .rename_i hb;obtain rfl:=af h;simp[binOp,Op.shift,hb,plain]
  .rename_i op hshl hshr;split at h
   .rename_i hk;subst hk
    split at h<;>first
     |(simp at h;done)
     |(split at h
       .simp at h
       .rename_i hb;obtain rfl:=af h;simp[binOp,Op.intDiv,hb,plain])
     |(obtain rfl:=af h
       simp[binOp,Op.intArith,Op.intBits,Op.intCmp,plain])
   .simp at h
 .rename_i k a k' b;refine(fun⟨h1,h2⟩=>⟨h1,h2,fun a b=>hg a b trivial⟩:(_/\_)->_) ?_;split at h
  .rename_i hk;subst hk
   split at h<;>first
    |(simp at h;done)
    |(obtain⟨r,hr,rfl⟩:=dh.1 h
      simp[binOp,Op.floatArith,hr,plain])
    |(obtain rfl:=af h
      simp[binOp,Op.floatCmp,plain])
  .simp at h
 .rename_i x y;refine(fun⟨h1,h2⟩=>⟨h1,h2,fun a b=>hg a b trivial⟩:(_/\_)->_) ?_
  split at h<;>first
   |(simp at h;done)
   |(split at h
     .simp at h
     .rename_i hb;obtain rfl:=af h;refine⟨?_,rfl⟩;simp only[binOp,Op.stringOp,if_neg hb,Sem.run_pure])
   |(obtain rfl:=af h
     simp[binOp,Op.stringOp,plain])
 .simp at h
theorem XV{op:BinOp}{t:TypeId}{x y v:Value}(h:AY op x y=some v):∃v' n,(binOp op t x y).run P w=.ok v' {w with drawn:=n}/\w.drawn<=n/\D1 v v'/\(∀a b,(eqGuard op t a b x y).run P w=.ok () w):=by
 unfold AY at h;split at h
 .rename_i z hz;obtain rfl:=af h;obtain⟨h1,h2,h3⟩:=XU (P:=P) (w:=w) (t:=t) hz;exact⟨_,w.drawn,h1,aw _,.lit h2,h3⟩
 .rename_i hz;unfold VA at h;split at h
  .rename_i k a k' b;split at h
   .rename_i hk;subst hk
    have key:∀op',(op'=.add\/op'=.sub\/op'=.mul\/op'=.quo)->op=op'->(Op.floatArith op k a b=(do pure (.float k (<-choose (.nanBits k a b)))))->some (Value.float k (EO k))=some v->
      ∃v' n,(binOp op t (.float k a) (.float k b)).run P w=.ok v' {w with drawn:=n}/\w.drawn<=n/\D1 v v'/\(∀x y,(eqGuard op t x y (.float k a) (.float k b)).run P w=.ok () w):=by
     intro op' ho he hf hv;obtain rfl:=af hv;refine⟨.float k ((Question.nanBits k a b).cut (w.tape w.drawn (.nanBits k a b))),w.drawn+1,?_,cA _,.nan (PN k) (TJ _ _ _ _),?_⟩
     .have e:binOp op t (.float k a) (.float k b)=Op.floatArith op k a b:=by subst he;rcases ho with rfl|rfl|rfl|rfl<;>simp[binOp]
      rw[e,hf];simp[Question.forced]
     .rcases ho with rfl|rfl|rfl|rfl<;>simp[eqGuard]
    split at h
    .split at h
     .rename_i e;exact key .add (by simp) rfl (by unfold Op.floatArith;simp[e]) h
     .cases h
    .split at h
     .rename_i e;exact key .sub (by simp) rfl (by unfold Op.floatArith;simp[e]) h
     .cases h
    .split at h
     .rename_i e;exact key .mul (by simp) rfl (by unfold Op.floatArith;simp[e]) h
     .cases h
    .split at h
     .rename_i e;exact key .quo (by simp) rfl (by unfold Op.floatArith;simp[e]) h
     .cases h
    .cases h
   .cases h
  .cases h
theorem SR{op:UnOp}{x v:Value}(h:unV op x=some v):(Op.unary op x).run P w=.ok v w/\plain v=true:=by
 unfold unV at h;split at h
 .split at h
  .obtain rfl:=af h;simp[Op.unary,plain]
  .simp at h
 .split at h
  .obtain rfl:=af h;simp[Op.unary,Op.intArith,plain]
  .obtain rfl:=af h;simp[Op.unary,Op.intBits,plain]
  .simp at h
 .split at h
  .obtain rfl:=af h;simp[Op.unary,plain]
  .simp at h
 .simp at h
theorem Zq{k:FloatKind}{n m:Nat}(h:n %k.format.signWeight=m %k.format.signWeight)(hn:KY k n):KY k m:=by
 unfold KY iS.read at*;rw[h]at hn;dsimp only at hn|-;split at hn
 .cases hn
 .rw [if_neg (by assumption)];split at hn
  .cases hn
  .rw [if_neg (by assumption)];split at hn
   .cases hn
   .rw [if_neg (by assumption)];rfl
theorem Pr{k:FloatKind}{n:Nat}(h:KY k n):KY k (Op.negFloat k n):=by refine Zq ?_ h;unfold Op.negFloat iS.signWeight;rw[Nat.xor_mod_two_pow,Nat.mod_self,Nat.xor_zero]
theorem UC{op:UnOp}{a va v:Value}(ha:D1 a va)(h:unV op a=some v):∃v',unV op va=some v'/\D1 v v':=by
 cases ha with
 |lit _=>exact⟨v,h,.lit (SR (P:=default) (w:=default) h).2⟩
 |nan hn hm=>cases op with|neg=>obtain rfl:=af h;exact⟨_,rfl,.nan (Pr hn) (Pr hm)⟩|_=>cases h
end
theorem Ej{w:World}{b:Nat}{old cr:Array Value}(h:uq w b old)(a:Addr):(w.setRow b cr).frozen? a=w.frozen? a:=by
 obtain⟨t,h⟩:=h;unfold World.frozen?;by_cases e:a.block=b
 .rw [e,setRow_heap w b old cr t _ h,h]
 .rw [setRow_other w b _ _ e]
theorem Cb{w:World}{b:Nat}{old cr:Array Value}(h:uq w b old):uq (w.setRow b cr) b cr:=by obtain⟨t,h⟩:=h;exact⟨t,setRow_heap w b old cr t _ h⟩
theorem ES(v:Value):v.oneCell'=one v:=by cases v<;>rfl
theorem Jn{α:Type}(l:List α)(off:Nat)(p:List α)(hfit:off+p.length<=l.length)(i:Nat):
  (kV l off p)[i]?=if i<off then l[i]?else if i<off+p.length then p[i-off]?else l[i]?:=by
 unfold kV;by_cases h1:i<off
 .grind [bm,mh]
 .by_cases h2:i<off+p.length
  .rw [mh (by simp;omega),lY (by simp;omega)];simp only[bw,h1,h2,if_true,if_false];congr 1;omega
  .rw [lY (by simp;omega)];simp only[au,bw,List.getElem?_drop,h1,h2,if_false];congr 1;omega
theorem Ed{α:Type}(l:List α)(off:Nat)(p:List α)(hfit:off+p.length<=l.length):(kV l off p).length=l.length:=by unfold kV;simp;omega
variable{w:World}
theorem Zc:∀(l:List Value)(k:Nat)(cr:Array Value)(off:Nat),off+k+l.length<=cr.size->
  ((l.zipIdx k).foldl (fun(cs:Array Value)(p:Value×Nat)=>cs.setIfInBounds (off+p.2) p.1) cr).toList=kV cr.toList (off+k) l:=by
 intro l;induction l with
 |nil=>simp[kV]
 |cons a l ih=>
  intro k cr off hfit;simp only[di]at hfit;simp only[List.zipIdx_cons,List.foldl_cons];rw[ih (k+1) _ off (by simp;omega)];apply List.ext_getElem?;intro i;rw[Jn _ _ _ (by simp;omega),Jn _ _ _ (by simp;omega)];by_cases c1:i<off+k
  .have c3:i<off+(k+1):=by omega
   have c4:¬off+k=i:=by omega
   simp[c1,c3,c4]
  .by_cases c2:i=off+k
   .have:=by omega
    have c5:off+k<cr.size:=by omega
    simp[this,c5]
   .have c3:¬i<off+(k+1):=by omega
    have c4:¬off+k=i:=by omega
    by_cases c5:i<off+k+(l.length+1)
    .have c6:i<off+(k+1)+l.length:=by omega
     have c7:i-(off+k)=(i-(off+(k+1)))+1:=by omega
     simp[c1,c3,c5,c6,c7]
    .have c6:¬i<off+(k+1)+l.length:=by omega
     simp[c1,c3,c4,c5,c6]
theorem NM(vs cr:Array Value)(off:Nat)(hfit:off+vs.size<=cr.size):
  (vs.zipIdx.foldl (fun(cs:Array Value)(p:Value×Nat)=>cs.setIfInBounds (off+p.2) p.1) cr).toList=kV cr.toList off vs.toList:=by
 rw[<-Array.foldl_toList];simp_all[Zc]
theorem Rm{fields:Array Field}:∀{is:List Nat}{pl:List (Nat×Nat)},gb P fields is=some pl->pl.length=is.length/\
  ∀(k i:Nat)(q:Nat×Nat),is[k]?=some i->pl[k]?=some q->∃f,fields[i]?=some f/\q.1=f.offset/\fh P f.type=some q.2:=by
 intro is;induction is with
 |nil=>
  intro pl h;obtain rfl:[]=pl:=by simpa[gb]using h
  simp_all
 |cons i is ih=>
  intro pl h;simp[gb]at h;split at h
  .grind
  .simp at h
theorem Q6(g:Field->Nat×Nat):∀(l:List Field),(∀f∈l,∃n,fh P f.type=some n/\g f=(f.offset,n))->
  (l.mapM fun f=>(do pure (f.offset,<-sizeOf f.type):Sem (Nat×Nat))).run P w=.ok (l.map g) w:=by
 intro l;induction l with|nil=>intro _;rfl|cons f l ih=>simp_all[m8]
section
variable{P:Program}{S K:Nat->Prop}{w0 w w':World}{φ φ':iq}{H:Hf}
def R1(S:Nat->Prop)(w:World)(φ:iq)(v:V)(x:Value):Prop:=∃c,RC S w φ v c/\if DW v then x=.agg c.toArray else c=[x]
theorem R1.rw{v:V}{x:Value}(h:R1 S w φ v x):RW S w φ v x:=by cases v with|tp l=>obtain⟨c,h,_⟩:=h;exact h.elim|no=>obtain⟨c,h,_⟩:=h;exact h.elim|gn=>trivial|_=>exact h
theorem R1.cells{v:V}{x:Value}(h:R1 S w φ v x):RC S w φ v x.cells.toList/\∀y∈x.cells.toList,one y=true:=by
 obtain⟨c,h1,h2⟩:=h;have h3:=h1.Tc.1;split at h2
 .subst h2;exact⟨h1,h3⟩
 grind [Mm]
theorem R1.of{v:V}{c:List Value}{g:Bool}(h:RC S w φ v c)(hg:DW v=g)(h1:g=false->c.length=1):R1 S w φ v (rD g c):=by
 refine⟨c,h,?_⟩;rw[hg];cases g
 .match c,h1 rfl with|[x],_=>rfl
 .rfl
theorem R1.CH{v:V}{x:Value}(h:RC S w φ v [x])(hg:DW v=false):R1 S w φ v x:=⟨_,h,by rw[hg];rfl⟩
theorem R1.iB{v:V}{x:Value}(h:R1 S w φ v x)(hg:DW v=false:=by rfl):RC S w φ v [x]:=by obtain⟨c,h1,h2⟩:=h;simp_all
theorem R1.agg{v:V}{x:Value}(h:R1 S w φ v x)(hg:DW v=true:=by rfl):∃c,RC S w φ v c/\x=.agg c.toArray:=by obtain⟨c,h1,h2⟩:=h;rw[hg]at h2;exact⟨c,h1,h2⟩
def tg:V->Option Value
 |.x (.i k) n=>some (.int k n)
 |.x .b c=>some (.bool c)
 |.kb c=>some (.bool c)
 |.x .s s=>some (.string s)
 |.x (.f k) n=>some (.float k n)
 |_=>none
theorem A_{v:V}{x y:Value}(hv:tg v=some y)(h:RW S w φ v x):D1 y x:=by
 unfold tg at hv;split at hv<;>first|(cases hv;done)|skip
 all_goals obtain rfl:=af hv
 all_goals obtain⟨c,h1,h2⟩:=h
 .obtain rfl:=aE ((h2).symm.trans h1)|>.1;exact .lit rfl
 .obtain rfl:=aE ((h2).symm.trans h1)|>.1;exact .lit rfl
 .obtain rfl:=aE ((h2).symm.trans h1)|>.1;exact .lit rfl
 .obtain rfl:=aE ((h2).symm.trans h1)|>.1;exact .lit rfl
 .obtain ⟨m,e,h3⟩:=h1;obtain rfl:=aE ((h2).symm.trans e)|>.1;rcases h3 with rfl|⟨h3,h4⟩
  .exact .lit rfl
  .exact .nan h3 h4
theorem xV{v:V}{x y:Value}(hv:tg v=some y)(h:RW S w φ v x)(hf:∀k n,y≠.float k n:=by intro _ _ e;cases e):x=y:=by cases A_ hv h with|lit _=>rfl|nan _ _=>exact absurd rfl (hf _ _)
theorem Ft{v:V}{x y:Value}(hv:tg v=some y)(h:D1 y x):R1 S w φ v x:=by
 unfold tg at hv;split at hv<;>first|(cases hv;done)|skip
 all_goals obtain rfl:=af hv
 all_goals cases h
 all_goals refine⟨[_],?_,rfl⟩
 .exact rfl
 .exact rfl
 .exact rfl
 .exact rfl
 .exact ⟨_,rfl,.inl rfl⟩
 .exact ⟨_,rfl,.inr ⟨by assumption,by assumption⟩⟩
theorem R1.int{k:IntKind}{n:Int}{x:Value}(h:RW S w φ (.x (.i k) n) x):x=.int k n:=xV rfl h
def jE(S K:Nat->Prop)(w0 w:World)(φ:iq)(H:Hf)(n n':Nat)(v:V)(u:xm)(val:Value)(w':World):Prop:=n<=n'/\∃S' φ',iW S w S' w'/\Ren φ φ'/\(∀i l,φ' i=some l->φ i=none->n<=i/\i<n')/\RW S' w' φ' v val/\Inv S' K w0 φ' (up H u) w'
theorem jE.pure{n:Nat}{v:V}{val:Value}(hI:Inv S K w0 φ H w)(h:RW S w φ v val):jE S K w0 w φ H n n v [] val w:=⟨aw _,S,φ,iW.refl _ _,Ren.refl _,(fun i l h1 h2=>by rw[h1]at h2;cases h2),h,hI⟩
theorem jE.D3{n m:Nat}{v:V}{val:Value}(hI:Inv S K w0 φ H w)(hm:w.drawn<=m)(h:RW S w φ v val):jE S K w0 w φ H n n v [] val {w with drawn:=m}:=⟨aw _,S,φ,iW.D3 _ _ _,Ren.refl _,(fun i l h1 h2=>by rw[h1]at h2;cases h2),h.mono (iW.D3 _ _ _) (Ren.refl _),hI.D3 m hm⟩
def ip(P:Program)(o:Oper)(ρ:Operand->Value)(S K:Nat->Prop)(w0 w:World)(φ:iq)(H:Hf)(n n':Nat)(v:V)(u:xm):Prop:=∃nx val w',(execOp ρ o).run P w=.ok nx w'/\(nx=.value val\/nx=.skip/\val=undef)/\jE S K w0 w φ H n n' v u val w'
theorem ip.pure{o:Oper}{ρ:Operand->Value}{n:Nat}{v:V}{val:Value}(hI:Inv S K w0 φ H w)(hr:(execOp ρ o).run P w=.ok (.value val) w)(h:RW S w φ v val):ip P o ρ S K w0 w φ H n n v []:=⟨.value val,val,w,hr,.inl rfl,jE.pure hI h⟩
theorem zZ{t:TypeId}{agg:Bool}{n:Nat}(ha:gx P t=some agg)(hn:fh P t=some n){b o:Nat}{c:List Value}(hat:At w b o c)(hl:c.length=n)(h1:agg=false->n=1):
  (loadVar t ⟨b,o,none⟩).run P w=.ok (rD agg c) w:=by
 subst hl;cases agg
 .match c,h1 rfl,hat with|[x],_,hat=>simp[loadVar,DH ha,rD,hat.1]
 .have:=run_loadCells_list (P:=P) w _ c fun j v hj=>by rw[Cp];exact hat.get hj
  simp[loadVar,DH ha,m8 hn,rD,this]
theorem RO.anM{l:rJ}{t:Ty}{v:V}(h:RO S w φ l (.bx t v)):∃c,RC S w φ v c/\At w l.cQ 0 c/\fg v false t=true:=by
 obtain⟨h1,h2,cr,h3,h4⟩:=h
 grind [Fj]
theorem RO.XH{l:rJ}{t:Ty}{r:List (El t)}{v:Nat}(h:RO S w φ l (.ar t (.mk r) v)\/RO S w φ l (.im t (.mk r) v)):∃d,o_ (RT S w t) r d/\At w l.cQ l.jA d:=by
 rcases h with⟨_,_,_,_,h⟩|⟨_,_,_,_,h⟩
 .grind
 simp_all
theorem xM{b o:Nat}{x y z:List Value}(h:At w b o (x++y++z)):At w b (o+x.length) y:=(DY.1 (DY.1 h).1).2
theorem Sl.afW{α:Type}[Inhabited α]{s:Sl α}{n:Nat}(h:n<s.l.length):∃r,s=.mk r/\n<r.length:=by cases s with|nil=>simp[Sl.l]at h|mk r=>exact⟨r,rfl,h⟩
theorem q_{α:Type}{s:Sl α}{m:Nat}(h:nB s=some m):∃r,s=.mk r/\r.length=m:=by cases s with|nil=>cases h|mk r=>exact⟨r,rfl,af h⟩
theorem Xa:∀{p:xK}{t:Ty},Vv t p->∃u,Fw t p=some u:=by
 intro p;induction p with
 |nil=>intro t _;exact⟨t,by cases t<;>rfl⟩
 |cons q p ih=>
  intro t hp;cases q with
  |fd i=>
   cases t<;>first|exact hp.elim|skip
   obtain⟨u,hu,hp⟩:=hp;simp[Fw,hu];exact ih hp
  |ix k=>
   cases t<;>first|exact hp.elim|skip
   exact ih hp.2
theorem PB{h:H2}(hI:Inv S K w0 φ H w){p x:V}{l:List Nat}{pv:Value}(hp:RW S w φ p pv)(hl:F4 h p=some (x,l))(ha:∀i∈l,H i=fO h i):
  ∃b o c,pv=.pointer (some ⟨b,o,none⟩)/\RC S w φ x c/\At w b o c:=by
 unfold F4 at hl;split at hl
 .obtain ⟨rfl,rfl⟩:=aq (af hl);obtain⟨b,o,d,e,_,h2,h3⟩:=R1.iB hp;exact⟨b,o,d,(aE e).1,h2,h3⟩
 .rename_i id t p;obtain⟨l1,k1,k2,k3,k4⟩:=R1.iB hp;obtain⟨u,hu⟩:=Xa k3;have CI:∀{v:V}{c:List Value},RC S w φ v c->At w l1.cQ 0 c->fg v false t=true->zJ v p=some x->∃b o c,pv=.pointer (some ⟨b,o,none⟩)/\RC S w φ x c/\At w b o c:=by intro v c h1 h2 h3 h4;obtain⟨a,m,b,rfl,q1,_,q3,_⟩:=Bq h3 h1 k3 hu;exact⟨_,_,m,(aE k4).1,(q3 x h4).1,by have:=xM h2;rwa[Nat.zero_add,q1]at this⟩
  split at hl
  .rename_i u' c ho;by_cases e:u'=t
   .subst e;simp only at hl;split at hl
    .rename_i y hy;obtain⟨rfl,rfl⟩:=aq (af hl);obtain⟨l2,o1,o2,_⟩:=hI.o9 id _ ((ha id (by simp)).trans ho);obtain rfl:=af (k1.symm.trans o1);obtain⟨d,d1,d2,d3⟩:=o2.anM;exact CI d1 d2 d3 hy
    .cases hl
   .simp [e]at hl
  .rename_i u' v ho;by_cases e:u'=t
   .subst e;simp only at hl;split at hl
    .rename_i y hy;obtain⟨rfl,rfl⟩:=aq (af hl);obtain⟨l2,o1,o2,_⟩:=hI.o9 id _ ((ha id (by simp)).trans ho);obtain rfl:=af (k1.symm.trans o1);obtain⟨_,_,_,d,d1,d2⟩:=o2;exact CI (v:=.x u' v) d1 d2 (by simp[fg]) hy
    .cases hl
   .simp [e]at hl
  .cases hl
 .rename_i id n t p;obtain⟨l1,m1,k1,k2,k3,k4,k5,k6⟩:=R1.iB hp;obtain⟨u,hu⟩:=Xa k5
  have key:∀(s:Sl (El t))(v:Nat),H id=some (.ar t s v)\/H id=some (.im t s v)->zJ (.x t (gt s.l n)) p=some x->∃b o c,pv=.pointer (some ⟨b,o,none⟩)/\RC S w φ x c/\At w b o c:=by
   intro s v ho hx
   have h1:∃r,s=.mk r/\r.length=m1/\(RO S w φ l1 (.ar t s v)\/RO S w φ l1 (.im t s v)):=by
    rcases ho with ho|ho
    .obtain ⟨l2,o1,o2,_⟩:=hI.o9 id _ ho;obtain rfl:=af (k1.symm.trans o1);obtain⟨r,e1,e2⟩:=q_ (o2.2.1.symm.trans k3);exact⟨r,e1,e2,.inl o2⟩
    .obtain ⟨l2,o1,o2,_⟩:=hI.o9 id _ ho;obtain rfl:=af (k1.symm.trans o1);obtain⟨r,e1,e2⟩:=q_ (o2.2.1.symm.trans k3);exact⟨r,e1,e2,.inr o2⟩
   obtain⟨r,rfl,e2,h2⟩:=h1;obtain⟨d,d1,d2⟩:=RO.XH h2;obtain⟨a,m,b,rfl,q1,q2,_⟩:=Cq (fun _ _ _ h=>RT.len h) (by rw[e2];exact k4) d1;obtain⟨a2,m2,b2,rfl,r1,_,r3,_⟩:=Bq (v:=.x t (gt r n)) (φ:=φ) (by simp[fg]) q2 k5 hu;have:=xM (x:=a2) (xM d2);rw[q1,r1]at this;exact⟨_,_,m2,(aE k6).1,(r3 x hx).1,this⟩
  grind
 .cases hl
theorem NC{h:H2}{g:Bool}{n:Nat}{v:V}(hc:QN h g n v=true):DW v=g/\LG v=n/\(g=false->n=1):=by
 simp[QN]at hc
 grind
theorem abX{o:Oper}{ρ:Operand->Value}{t:TypeId}{a:Operand}{g:Bool}{m n:Nat}{h:H2}{p x:V}{l:List Nat}(ho:o.op=.load t a)(hag:gx P t=some g)(hs:fh P t=some m)(hI:Inv S K w0 φ H w)
  (hp:RW S w φ p (ρ a)) (hl:F4 h p=some (x,l)) (hc:QN h g m x=true) (ha:∀i∈l,H i=fO h i):ip P o ρ S K w0 w φ H n n x []:=by
 obtain⟨b,f,c,e,h1,h2⟩:=PB hI hp hl ha;obtain⟨c1,c2,c3⟩:=NC hc;have hlen:=h1.len.trans c2;refine ip.pure hI ?_ (R1.of h1 c1 fun e=>hlen.trans (c3 e)).rw;simp[execOp,ho,e,Instr.loadAt,Instr.sureAddr,zZ hag hs h2 hlen c3]
end
section
variable{P:Program}{S K:Nat->Prop}{w0 w w':World}{φ φ':iq}{H:Hf}{o:Oper}{ρ:Operand->Value}{n:Nat}{h2:H2}{v:V}{l:List Nat}{op:OP}{vs:List V}
def Ar(S:Nat->Prop)(w:World)(φ:iq)(ρ:Operand->Value):List Operand->List V->Prop
 |[],[]=>True
 |a::r,v::vs=>RW S w φ v (ρ a)/\Ar S w φ ρ r vs
 |_,_=>False
theorem Ar.one{a:Operand}(hr:Ar S w φ ρ [a] vs):∃v,vs=[v]/\RW S w φ v (ρ a):=by
 match vs,hr with|[v],hr=>exact⟨v,rfl,hr.1⟩
theorem Ar.two{a b:Operand}(hr:Ar S w φ ρ [a,b] vs):∃v x,vs=[v,x]/\RW S w φ v (ρ a)/\RW S w φ x (ρ b):=by
 match vs,hr with|[v,x],hr=>exact⟨v,x,rfl,hr.1,hr.2.1⟩
abbrev iA(P:Program)(o:Oper)(ρ:Operand->Value)(S K:Nat->Prop)(w0 w:World)(φ:iq)(H:Hf)(n:Nat)(v:V):Prop:=ip P o ρ S K w0 w φ H n n v []
theorem ip.bool{b:Bool}(hI:Inv S K w0 φ H w)(hr:(execOp ρ o).run P w=.ok (.value (.bool b)) w){v:V}(hv:tg v=some (.bool b)):iA P o ρ S K w0 w φ H n v:=ip.pure hI hr (Ft hv (.lit rfl)).rw
theorem IS{op:BinOp}(hop:op=.eql\/op=.neq){t:TypeId}{x y:Value}{b:Bool}(a c:Operand)
  (h1:binOp .eql t x y=(do pure (.bool (<-Op.equal t x y)))) (h2:binOp .neq t x y=(do pure (.bool (!(<-Op.equal t x y)))))
  (hg:(eqGuard op t a c x y).run P w=.ok () w) (he:(Op.equal t x y).run P w=.ok b w):
  ((do eqGuard op t a c x y;binOp op t x y):Sem Value).run P w=.ok (.bool (bif op==.neq then !b else b)) w:=by
 rcases hop with rfl|rfl
 .simp_all;rfl
 .simp_all
theorem Ko{t ty:TypeId}{b:BinOp}{x y:Operand}{r:Value}(ho:o.op=.binOp b t x y ty)(h:((do eqGuard b t x y (ρ x) (ρ y);binOp b t (ρ x) (ρ y)):Sem Value).run P w=.ok r w'):(execOp ρ o).run P w=.ok (.value r) w':=by simp only[execOp,ho,Sem.run_bind]at h|-;simp_all
def gOk:Value->Value->Prop
 |.nilIface,.nilIface|.agg _,.agg _=>False
 |_,_=>True
theorem Ka{op:BinOp}{t:TypeId}(a c:Operand){x y:Value}(h:gOk x y):(eqGuard op t a c x y).run P w=.ok () w:=by unfold eqGuard;unfold gOk at h;cases op<;>simp<;>(cases x<;>cases y<;>simp_all)
theorem Kq(t:TypeId)(x y:Value):Op.equal t x y=Op.equalIn (9999+1) t x y:=rfl
theorem adg{z c:Bool}{op:BinOp}{k k':IntKind}{a b:Int}{v:V}(hb:aar z c op k k' a b=some v)(hz:z=true->0<b):∃y,AY op (.int k a) (.int k' b)=some y/\tg v=some y:=by
 have key:(∃y,zP op (.int k a) (.int k' b)=some y/\tg v=some y)->∃y,AY op (.int k a) (.int k' b)=some y/\tg v=some y:=fun⟨y,h1,h2⟩=>⟨y,by simp[AY,h1],h2⟩;refine key ?_;cases op<;>simp only[aar,anS]at hb
 all_goals first
  |(cases z<;>simp only[cond_true,cond_false]at hb<;>first|(cases hb;done)|skip
    have:=hz rfl;obtain rfl:=af hb;exact⟨_,by simp only[zP];rw[if_neg (by omega)];rfl,rfl⟩)
  |skip
 all_goals
  by_cases hk:k=k'
  .subst hk;simp only[decide_true,cond_true]at hb
   first
    |(cases hb;done)
    |(obtain rfl:=af hb
      first
       |exact⟨.int k (pT k a b),by simp only[zP,if_true,p_];rfl,rfl⟩
       |exact⟨.int k (CL k a b),by simp only[zP,if_true,Fg];rfl,rfl⟩
       |exact⟨.int k (agD k a b),by simp only[zP,if_true,adl];rfl,rfl⟩
       |exact⟨.int k (fQ k a b),by simp only[zP,if_true,oV];rfl,rfl⟩)
    |(obtain rfl:=af hb
      exact⟨_,by simp[zP,wr],rfl⟩)
    |(cases z<;>simp only[cond_true,cond_false]at hb<;>first|(cases hb;done)|skip
      have:=hz rfl;obtain rfl:=af hb;exact⟨_,by simp[zP,wr];omega,rfl⟩)
  .simp [hk]at hb
theorem Qr{op:BinOp}{k k':FloatKind}{a b:Nat}{v:V}(hb:Uk op k k' a b=some v):∃y,AY op (.float k a) (.float k' b)=some y/\tg v=some y:=by
 unfold Uk at hb;by_cases hk:k=k'
 .subst hk;simp only at hb;have ar:∀(f:Option Nat),(match f.map (Value.float k)with|some v=>some v|none=>if f=none then some (Value.float k (EO k))else none)=some (.float k (f.getD (EO k))):=by intro f;cases f<;>rfl
  cases op<;>first|(cases hb;done)|skip
  all_goals obtain rfl:=af hb
  all_goals first
   |exact⟨_,by simp only[AY,zP,VA];exact ar _,rfl⟩
   |exact⟨_,by simp[AY,zP];rfl,rfl⟩
 .simp [hk]at hb
theorem Uj{op:BinOp}{a b:ByteArray}{v:V}(hb:agC op a b=some v):∃y,AY op (.string a) (.string b)=some y/\tg v=some y:=by
 cases op<;>first|(cases hb;done)|skip
 all_goals obtain rfl:=af hb
 all_goals exact⟨_,rfl,rfl⟩
theorem YD{t ty:TypeId}{b:BinOp}{x y:Operand}{v1 v2:V}{a c r:Value}(ho:o.op=.binOp b t x y ty)(hI:Inv S K w0 φ H w)(h1:RW S w φ v1 (ρ x))(h2:RW S w φ v2 (ρ y))(e1:tg v1=some a)(e2:tg v2=some c)
  (hr:AY b a c=some r) (e:tg v=some r):iA P o ρ S K w0 w φ H n v:=by
 obtain⟨r',m,k1,k2,k3,k4⟩:=XV (P:=P) (t:=t) (St (A_ e1 h1) (A_ e2 h2) hr);exact⟨.value r',r',{w with drawn:=m},by simp[execOp,ho,k1,k4],.inl rfl,jE.D3 hI k2 (Ft e k3).rw⟩
theorem adS{t:TypeId}{b:UnOp}{x:Operand}{v1:V}{a r:Value}(ho:o.op=.unOp b t x)(hI:Inv S K w0 φ H w)(h1:RW S w φ v1 (ρ x))(e1:tg v1=some a)(hr:unV b a=some r)(e:tg v=some r):iA P o ρ S K w0 w φ H n v:=by obtain⟨r',h3,h4⟩:=UC (A_ e1 h1) hr;obtain⟨h5,_⟩:=SR (P:=P) (w:=w) h3;exact ip.pure hI (by simp[execOp,ho,h5]) (Ft e h4).rw
theorem yi{u:Ty}{y:El u}{v:V}{x:Value}(h:zN u v=some y)(hx:RW S w φ v x):∃c,RT S w u y c/\x=rD (kR u) c/\(kR u=false->c.length=1):=by
 have h1:R1 S w φ v x:=by cases v with|tp l=>cases u<;>simp[xi,vf]at h|no=>cases u<;>simp[xi,vf]at h|gn=>cases u<;>simp[xi,vf]at h|_=>exact hx
 obtain⟨c,h2,h3⟩:=h1;have h4:=NA h h2;refine⟨c,Dr h h2,?_,fun e=>?_⟩
 .rw [<-h4];cases hg:DW v<;>rw[hg]at h3
  .obtain rfl:c=[x]:=h3;rfl
  .exact h3
 simp_all
theorem Qh{y:Bool}{v:V}{x:Value}(h:zN .b v=some y)(hx:RW S w φ v x):x=.bool y:=by obtain⟨c,h1,h2,_⟩:=yi h hx;obtain rfl:c=[.bool y]:=h1;exact h2
theorem Vp{t ty:TypeId}{b:BinOp}{x y:Operand}{p q:Bool}(ho:o.op=.binOp b t x y ty)(hop:b=.eql\/b=.neq)(hu:P.underlying t=some .bool)(hI:Inv S K w0 φ H w)(h1:ρ x=.bool p)(h2:ρ y=.bool q):
  iA P o ρ S K w0 w φ H n (.x .b (bif b==.neq then !(p==q)else p==q)):=by
 have he:(Op.equal t (.bool p) (.bool q)).run P w=.ok (p==q) w:=by rw[Kq];unfold Op.equalIn;rw[Sem.run_bind,cU hu];rfl
 have:=IS hop x y (P:=P) rfl rfl (Ka x y (x:=.bool p) trivial) he;exact ip.bool hI (Ko ho (by rw[h1,h2];exact this)) rfl
def Tv(P:Program)(t:TypeId):Nat->Prop
 |0=>∃x,P.underlying t=some (.slice x)
 |1=>∃x,P.underlying t=some (.pointer x)
 |2=>∃a b c,P.underlying t=some (.func a b c)
 |_=>False
def acs:Nat->Value->Option Bool
 |0,.slice q _ _=>some q.isNone
 |1,.pointer q=>some q.isNone
 |2,.nilFunc=>some true
 |2,.func _ _ _=>some false
 |_,_=>none
theorem UZ{op:BinOp}(hop:op=.eql\/op=.neq){kind:Nat}{t:TypeId}{val:Value}{b:Bool}(a c:Operand)(hu:Tv P t kind)(hn:acs kind val=some b):
  ((do eqGuard op t a c val (sj kind);binOp op t val (sj kind)):Sem Value).run P w=.ok (.bool (bif op==.neq then !b else b)) w/\
  ((do eqGuard op t a c (sj kind) val;binOp op t (sj kind) val):Sem Value).run P w=.ok (.bool (bif op==.neq then !b else b)) w:=by
 have key:(∀w,(Op.equalIn (9999+1) t val (sj kind)).run P w=.ok b w)->(∀w,(Op.equalIn (9999+1) t _ val).run P w=.ok b w)->
   gOk val _->gOk (sj kind) val->
   binOp .eql t val _=(do pure (.bool (<-Op.equal t val _)))->binOp .neq t val _=(do pure (.bool (!(<-Op.equal t val _))))->
   binOp .eql t _ val=(do pure (.bool (<-Op.equal t _ val)))->binOp .neq t _ val=(do pure (.bool (!(<-Op.equal t _ val))))->
   ((do eqGuard op t a c val _;binOp op t val _):Sem Value).run P w=.ok _ w/\
   ((do eqGuard op t a c _ val;binOp op t _ val):Sem Value).run P w=.ok _ w:=
  fun h1 h2 g1 g2 a1 a2 a3 a4=>⟨IS hop a c a1 a2 (Ka a c g1) (h1 w),IS hop a c a3 a4 (Ka a c g2) (h2 w)⟩
 unfold acs at hn;split at hn<;>first|(cases hn;done)|skip
 all_goals obtain rfl:=af hn
 .obtain ⟨x,hu⟩:=hu;rename_i q _ _;exact key (fun w=>by unfold Op.equalIn;rw[Sem.run_bind,cU hu];cases q<;>rfl) (fun w=>by unfold Op.equalIn;rw[Sem.run_bind,cU hu];cases q<;>rfl) trivial trivial rfl rfl rfl rfl
 .obtain ⟨x,hu⟩:=hu;rename_i q;exact key (fun w=>by unfold Op.equalIn;rw[Sem.run_bind,cU hu];cases q<;>rfl) (fun w=>by unfold Op.equalIn;rw[Sem.run_bind,cU hu];cases q<;>rfl) trivial trivial (by cases q<;>rfl) (by cases q<;>rfl) (by cases q<;>rfl) (by cases q<;>rfl)
 .obtain ⟨x,y,z,hu⟩:=hu;exact key (fun w=>by unfold Op.equalIn;rw[Sem.run_bind,cU hu];rfl) (fun w=>by unfold Op.equalIn;rw[Sem.run_bind,cU hu];rfl) trivial trivial rfl rfl rfl rfl
 .obtain ⟨x,y,z,hu⟩:=hu;exact key (fun w=>by unfold Op.equalIn;rw[Sem.run_bind,cU hu];rfl) (fun w=>by unfold Op.equalIn;rw[Sem.run_bind,cU hu];rfl) trivial trivial rfl rfl rfl rfl
theorem H9{kind:Nat}{x:Operand}(h:Di kind x=true):x=.const (sj kind):=by unfold Di at h;split at h<;>first|rfl|simp at h
def Hd{α:Type}(s:Sl α)(x:Value):Prop:=∃q c,x=.slice q s.l.length c/\q.isNone=s.rp
theorem Hd.am2{t:Ty}{s:Sl (El t)}{x:Value}(h:RT S w (.sl t) s [x]):Hd s x:=by cases s with|nil=>obtain rfl:=(aE (h)).1;exact⟨none,0,rfl,rfl⟩|mk r=>obtain⟨a,c,e,_⟩:=h;exact⟨_,c,(aE e).1,rfl⟩
theorem Hd.C9{l:rJ}{lo:Nat}{α:Type}{s:Sl α}{x:Value}(h:E6 l lo (nB s) [x]):Hd s x:=by cases s with|nil=>obtain rfl:=(aE (h)).1;exact⟨none,0,rfl,rfl⟩|mk r=>obtain⟨a,c,e,_⟩:=h;exact⟨_,c,(aE e).1,rfl⟩
theorem SP{v:V}{x:Value}{t:Ty}{s:Sl (El t)}(hsh:A6 φ h2)(hx:RW S w φ v x)(hs:Oo h2 v=some ⟨t,s,l⟩):Hd s x:=by
 unfold Oo at hs;split at hs
 .obtain ⟨e1,e2⟩:=ir (af hs);subst e1;obtain⟨rfl,rfl⟩:=aq (eq_of_heq e2);exact .am2 (R1.iB hx)
 .rename_i id;obtain⟨l1,k1,k2⟩:=R1.iB hx;split at hs<;>first|(cases hs;done)|skip
  all_goals
   rename_i ho;obtain⟨e1,e2⟩:=ir (af hs);subst e1;obtain⟨rfl,rfl⟩:=aq (eq_of_heq e2);have:=(hsh id l1 _ k1 ho).2;rw[this]at k2;exact .C9 k2
 .obtain ⟨e1,e2⟩:=ir (af hs);subst e1;obtain⟨rfl,rfl⟩:=aq (eq_of_heq e2);obtain⟨l1,k1,k2,_,k3⟩:=R1.iB hx;exact .C9 k3
 .cases hs
theorem acd{kind:Nat}{v r:V}{x:Value}(hsh:A6 φ h2)(hx:RW S w φ v x)(h:RH h2 kind v=some r):∃b,acs kind x=some b/\tg r=some (.bool b):=by
 have ptr:∀a,RC S w φ v [x]->x=.pointer (some a)->(bif kind==1 then some (V.kb false)else none)=some r->∃b,acs kind x=some b/\tg r=some (.bool b):=by
  rintro a _ rfl h;cases e:kind==1<;>rw[e]at h
  .cases h
  .obtain rfl:=af h;obtain rfl:kind=1:=by simpa using e
   exact⟨false,rfl,rfl⟩
 unfold RH at h;split at h
 .rename_i k;cases e:(k==kind&&Nat.blt k 3)<;>rw[e]at h
  .cases h
  .obtain rfl:=af h;simp at e;obtain⟨rfl,e⟩:=e;obtain rfl:=(aE (R1.iB hx)).1
   match k,e with|0,_=>exact⟨true,rfl,rfl⟩|1,_=>exact⟨true,rfl,rfl⟩|2,_=>exact⟨true,rfl,rfl⟩
 .obtain ⟨b,o,d,e,_⟩:=R1.iB hx;exact ptr _ (R1.iB hx) (aE e).1 h
 .obtain ⟨l,_,_,_,e⟩:=R1.iB hx;exact ptr _ (R1.iB hx) (aE e).1 h
 .obtain ⟨l,m,_,_,_,_,_,e⟩:=R1.iB hx;exact ptr _ (R1.iB hx) (aE e).1 h
 .obtain ⟨d,e,_⟩:=R1.iB hx;obtain rfl:=(aE e).1;cases e:kind==2<;>rw[e]at h
  .cases h
  .obtain rfl:=af h;obtain rfl:kind=2:=by simpa using e
   exact⟨false,rfl,rfl⟩
 .cases e:kind==0<;>rw[e]at h
  .cases h
  .obtain rfl:kind=0:=by simpa using e
   split at h
   .rename_i t s l hs;obtain rfl:=af h;obtain⟨q,c,rfl,h3⟩:=SP hsh hx hs;exact⟨s.rp,by rw[<-h3];rfl,rfl⟩
   .cases h
theorem YB{t ty:TypeId}{b:BinOp}{x y z:Operand}{kind:Nat}{v r:V}(ho:o.op=.binOp b t x y ty)(hop:b=.eql\/b=.neq)(hu:Tv P t kind)(hI:Inv S K w0 φ H w)
  (hc:∀v,ρ (.const v)=v) (hz:(z=x/\Di kind y=true)\/(z=y/\Di kind x=true)) (hsh:A6 φ h2) (hx:RW S w φ v (ρ z)) (h:RH h2 kind v=some r):
  iA P o ρ S K w0 w φ H n (bif b==.neq then YZ r else r):=by
 obtain⟨c,h1,h3⟩:=acd hsh hx h;obtain⟨q1,q2⟩:=UZ (w:=w) hop x y hu h1;refine ip.bool (b:=bif b==.neq then !c else c) hI (Ko ho ?_) ?_
 .rcases hz with⟨rfl,hn⟩|⟨rfl,hn⟩
  .grind [H9]
  grind [H9]
 .cases b==.neq
  .exact h3
  .unfold tg at h3;split at h3<;>first|(cases h3;done)|skip
   all_goals(obtain rfl:=Value.bool.inj (af h3);rfl)
end
section
variable{P:Program}{S K:Nat->Prop}{w0 w w':World}{φ φ':iq}{H:Hf}{o:Oper}{ρ:Operand->Value}{n:Nat}{h2:H2}{v:V}{l:List Nat}{vs:List V}{d:Option Nat}{as:List Operand}{g:Option (Nat×Bool)}{t0:Ty}{fi:List Nat}
theorem Mz{x:Operand}(ho:o.op=.nilCheck x)(hI:Inv S K w0 φ H w)(hr:Ar S w φ ρ [x] vs)(h:CK ⟨⟨d,.nilCheck,as,g⟩,t0,fi⟩ vs h2=some (v,l)):iA P o ρ S K w0 w φ H n v:=by
 obtain⟨v0,rfl,hx⟩:=hr.one;have key:(∃a,[ρ x]=[.pointer (some a)])\/(∃g vs,[ρ x]=[.func (.func g) #[] vs])->iA P o ρ S K w0 w φ H n v0:=by intro hc;refine ip.pure hI ?_ hx;rcases hc with⟨a,hc⟩|⟨g,vs,hc⟩<;>simp[execOp,ho,(aE hc).1]
 cases v0<;>first|(cases h;done)|skip
 all_goals obtain⟨rfl,rfl⟩:=aq (af h)
 .obtain ⟨l,_,_,_,e⟩:=R1.iB hx;exact key (.inl ⟨_,e⟩)
 .obtain ⟨l,m,_,_,_,_,_,e⟩:=R1.iB hx;exact key (.inl ⟨_,e⟩)
 .obtain ⟨b,f,c,e,_⟩:=R1.iB hx;exact key (.inl ⟨_,e⟩)
 .obtain ⟨c,e,_⟩:=R1.iB hx;exact key (.inr ⟨_,_,e⟩)
theorem Xe{f:FuncId}{first cap:Array Operand}(ho:o.op=.makeFunc (.func f) first cap)(hf:first.isEmpty=true)(hI:Inv S K w0 φ H w)(hr:Ar S w φ ρ cap.toList vs)
  (h:CK ⟨⟨d,.aci f,as,g⟩,t0,fi⟩ vs h2=some (v,l)):iA P o ρ S K w0 w φ H n v:=by
 change (bif vs.all Wv then _ else none)=_ at h;cases e:vs.all Wv<;>rw[e]at h
 .cases h
 obtain⟨rfl,rfl⟩:=aq (af h);have hf':=by simpa using hf
 have go:∀{as:List Operand}{vs:List V},Ar S w φ ρ as vs->vs.all Wv=true->RC S w φ (dK vs) (as.map ρ):=by
  intro as;induction as with
  |nil=>intro vs h _;cases vs with|nil=>rfl|cons v vs=>exact h.elim
  |cons a r ih=>
   intro vs h hc;cases vs with
   |nil=>exact h.elim
   |cons v vs=>simp only[List.all_cons,ax]at hc;refine⟨[ρ a],r.map ρ,rfl,?_,ih h.2 hc.2⟩;have h1:=h.1;have h3:=hc.1;cases v<;>first|(simp[Wv]at h3;done)|exact R1.iB h1 (by simpa[Wv]using h3)
 refine ip.pure (val:=.func (.func f) #[] (cap.map ρ)) hI (by simp[execOp,ho,Instr.makeFunc,hf']) (R1.rw ⟨[_],⟨_,?_,go hr e⟩,rfl⟩);rw[<-Array.toList_map]
theorem acJ{off m i:Nat}{v r:V}{pv:Value}(hx:RW S w φ v pv)(h:R_ off m i v=some r):∃b a,pv=.pointer (some ⟨b,a,none⟩)/\RW S w φ r (.pointer (some ⟨b,a+off,none⟩)):=by
 have pth:∀{p:xK}{t u u2:Ty},Vv t p->Fw t p=some (.st u)->Lm u i=some u2->Vv t (p++[.fd i])/\CG t (p++[.fd i])=CG t p+KZ u i:=by
  intro p;induction p with
  |nil=>
   intro t u u2 _ h1 h2;obtain rfl:t=.st u:=by cases t<;>first|(cases h1;done)|(cases h1;rfl)
   exact⟨⟨u2,h2,by cases u2<;>trivial⟩,by simp only[List.nil_append,CG,h2];cases u2<;>simp[CG]⟩
  |cons q p ih=>
   intro t u u2 hp h1 h2;cases q with
   |fd j=>
    cases t<;>first|exact hp.elim|skip
    obtain⟨u3,h3,hp⟩:=hp;simp only[Fw,h3]at h1;obtain⟨q1,q2⟩:=ih hp h1 h2;exact⟨⟨u3,h3,q1⟩,by simp only[eX,CG,h3,q2,gF]⟩
   |ix k=>
    cases t<;>first|exact hp.elim|skip
    simp only[Fw]at h1;obtain⟨q1,q2⟩:=ih hp.2 h1 h2;exact⟨⟨hp.1,q1⟩,by simp only[eX,CG,q2,gF]⟩
 unfold R_ at h;split at h
 .rename_i id t p;obtain⟨l,k1,k2,k3,k4⟩:=R1.iB hx;split at h<;>first|(cases h;done)|skip
  rename_i u hu;split at h<;>first|(cases h;done)|skip
  rename_i u2 hu2;cases e:(KZ u i==off&&ei u2==m)<;>rw[e]at h
  .cases h
  obtain rfl:=af h;simp only[ax,beq_iff_eq]at e;obtain⟨q1,q2⟩:=pth k3 hu hu2;exact⟨_,_,(aE k4).1,R1.rw (R1.CH ⟨l,k1,k2,q1,by rw[q2,e.1]⟩ rfl)⟩
 .rename_i id mm t p;obtain⟨l,m1,k1,k2,k3,k4,k5,k6⟩:=R1.iB hx;split at h<;>first|(cases h;done)|skip
  rename_i u hu;split at h<;>first|(cases h;done)|skip
  rename_i u2 hu2;cases e:(KZ u i==off&&ei u2==m)<;>rw[e]at h
  .cases h
  obtain rfl:=af h;simp only[ax,beq_iff_eq]at e;obtain⟨q1,q2⟩:=pth k5 hu hu2;exact⟨_,_,(aE k6).1,R1.rw (R1.CH ⟨l,m1,k1,k2,k3,k4,q1,by rw[q2,e.1];simp only[gF]⟩ rfl)⟩
 .rename_i u v;obtain⟨b,f,c,k1,k2,k3,k4⟩:=R1.iB hx;split at h<;>first|(cases h;done)|skip
  rename_i u2 y hy;cases e:(KZ u i==off&&ei u2==m)<;>rw[e]at h
  .cases h
  obtain rfl:=af h;simp only[ax,beq_iff_eq]at e
  have hfd:Lm u i=some u2:=by
   have:∀{u:Ty}{v:El u}{i:Nat}{u2:Ty}{y:El u2},Ha u v i=some (.x u2 y)->Lm u i=some u2:=by
    intro u;induction u with
    |pr a a2 _ ihb=>intro v i u2 y h;cases i with|zero=>cases h;rfl|succ i=>exact ihb h
    |_=>intro v i u2 y h;cases i with|zero=>cases h;rfl|succ i=>simp[Ha]at h
   exact this hy
  obtain⟨a,mm,b2,y',rfl,q1,q2,q3,_⟩:=Kc (φ:=φ) (show RT S w u v c from k3) hfd;rw[hy]at q2;cases q2;have:=xM k4;rw[q1,e.1]at this;exact⟨_,_,(aE k1).1,R1.rw (R1.CH ⟨b,f+off,mm,rfl,k2,q3,this⟩ rfl)⟩
 .cases h
theorem M7{s:TypeId}{f m i:Nat}{fields:Array Field}{fl:Field}{x:Operand}{v r:V}(ho:o.op=.fieldAddr s x f)(hu:P.underlying s=some (.struct fields))(hf:fields[f]?=some fl)
  (hs:fh P fl.type=some (m+1)) (hI:Inv S K w0 φ H w) (hx:RW S w φ v (ρ x)) (h:R_ fl.offset (m+1) i v=some r):iA P o ρ S K w0 w φ H n r:=by
 obtain⟨b,a,e,h1⟩:=acJ hx h;simp_all[ip.pure,execOp,Instr.fieldAt,cU,Instr.sureAddr,fieldPlace,m8,Cp]
theorem OB{t:TypeId}{agg:Bool}{a m b:List Value}(ha:gx P t=some agg)(hn:fh P t=some m.length)(h1:agg=false->m.length=1):
  (Go.part t (a++m++b).toArray a.length).run P w=.ok (rD agg m) w:=by
 cases agg
 .match m,h1 rfl with|[x],_=>simp[Go.part,DH ha,rD]
 .simp [Go.part,DH ha,m8 hn,rD]
theorem Pg{s:TypeId}{f:Nat}{agg:Bool}{m:Nat}{fields:Array Field}{fl:Field}{x:Operand}{r:V}(ho:o.op=.field s x f)(hu:P.underlying s=some (.struct fields))(hf:fields[f]?=some fl)
  (ha:gx P fl.type=some agg) (hs:fh P fl.type=some m) (hI:Inv S K w0 φ H w) {a mm b:List Value} (hx:ρ x=.agg (a++mm++b).toArray) (hal:a.length=fl.offset) (hr:RC S w φ r mm) (hc:QN h2 agg m r=true):
  iA P o ρ S K w0 w φ H n r:=by
 obtain⟨c1,c2,c3⟩:=NC hc;have hl:=hr.len.trans c2;subst hl;refine ip.pure hI ?_ (R1.of hr c1 c3).rw;have:=OB (w:=w) (a:=a) (b:=b) ha hs c3;simp_all[execOp,Instr.field,cU,asAgg]
theorem UF{s:TypeId}{f:Nat}{agg:Bool}{m:Nat}{fields:Array Field}{fl:Field}{x:Operand}(ho:o.op=.field s x f)(hu:P.underlying s=some (.struct fields))(hf:fields[f]?=some fl)
  (ha:gx P fl.type=some agg) (hs:fh P fl.type=some m) (hI:Inv S K w0 φ H w) (hr:Ar S w φ ρ [x] vs) (h:CK ⟨⟨d,.field agg fl.offset m,as,g⟩,t0,fi⟩ vs h2=some (v,l)):iA P o ρ S K w0 w φ H n v:=by
 obtain⟨v0,rfl,hx⟩:=hr.one;cases v0<;>first|(cases h;done)|skip
 .rename_i u v0;cases u<;>first|(cases h;done)|skip
  rename_i u
  match fi,h with
  |[i],h=>
   change (match Ha u v0 i with|some w=>bif(KZ u i==fl.offset)&&QN h2 agg m w then some (w,[])else none|none=>none)=_ at h;split at h<;>first|(cases h;done)|skip
   rename_i r hg;cases e:(KZ u i==fl.offset&&QN h2 agg m r)<;>rw[e]at h
   .cases h
   obtain⟨rfl,rfl⟩:=aq (af h);simp only[ax,beq_iff_eq]at e;obtain⟨c,h1,h3⟩:=R1.agg hx
   have hfd:=by
    have:∀{u:Ty}{v:El u}{i:Nat}{r:V},Ha u v i=some r->∃u2,Lm u i=some u2:=by
     intro u;induction u with
     |pr a a2 _ ihb=>intro v i r h;cases i with|zero=>exact⟨_,rfl⟩|succ i=>exact ihb h
     |_=>intro v i r h;cases i with|zero=>exact⟨_,rfl⟩|succ i=>simp[Ha]at h
    exact this hg
   obtain⟨u2,hfd⟩:=hfd;obtain⟨a,mm,b,y,rfl,q1,q2,q3,_⟩:=Kc (φ:=φ) (show RT S w u v0 c from h1) hfd;rw[hg]at q2;obtain rfl:=af q2;exact Pg (h2:=h2) ho hu hf ha hs hI h3 (q1.trans e.1) (q3) e.2
 .rename_i l0
  match fi,h with
  |[i],h=>
   change (match C_ l0 i with|some w=>bif(foV l0 i==fl.offset)&&QN h2 agg m w then some (w,[])else none|none=>none)=_ at h;split at h<;>first|(cases h;done)|skip
   rename_i r hg;cases e:(foV l0 i==fl.offset&&QN h2 agg m r)<;>rw[e]at h
   .cases h
   obtain⟨rfl,rfl⟩:=aq (af h);simp only[ax,beq_iff_eq]at e;obtain⟨c,h1,h3⟩:=R1.agg hx
   have go:∀{l0:V}{i:Nat}{r:V}{c:List Value},C_ l0 i=some r->RC S w φ l0 c->∃a mm b,c=a++mm++b/\a.length=foV l0 i/\RC S w φ r mm:=by
    intro l0;induction l0 with
    |co x y _ ihy=>rintro i r c h ⟨d,e,rfl,h1,h2⟩;cases i with|zero=>obtain rfl:=af h;exact⟨[],d,e,rfl,rfl,h1⟩|succ i=>obtain⟨a,mm,b,rfl,k1,k2⟩:=ihy h h2;exact⟨d++a,mm,b,by simp,by simp[foV,k1,h1.len],k2⟩
    |_=>intro i r c h;simp[C_]at h
   obtain⟨a,mm,b,rfl,q1,q2⟩:=go hg h1
   grind [Pg]
theorem N8{x:Operand}{i:Nat}(ho:o.op=.extract x i)(hI:Inv S K w0 φ H w)(hr:Ar S w φ ρ [x] vs)(h:CK ⟨⟨d,.extract i,as,g⟩,t0,fi⟩ vs h2=some (v,l)):iA P o ρ S K w0 w φ H n v:=by
 obtain⟨v0,rfl,hx⟩:=hr.one;cases v0<;>first|(cases h)|skip
 rename_i l0;change (match C_ l0 i with|some w=>some (w,[])|none=>none)=_ at h;split at h<;>first|(cases h;done)|skip
 rename_i r hg;obtain⟨rfl,rfl⟩:=aq (af h);obtain⟨xs,h1,h3⟩:=hx
 have go:∀{l0:V}{i:Nat}{r:V}{xs:List Value},C_ l0 i=some r->RW.RWs S w φ l0 xs->∃y,xs[i]?=some y/\R1 S w φ r y:=by
  intro l0;induction l0 with
  |co x y _ ihy=>rintro i r c h ⟨y,ys,rfl,h1,h2⟩;cases i with|zero=>obtain rfl:=af h;exact⟨y,rfl,h1⟩|succ i=>exact ihy (i:=i) h h2
  |_=>intro i r c h;simp[C_]at h
 obtain⟨y,q1,q2⟩:=go hg h3;refine ip.pure hI ?_ q2.rw;obtain⟨hlt,rfl⟩:=bG.1 q1;simp[execOp,ho,h1,Instr.extract,hlt]
theorem M6{str:Bool}{t:TypeId}{x:Operand}{c:te}{m:Int}(ho:o.op=.call c)(hcal:c.callee=.builtin .len)(hargs:c.args= #[x])(hts:c.argTypes= #[t])
  (hu:if str then P.underlying t=some .string else∃b,P.underlying t=some (.slice b)) (hI:Inv S K w0 φ H w)
  (hx:if str then∃s,ρ x=.string s/\m=s.size else∃q l k,ρ x=.slice q l k/\m=(l:Int)):iA P o ρ S K w0 w φ H n (.x (.i .i64) m):=by
 refine ip.pure (val:=.int .i64 m) hI ?_ (R1.rw (R1.CH rfl rfl));cases str with|true=>obtain⟨s,e,rfl⟩:=hx;simp[execOp,ho,hcal,hargs,hts,resolve,invoke,builtin,e,Builtin.len_,cU hu,goInt]|false=>obtain⟨q,l,k,e,rfl⟩:=hx;obtain⟨b,hu⟩:=hu;simp[execOp,ho,hcal,hargs,hts,resolve,invoke,builtin,e,Builtin.len_,cU hu,goInt]
theorem abb{str:Bool}{t:TypeId}{x:Operand}{c:te}(ho:o.op=.call c)(hcal:c.callee=.builtin .len)(hargs:c.args= #[x])(hts:c.argTypes= #[t])
  (hu:if str then P.underlying t=some .string else∃b,P.underlying t=some (.slice b)) (hI:Inv S K w0 φ H w) (hsh:A6 φ h2) (hr:Ar S w φ ρ [x] vs) (h:CK ⟨⟨d,.len str,as,g⟩,t0,fi⟩ vs h2=some (v,l)):
  iA P o ρ S K w0 w φ H n v:=by
 obtain⟨v0,rfl,hx⟩:=hr.one;cases str with
 |true=>
  have:∃s,v0=.x .s s:=by
   cases v0<;>first|(cases h;done)|skip
   rename_i u _;cases u<;>first|(cases h;done)|exact⟨_,rfl⟩
  obtain⟨s,rfl⟩:=this;obtain⟨rfl,rfl⟩:=aq (af h);exact M6 ho hcal hargs hts hu hI ⟨s,xV (v:=.x .s s) rfl hx,rfl⟩
 |false=>
  have hd:∀{α:Type}{s:Sl α},Hd s (ρ x)->iA P o ρ S K w0 w φ H n _:=fun⟨q,k,e,_⟩=>M6 (str:=false) ho hcal hargs hts hu hI ⟨q,_,k,e,rfl⟩
  have sl:(match Oo h2 v0 with|some ⟨_,s,_⟩=>some (V.x (.i .i64) (s.l.length:Int),([]:List Nat))|none=>none)=some (v,l)->iA P o ρ S K w0 w φ H n v:=by
   intro h;split at h
   .rename_i t s l' hs;obtain⟨rfl,rfl⟩:=aq (af h);exact hd (SP hsh hx hs)
   .cases h
  cases v0<;>first|exact sl h|skip
  .rename_i k;cases k with|zero=>obtain⟨rfl,rfl⟩:=aq (af h);exact M6 ho hcal hargs hts hu hI ⟨none,0,0,(aE (R1.iB hx)).1,rfl⟩|succ k=>cases h
  .rename_i id;obtain⟨l1,k1,k2⟩:=R1.iB hx;change (match fO h2 id with|some (.rw _ s _)=>some (V.x (.i .i64) (s.l.length:Int),([]:List Nat))|_=>none)=_ at h;split at h<;>first|(cases h;done)|skip
   rename_i ho2;obtain⟨rfl,rfl⟩:=aq (af h);have:=(hsh id l1 _ k1 ho2).2;rw[this]at k2;exact hd (.C9 k2)
  .rename_i id t1;obtain⟨rfl,rfl⟩:=aq (af h);obtain⟨l1,k1,_,k2⟩:=R1.iB hx;exact M6 ho hcal hargs hts hu hI ⟨_,_,_,(aE k2).1,rfl⟩
def mmF(m:Bool):Value->Value->Sem Value:=if m then Builtin.max2 else Builtin.min2
theorem abt{m:Bool}{k:IntKind}{x y:Int}:(mmF m (.int k x) (.int k y)).run P w=.ok (.int k (bif m then(if y>x then y else x)else(if y<x then y else x))) w:=by cases m<;>simp[mmF,Builtin.max2,Builtin.min2]
theorem XT{m:Bool}{k:FloatKind}{x y:Nat}{vx vy:Value}(hx:D1 (.float k x) vx)(hy:D1 (.float k y) vy):
  ∃z n,(mmF m vx vy).run P w=.ok z {w with drawn:=n}/\w.drawn<=n/\D1 (.float k (bif m then Ln k x y else Hc k x y)) z:=by
 have key:∀{a b:Nat},∃z n,(mmF m (.float k a) (.float k b)).run P w=.ok z {w with drawn:=n}/\w.drawn<=n/\D1 (.float k (bif m then Ln k a b else Hc k a b)) z:=by
  intro a b;cases ho:k.format.order a b with
  |none=>
   refine⟨.float k ((Question.nanMinMax k m a b).cut (w.tape w.drawn (.nanMinMax k m a b))),w.drawn+1,?_,cA _,?_⟩
   .cases m<;>simp[mmF,Builtin.max2,Builtin.min2,ho,Question.forced]
   .have:∀t,(Question.nanMinMax k m a b).cut t=(Question.nanBits k a b).cut t:=by intro t;cases k<;>rfl
    rw[this,show(bif m then Ln k a b else Hc k a b)=EO k by cases m<;>simp[Ln,Hc,ho]];exact .nan (PN k) (TJ _ _ _ _)
  |some r=>refine⟨.float k _,w.drawn,?_,aw _,.lit rfl⟩;cases m<;>cases r<;>simp[mmF,Builtin.max2,Builtin.min2,Ln,Hc,ho]
 cases hx with
 |lit _=>cases hy with|lit _=>exact key|nan hn hm=>obtain⟨z,q,h1,h2,h3⟩:=key;refine⟨z,q,h1,h2,?_⟩;obtain⟨_,_,_,_,e1⟩:=Tw hn x;obtain⟨_,_,_,_,e2⟩:=Tw hm x;cases m<;>simpa[Ln,Hc,e1,e2]using h3
 |nan hn hm=>cases hy with|lit _=>obtain⟨z,q,h1,h2,h3⟩:=key;refine⟨z,q,h1,h2,?_⟩;obtain⟨_,_,_,_,e1⟩:=L5 hn y;obtain⟨_,_,_,_,e2⟩:=L5 hm y;cases m<;>simpa[Ln,Hc,e1,e2]using h3|nan hn2 hm2=>obtain⟨z,q,h1,h2,h3⟩:=key;refine⟨z,q,h1,h2,?_⟩;have e1:=(L5 hn y).2.2.2.2;have e2:=fun z=>(L5 hm z).2.2.2.2;cases m<;>simpa[Ln,Hc,e1,e2]using h3
end
section
variable{P:Program}{S K:Nat->Prop}{w0 w w':World}{φ φ':iq}{H:Hf}{o:Oper}{ρ:Operand->Value}{n:Nat}{h2:H2}{v:V}{l:List Nat}{vs:List V}{d:Option Nat}{as:List Operand}{g:Option (Nat×Bool)}{t0:Ty}{fi:List Nat}
theorem ZI{m:Bool}{k:IntKind}:∀{r:List Operand}{vs:List V}{x y:Int},Ar S w φ ρ r vs->mmI m k x vs=some y->((r.map ρ).foldlM (mmF m) (.int k x)).run P w'=.ok (.int k y) w':=by
 intro r;induction r with
 |nil=>intro vs x y hr h;cases vs with|nil=>obtain rfl:=af h;rfl|cons v vs=>exact hr.elim
 |cons a r ih=>
  intro vs x y hr h;cases vs with
  |nil=>exact hr.elim
  |cons v vs=>
   cases v<;>first|(cases h;done)|skip
   rename_i u z;cases u<;>first|(cases h;done)|skip
   rename_i k';change (bif decide (k'=k)then mmI m k _ vs else none)=_ at h;by_cases e:k'=k
   .subst e;simp only[decide_true,cond_true]at h;have h1:=R1.int hr.1;simp only[bN,List.foldlM_cons,Sem.run_bind,h1,abt,Result.andThen_ok];exact ih hr.2 h
   .simp [e]at h
theorem V9{m:Bool}{k:FloatKind}:∀{r:List Operand}{vs:List V}{x y:Nat}{vx:Value}{w':World},Ar S w φ ρ r vs->D1 (.float k x) vx->Y6 m k x vs=some y->∃z n,((r.map ρ).foldlM (mmF m) vx).run P w'=.ok z {w' with drawn:=n}/\w'.drawn<=n/\D1 (.float k y) z:=by
 intro r;induction r with
 |nil=>intro vs x y vx w' hr hx h;cases vs with|nil=>obtain rfl:=af h;exact⟨vx,w'.drawn,rfl,aw _,hx⟩|cons v vs=>exact hr.elim
 |cons a r ih=>
  intro vs x y vx w' hr hx h;cases vs with
  |nil=>exact hr.elim
  |cons v vs=>
   cases v<;>first|(cases h;done)|skip
   rename_i u z;cases u<;>first|(cases h;done)|skip
   rename_i k';change (bif decide (k'=k)then Y6 m k _ vs else none)=_ at h;by_cases e:k'=k
   .subst e;simp only[decide_true,cond_true]at h;obtain⟨z1,n1,q1,q0,q2⟩:=XT (P:=P) (w:=w') (m:=m) hx (A_ (v:=.x (.f k') z) rfl hr.1);obtain⟨z2,n2,q3,q5,q4⟩:=ih (w':={w' with drawn:=n1}) hr.2 q2 h;refine⟨z2,n2,?_,bg q0 q5,q4⟩;simp only[bN,List.foldlM_cons,Sem.run_bind,q1,Result.andThen_ok];exact q3
   .simp [e]at h
theorem Jg{m:Bool}{c:te}(ho:o.op=.call c)(hcal:c.callee=.builtin (if m then .max else .min))(hI:Inv S K w0 φ H w)(hr:Ar S w φ ρ c.args.toList vs)(h:CK ⟨⟨d,.G3 m,as,g⟩,t0,fi⟩ vs h2=some (v,l)):
  iA P o ρ S K w0 w φ H n v:=by
 have CI:∀{a:Operand}{r:List Operand}{z:Value}{q:Nat},c.args.toList=a::r->((r.map ρ).foldlM (mmF m) (ρ a)).run P w=.ok z {w with drawn:=q}->w.drawn<=q->RW S w φ v z->iA P o ρ S K w0 w φ H n v:=by
  intro a r z q e h1 h4 h3;have e1:List.map ρ c.args.toList=ρ a::r.map ρ:=by rw[e,bN]
  refine⟨.value z,z,{w with drawn:=q},?_,.inl rfl,jE.D3 hI h4 h3⟩;cases m
  .have h1':((r.map ρ).foldlM Builtin.min2 (ρ a)).run P w=.ok z {w with drawn:=q}:=h1;simp_all[execOp,resolve,invoke,builtin,Builtin.min_]
  .have h1':((r.map ρ).foldlM Builtin.max2 (ρ a)).run P w=.ok z {w with drawn:=q}:=h1;simp_all[execOp,resolve,invoke,builtin,Builtin.max_]
 generalize hargs:c.args.toList=args at hr
 match vs,h with
 |.x (.i k) x::r,h=>
  match args,hr with
  |a::r',hr=>
   change (match mmI m k x r with|some y=>some (V.x (.i k) y,([]:List Nat))|none=>none)=_ at h;split at h<;>first|(cases h;done)|skip
   rename_i y hy;obtain⟨rfl,rfl⟩:=aq (af h);refine CI (q:=w.drawn) hargs ?_ (aw _) (R1.CH (v:=.x (.i k) y) (x:=.int k y) rfl rfl).rw;rw[R1.int hr.1];exact ZI hr.2 hy
 |.x (.f k) x::r,h=>
  match args,hr with
  |a::r',hr=>
   change (match Y6 m k x r with|some y=>some (V.x (.f k) y,([]:List Nat))|none=>none)=_ at h;split at h<;>first|(cases h;done)|skip
   rename_i y hy;obtain⟨rfl,rfl⟩:=aq (af h);obtain⟨z,q,h1,h4,h3⟩:=V9 (P:=P) (w':=w) hr.2 (A_ (v:=.x (.f k) x) rfl hr.1) hy;exact CI hargs h1 h4 (Ft (v:=.x (.f k) y) rfl h3).rw
theorem EB{α:Type}{a m b m':List α}(h:m'.length=m.length):kV (a++m++b) a.length m'=a++m'++b:=by unfold kV;rw[h,<-au,List.drop_left,bm a m b,List.take_left]
theorem agh{v:V}{t:Ty}(h:fg v false t=true):DW v=kR t:=by
 cases v<;>cases t<;>first|rfl|(simp[fg]at h;done)|(simp only[fg,decide_eq_true_eq]at h;subst h;rfl)|skip
 all_goals(simp only[fg,decide_eq_true_eq]at h;cases h;rfl)
theorem RE{u:Ty}{v x:V}{y:Value}(h:QL u v=some x)(hx:RW S w φ v y):R1 S w φ v y:=by
 cases v<;>first|exact hx|skip
 all_goals(exfalso;unfold QL at h;cases hd:oq u<;>rw[hd]at h<;>cases u<;>simp[vf,fg]at h)
theorem acM{jq:Nat->Option (Nat×Nat)}{t:Ty}:∀{parts:List (Nat×Operand)}{is:List Nat}{ps:List (Nat×Nat)}{ws:List V}{c c':V}{cr:Array Value},Qq t is ps ws c=some c'->RC S w φ c cr.toList->fg c false t=true->
  Ar S w φ ρ (parts.map (·.2)) ws->(∀(k:Nat)(p:Nat×Operand)(q:Nat×Nat),parts[k]?=some p->ps[k]?=some q->jq p.1=some q)->
  ∃arr',Instr.fill jq cr (parts.map fun p=>(p.1,ρ p.2))=some arr'/\RC S w φ c' arr'.toList/\fg c' false t=true:=by
 intro parts;induction parts with
 |nil=>
  intro is ps ws c c' cr h hc hf hr _;cases ws with
  |cons v ws=>exact hr.elim
  |nil=>
   have:c=c':=by
    cases is with
    |nil=>cases ps with|nil=>exact af h|cons p ps=>cases h
    |cons i is=>cases ps<;>cases h
   subst this;exact⟨cr,rfl,hc,hf⟩
 |cons p parts ih=>
  intro is ps ws c c' cr h hc hf hr hpl;cases ws with
  |nil=>exact hr.elim
  |cons wv ws=>
  cases is with
  |nil=>cases ps<;>cases h
  |cons i is=>
  cases ps with
  |nil=>cases h
  |cons q ps=>
  obtain⟨off,m⟩:=q
  have iT:∀{e:Pe}{u:Ty}{wv' c2:V},Vv t [e]->Fw t [e]=some u->CG t [e]=off->ei u=m->QL u wv=some wv'->vD c [e] wv'=some c2->fg c2 false t=true->Qq t is ps ws c2=some c'->
    ∃arr',Instr.fill jq cr ((p::parts).map fun p=>(p.1,ρ p.2))=some arr'/\RC S w φ c' arr'.toList/\fg c' false t=true:=by
   intro e u wv' c2 k1 k2 k3 k4 k5 k6 k7 k8;have hw1:R1 S w φ wv (ρ p.2):=RE k5 hr.1;obtain⟨hw2,hw3⟩:=hw1.cells;obtain⟨hw4,hw5⟩:=RF k5 hw2;obtain⟨a,mm,b,e1,e2,e3,_,e5⟩:=Bq hf hc k1 k2;have hl:(ρ p.2).cells.toList.length=mm.length:=by rw[hw4.len,arZ _ _ _ hw5,e3]
   have hc2:=e5 wv' c2 _ k6 hw4;have harr:=NM (ρ p.2).cells cr off (by have:=congrArg eg e1;simp at this hl;omega);rw[e1,<-k3,<-e2,EB hl,e2,k3]at harr;rw[<-harr]at hc2;obtain⟨arr',q1,q2⟩:=ih k8 hc2 k7 hr.2 (fun k p q hp hq=>hpl (k+1) p q (by simpa using hp) (by simpa using hq));refine⟨arr',?_,q2⟩;have hp:=hpl 0 p (off,m) rfl rfl;have hlen:=congrArg eg e1;simp at hlen hl;simp only[bN,Instr.fill,hp];rw[if_neg (by simp;omega)];exact q1
  cases t<;>first|(cases h;done)|skip
  .rename_i u;change (match Lm u i with|some a=>_|none=>none)=_ at h;split at h<;>first|(cases h;done)|skip
   rename_i a ha;cases e:(KZ u i==off&&ei a==m)<;>rw[e]at h
   .cases h
   simp only[cond_true]at h;split at h<;>first|(cases h;done)|skip
   rename_i wv' hn;split at h<;>first|(cases h;done)|skip
   rename_i c2 hs;cases e2:fg c2 false (.st u)<;>rw[e2]at h
   .cases h
   simp only[ax,beq_iff_eq]at e;exact iT (e:=.fd i) ⟨a,ha,by cases a<;>trivial⟩ (by simp only[Fw,ha]) (by simp only[CG,ha];cases a<;>simp[CG,e.1]) e.2 hn hs e2 h
  .rename_i q u;change (bif(i*ei u==off)&&(ei u==m)&&decide (i<q)then _ else none)=_ at h;cases e:((i*ei u==off)&&(ei u==m)&&decide (i<q))<;>rw[e]at h
   .cases h
   simp only[cond_true]at h;split at h<;>first|(cases h;done)|skip
   rename_i wv' hn;split at h<;>first|(cases h;done)|skip
   rename_i c2 hs;cases e2:fg c2 false (.ar q u)<;>rw[e2]at h
   .cases h
   simp only[ax,beq_iff_eq,decide_eq_true_eq]at e;exact iT (e:=.ix i) ⟨e.2,by cases u<;>trivial⟩ (by cases u<;>rfl) (by simp only[CG];cases u<;>simp[CG,e.1.1]) e.1.2 hn hs e2 h
end
section
variable{P:Program}{w:World}
theorem Su(a b:ByteArray):(a==b)=decide (a=b):=by
 obtain⟨x⟩:=a;obtain⟨y⟩:=b;show ByteArray.beq _ _=_;unfold ByteArray.beq
 grind
theorem GJ:∀(d:Nat)(t:TypeId)(ks:List Kd),IN P d t=some ks->fh P t=some ks.length/\∃ag,gx P t=some ag/\(ag=false->ks.length=1):=by
 intro d t ks h;cases d with
 |zero=>simp[IN]at h
 |succ d=>
  unfold IN at h;split at h
  .rename_i hu;split at h
   .rename_i hs;obtain rfl:=af h;exact⟨hs,false,by simp[gx,hu],fun _=>rfl⟩
   .simp at h
  .rename_i hu;split at h
   .rename_i hs;obtain rfl:=af h;exact⟨hs,false,by simp[gx,hu],fun _=>rfl⟩
   .simp at h
  .rename_i hu;split at h
   .rename_i hs;obtain rfl:=af h;exact⟨hs,false,by simp[gx,hu],fun _=>rfl⟩
   .simp at h
  .split at h
   .split at h
    .obtain rfl:=af h;simp_all[gx]
    .simp at h
   .simp at h
  .split at h
   .split at h
    .obtain rfl:=af h;simp_all[gx]
    .simp at h
   .simp at h
  .simp at h
theorem Ss{t:TypeId}{n:Nat}(h:fh P t=some n):P.cellsOf t=n:=by simp only[fh]at h;simp[Program.cellsOf,h]
theorem acy{t:TypeId}{n:Nat}(h:fh P t=some n):∃i,P.info? t=some i:=by
 grind [fh,dh]
theorem yo{t:TypeId}{n:Nat}{ag:Bool}(hn:fh P t=some n)(ha:gx P t=some ag)(h1:ag=false->n=1){xs:List Value}{off:Nat}(hfit:off+n<=xs.length)(w:World):
  (Go.part t xs.toArray off).run P w=.ok (rD ag ((xs.drop off).take n)) w:=by
 cases ag with
 |true=>simp_all[Go.part,DH,m8,rD]
 |false=>
  obtain rfl:=h1 rfl;have hlt:off<xs.length:=by omega
  have e1:(xs.drop off).take 1=[xs[off]]:=by rw[List.drop_eq_getElem_cons hlt];rfl
  simp_all[Go.part,DH,rD]
theorem t_:∀{ks:List Kd}{xs ys:List Value}{b:Bool},pQ ks xs ys=some b->xs.length=ks.length/\ys.length=ks.length:=by
 intro ks;induction ks with
 |nil=>intro xs ys b h;cases xs<;>cases ys<;>simp_all[pQ]
 |cons k ks ih=>
  intro xs ys b h;cases xs with
  |nil=>simp[pQ]at h
  |cons x xs=>cases ys with|nil=>simp[pQ]at h|cons y ys=>grind [pQ]
theorem P9:∀{ks ls:List Kd}{xs ys:List Value}{b:Bool},pQ (ks++ls) xs ys=some b->
  ∃b1 b2,pQ ks (xs.take ks.length) (ys.take ks.length)=some b1/\pQ ls (xs.drop ks.length) (ys.drop ks.length)=some b2/\b=(b1&&b2):=by
 intro ks;induction ks with
 |nil=>grind [pQ]
 |cons k ks ih=>
  intro ls xs ys b h;cases xs with
  |nil=>simp[pQ]at h
  |cons x xs=>cases ys with|nil=>simp[pQ]at h|cons y ys=>grind [pQ,Bool.and_assoc]
theorem agk{k:Kd}{x y:Value}(h:WN k x y=some true):x=y:=by
 unfold WN at h
 grind [Su]
theorem acR:∀{ks:List Kd}{xs ys:List Value},pQ ks xs ys=some true->xs=ys:=by
 intro ks;induction ks with
 |nil=>intro xs ys h;cases xs<;>cases ys<;>simp_all[pQ]
 |cons k ks ih=>
  intro xs ys h;cases xs with
  |nil=>simp[pQ]at h
  |cons x xs=>
   cases ys with
   |nil=>simp[pQ]at h
   |cons y ys=>
    simp[pQ]at h;split at h
    .rename_i a c ha hc;have h2:=af h;rw[ax]at h2;obtain⟨rfl,rfl⟩:=h2;rw[agk ha,ih hc]
    .simp at h
def ag0(P:Program)(D:Nat)(t:TypeId)(ks:List Kd)(ag:Bool):Prop:=∀(xs ys:List Value)(b:Bool)(w:World),pQ ks xs ys=some b->(Op.equalIn D t (rD ag xs) (rD ag ys)).run P w=.ok b w
theorem K6{D d:Nat}(w:World)(ih:∀(t:TypeId)(ks:List Kd),IN P d t=some ks->∀ag,gx P t=some ag->ag0 P D t ks ag)(xs ys:List Value):
  ∀(fs:List Field)(off:Nat)(ks:List Kd)(b:Bool),tyF P (IN P d) fs off=some ks->off<=xs.length->off<=ys.length->pQ ks (xs.drop off) (ys.drop off)=some b->(Op.eqFields D xs.toArray ys.toArray fs).run P w=.ok b w:=by
 intro fs;induction fs with
 |nil=>
  intro off ks b h _ _ he;obtain rfl:[]=ks:=by simpa[tyF]using h
  obtain⟨h1,h2⟩:=t_ he;rw[cu.1 h1,cu.1 h2]at he;obtain rfl:true=b:=by simpa[pQ]using he
  simp[Op.eqFields]
 |cons f fs ihf=>
  intro off ks b h o1 o2 he;simp only[tyF]at h;split at h
  .rename_i hc;obtain⟨hoff,hname⟩:=hc;split at h
   .rename_i k1 hk1;split at h
    .rename_i hsz;split at h
     .rename_i l hl;obtain rfl:=af h;obtain⟨_,ag,hag,hone⟩:=GJ d f.type k1 hk1;obtain⟨l1,l2⟩:=t_ he;rw[jL,au]at l1 l2;obtain⟨b1,b2,h1,h2,rfl⟩:=P9 he;have hfit1:f.offset+k1.length<=xs.length:=by omega
      have hfit2:f.offset+k1.length<=ys.length:=by omega
      have p1:=yo hsz hag hone hfit1;have p2:=yo hsz hag hone hfit2;rw[hoff]at p1 p2;have p3:=ih f.type k1 hk1 ag hag _ _ b1 w h1;have p4:=ihf _ l b2 hl (by omega) (by omega) (by simp_all);simp[Op.eqFields,hname,ne_eq,not_false_eq_true,if_true,Sem.run_bind,hoff,p1,p2,p3,Result.andThen_ok]
      grind
     .simp at h
    .simp at h
   .simp at h
  .simp at h
theorem MN{D:Nat}{t:TypeId}{ks:List Kd}{ag:Bool}(w:World)(hn:fh P t=some ks.length)(ha:gx P t=some ag)(h1:ag=false->ks.length=1)(ih:ag0 P D t ks ag)(xs ys:List Value):
  ∀(n i:Nat)(b:Bool),i*ks.length<=xs.length->i*ks.length<=ys.length->pQ (az n ks).flatten (xs.drop (i*ks.length)) (ys.drop (i*ks.length))=some b->
   (Op.eqItems D t ks.length xs.toArray ys.toArray (List.range' i n)).run P w=.ok b w:=by
 intro n;induction n with
 |zero=>
  intro i b _ _ he;obtain⟨h1,h2⟩:=t_ he;rw[cu.1 h1,cu.1 h2]at he;obtain rfl:true=b:=by simpa[pQ]using he
  simp[Op.eqItems]
 |succ n ihn=>
  intro i b o1 o2 he;rw[gG,List.flatten_cons]at he;obtain⟨l1,l2⟩:=t_ he;rw[jL,au]at l1 l2;obtain⟨b1,b2,q1,q2,rfl⟩:=P9 he;have e1:(i+1)*ks.length=i*ks.length+ks.length:=gS ..;have p1:=yo hn ha h1 (xs:=xs) (off:=i*ks.length) (by omega);have p2:=yo hn ha h1 (xs:=ys) (off:=i*ks.length) (by omega);have p3:=ih _ _ b1 w q1;rw[ol,ol,<-e1]at q2;rw[List.range'_succ];simp[Op.eqItems,Sem.run_bind,p1,p2,p3,Result.andThen_ok]
  grind
theorem SS(k:Nat):∀(d:Nat)(t:TypeId)(ks:List Kd),IN P d t=some ks->∀ag,gx P t=some ag->ag0 P (d+k) t ks ag:=by
 intro d;induction d with
 |zero=>intro t ks h;simp[IN]at h
 |succ d ih=>
  intro t ks h ag hag xs ys b w he;rw[show d+1+k=(d+k)+1 by omega]
  have one:∀{q:Kd},P.underlying t≠none->ks=[q]->ag=false->∃x y,xs=[x]/\ys=[y]/\WN q x y=some b:=by
   rintro q _ rfl _;obtain⟨l1,l2⟩:=t_ he;obtain⟨x,rfl⟩:=iw.1 l1;obtain⟨y,rfl⟩:=iw.1 l2;refine⟨x,y,rfl,rfl,?_⟩;simp only[pQ]at he
   grind
  unfold IN at h;split at h
  .rename_i hu;have hg:ag=false:=by simpa[gx,hu]using hag.symm
   split at h
   .obtain ⟨x,y,rfl,rfl,hk⟩:=one (q:=.b) (by simp[hu]) (af h).symm hg;subst hg;unfold WN at hk;split at hk<;>first|(simp_all;done)|skip
    obtain rfl:=af hk;exact run_equalIn_bool w _ _ _ _ hu
   .simp at h
  .rename_i q0 hu;have hg:ag=false:=by simpa[gx,hu]using hag.symm
   split at h
   .obtain ⟨x,y,rfl,rfl,hk⟩:=one (q:=.i q0) (by simp[hu]) (af h).symm hg;subst hg;unfold WN at hk;split at hk<;>first|(simp_all;done)|skip
    split at hk
    .rename_i hkk;obtain⟨rfl,rfl⟩:=hkk;obtain rfl:=af hk;exact run_equalIn_int w _ _ _ _ _ _ hu
    .simp at hk
   .simp at h
  .rename_i hu;have hg:ag=false:=by simpa[gx,hu]using hag.symm
   split at h
   .obtain ⟨x,y,rfl,rfl,hk⟩:=one (q:=.s) (by simp[hu]) (af h).symm hg;subst hg;simp only[rD,Bool.false_eq_true,if_false,List.headD_cons];unfold WN at hk;split at hk<;>first|(simp_all;done)|skip
    obtain rfl:=af hk
    grind [beq_toListBytes,run_equalIn_string]
   .simp at h
  .rename_i n el hu;have hg:ag=true:=by simpa[gx,hu]using hag.symm
   subst hg;split at h
   .split at h
    .rename_i k1 hk1 hs;obtain rfl:=af h;obtain⟨_,ag1,hag1,hone⟩:=GJ d el k1 hk1;obtain⟨i,hi⟩:=acy hs.1;simp only[rD,if_true];rw[run_equalIn_array w _ _ _ hu hi,Ss hs.1,List.range_eq_range']
     grind [MN]
    .simp at h
   .simp at h
  .rename_i fs hu;have hg:ag=true:=by simpa[gx,hu]using hag.symm
   subst hg;split at h
   .split at h
    .rename_i k1 hk1 hs;obtain rfl:=af h;simp only[rD,if_true];have hf:P.fieldsOf t=fs:=by simp[Program.fieldsOf,hu]
     rw[run_equalIn_struct w _ _ _ _ (by rw[hf];exact hu) hs.1,hf];exact K6 w (fun t ks h ag hag=>ih t ks h ag hag) xs ys fs.toList 0 _ b hk1 (cG _) (cG _) (by simpa using he)
    .simp at h
   .simp at h
  .simp at h
def adA(P:Program)(em:Bool)(D:Nat)(t:TypeId)(n:Nat)(ag:Bool):Prop:=∀(xs:List Value)(w:World),xs.length=n->(Instr.checkKey em D t (rD ag xs)).run P w=.ok () w
theorem Ju(em:Bool)(k:Nat):∀(d:Nat)(t:TypeId)(ks:List Kd),IN P d t=some ks->∀ag,gx P t=some ag->adA P em (d+k) t ks.length ag:=by
 intro d;induction d with
 |zero=>intro t ks h;simp[IN]at h
 |succ d ih=>
  intro t ks h ag hag xs w hl;rw[show d+1+k=(d+k)+1 by omega];unfold IN at h;rw[Instr.checkKey];split at h
  .simp_all [Sem.run_bind,cU,Result.andThen_ok]
  .simp_all [Sem.run_bind,cU,Result.andThen_ok]
  .simp_all [Sem.run_bind,cU,Result.andThen_ok]
  .rename_i n el hu;have hg:ag=true:=by simpa[gx,hu]using hag.symm
   subst hg;split at h
   .split at h
    .rename_i k1 hk1 hs;obtain rfl:=af h;obtain⟨_,ag1,hag1,hone⟩:=GJ d el k1 hk1;have hl2:xs.length=n*k1.length:=by rw[hl];simp[List.length_flatten]
     simp only[rD,if_true,Sem.run_bind,cU hu,Result.andThen_ok];simp only[Std.Legacy.Range.forIn_eq_forIn_range',Std.Legacy.Range.size,Nat.sub_zero,Nat.add_one_sub_one,Nat.div_one]
     have each:∀i∈List.range' 0 n,i*k1.length+k1.length<=xs.length:=fun i hi=>by
      have hi':i<n:=by simpa using hi
      rw[hl2,<-gS];exact Nat.mul_le_mul_right _ hi'
     generalize List.range' 0 n=is at each;induction is with|nil=>simp|cons j is ihj=>have p1:=yo (w:=w) hs.1 hag1 hone (xs:=xs) (off:=j*k1.length) (each j (by simp));have p2:=ih el k1 hk1 ag1 hag1 ((xs.drop (j*k1.length)).take k1.length) w (by rw[bw,jL];have:=each j (by simp);omega);simp_all[List.forIn_cons,Sem.run_bind,m8,Result.andThen_ok,Sem.run_pure]
    .simp at h
   .simp at h
  .rename_i fs hu;have hg:ag=true:=by simpa[gx,hu]using hag.symm
   subst hg;split at h
   .split at h
    .rename_i k1 hk1 hs;obtain rfl:=af h;simp only[rD,if_true,Sem.run_bind,cU hu,Result.andThen_ok];rw[<-Array.forIn_toList]
     have main:∀(L:List Field)(off:Nat)(l:List Kd),tyF P (IN P d) L off=some l->off+l.length=xs.length->
       (forIn L PUnit.unit (fun f r=>if f.name≠ "_" then do Instr.checkKey em (d+k) f.type (<-Go.part f.type xs.toArray f.offset);pure (ForInStep.yield PUnit.unit)else pure (ForInStep.yield PUnit.unit)):Sem PUnit).run P w=.ok PUnit.unit w:=by
      intro L;induction L with
      |nil=>intro off l _ _;simp
      |cons f L ihL=>
       intro off l h ho;simp only[tyF]at h;split at h
       .rename_i hc;obtain⟨hoff,hname⟩:=hc;split at h
        .rename_i k1 hk1;split at h
         .rename_i hsz;split at h
          .rename_i l1 hl1;obtain rfl:=af h;rw[au]at ho;obtain⟨_,ag1,hag1,hone⟩:=GJ d f.type k1 hk1;have p1:=yo (w:=w) hsz hag1 hone (xs:=xs) (off:=f.offset) (by omega);have p2:=ih f.type k1 hk1 ag1 hag1 ((xs.drop f.offset).take k1.length) w (by grind);simp only[List.forIn_cons,Sem.run_bind,hname,ne_eq,not_false_eq_true,if_true,Result.andThen_ok,p1,p2,Sem.run_pure]
           grind
          .simp at h
         .simp at h
        .simp at h
       .simp at h
     rw[main fs.toList 0 _ hk1 (by omega)];rfl
    .simp at h
   .simp at h
  .simp at h
theorem Ia{k1 k2:List Kd}{a1 a2 b1 b2:List Value}{p q:Bool}(h1:pQ k1 a1 b1=some p)(h2:pQ k2 a2 b2=some q):pQ (k1++k2) (a1++a2) (b1++b2)=some (p&&q):=by
 induction k1 generalizing a1 b1 p with
 |nil=>cases a1<;>cases b1<;>simp[pQ]at h1;subst h1;simpa using h2
 |cons k k1 ih=>
  cases a1<;>cases b1<;>simp[pQ]at h1<;>first|cases h1|skip
  grind [pQ,Bool.and_assoc]
theorem J7{k1 k2:List Kd}{a1 a2:List Value}(h1:PL k1 a1=true)(h2:PL k2 a2=true):PL (k1++k2) (a1++a2)=true:=by
 induction k1 generalizing a1 with
 |nil=>cases a1<;>simp[PL]at h1;simpa using h2
 |cons k k1 ih=>
  cases a1<;>simp[PL]at h1<;>first|cases h1|skip
  simp_all[PL]
theorem PK{S:Nat->Prop}:∀{t:Ty}{ks:List Kd},G8 t=some ks->(∀{x:El t}{c:List Value},RT S w t x c->PL ks c=true)/\(∀{x y:El t}{c e:List Value},RT S w t x c->RT S w t y e->pQ ks c e=some (decide (x=y)))/\ks.length=ei t:=by
 intro t;induction t with
 |pr a a2 iha ihb=>
  intro ks hk;simp only[G8]at hk;split at hk
  .rename_i p q hp hq;obtain rfl:=af hk;obtain⟨a1,a2,a3⟩:=iha hp;obtain⟨b1,b2,b3⟩:=ihb hq;refine⟨?_,?_,by simp[ei,a3,b3]⟩
   .rintro x c ⟨d,e,rfl,h1,h2⟩;exact J7 (a1 h1) (b1 h2)
   .rintro x y c e ⟨d,e,rfl,h1,h2⟩ ⟨d',e',rfl,h3,h4⟩;rw[Ia (a2 h1 h3) (b2 h2 h4)];congr 1
    grind
  .simp at hk
 |st t ih=>intro ks hk;exact ih hk
 |ar m t ih=>
  intro ks hk;simp only[G8]at hk;split at hk
  .rename_i q hq;obtain rfl:=af hk;obtain⟨a1,a2,a3⟩:=ih hq;have k1:∀{l:List (El t)}{m:Nat}{c:List Value},l.length=m->o_ (RT S w t) l c->PL (az m q).flatten c=true:=by intro l;induction l with|nil=>rintro m c rfl rfl;rfl|cons x l ihl=>rintro m c rfl ⟨d,e,rfl,h1,h2⟩;exact J7 (a1 h1) (ihl rfl h2)
   have k2:∀{l r:List (El t)}{m:Nat}{c e:List Value},l.length=m->r.length=m->o_ (RT S w t) l c->o_ (RT S w t) r e->pQ (az m q).flatten c e=some (decide (l=r)):=by
    intro l;induction l with
    |nil=>rintro r m c e rfl h1 rfl h2;obtain rfl:=cu.1 h1;obtain rfl:e=[]:=h2;rfl
    |cons x l ihl=>rintro r m c e rfl h1 ⟨d,f,rfl,h2,h3⟩ h4;cases r with|nil=>simp at h1|cons y r=>obtain⟨d',f',rfl,h5,h6⟩:=h4;simp only[di,gG,List.flatten_cons];rw[Ia (a2 h2 h5) (ihl rfl (by simpa using h1) h3 h6)];simp_all
   refine⟨fun{x c}h=>k1 x.2 h,fun{x y c e}h h'=>?_,by simp[ei,a3]⟩;rw[k2 x.2 y.2 h h'];exact congrArg some (decide_eq_decide.2 ⟨fun e=>Subtype.ext e,fun e=>e▸rfl⟩)
  .simp at hk
 |i k=>intro ks hk;obtain rfl:=af hk;refine⟨by rintro x c rfl;simp[PL,VR],?_,rfl⟩;rintro x y c e rfl rfl;simp only[pQ,WN,and_self,if_true,Bool.and_true];rfl
 |b=>intro ks hk;obtain rfl:=af hk;refine⟨by rintro x c rfl;simp[PL,VR],?_,rfl⟩;rintro x y c e rfl rfl;simp only[pQ,WN,Bool.and_true];rfl
 |s=>intro ks hk;obtain rfl:=af hk;refine⟨by rintro x c rfl;simp[PL,VR],?_,rfl⟩;rintro x y c e rfl rfl;simp only[pQ,WN,Bool.and_true,Su]
 |_=>intro ks hk;simp[G8]at hk
end
end Go.Ev
