/- Typed data over the abstract machine, and what its operations do to it. Conditions: as stated. -/
import Derived.Test.YtingpmogbibghaaEvW
import Derived.OpenShut
import Derived.WideKeyArgs
import Derived.Deep.Slices
import Derived.ProofKit
import Derived.WalkKit
import Derived.JoinedCond
open Array renaming getElem?_eq_some_iff->bm
open BitVec renaming ofInt->de
open Bool renaming false_eq_true->aO
open List renaming getD->nP,getElem?_eq_getElem->aB,getElem?_eq_some_iff->ao,getElem?_map->aK,length_map->aF,length_nil->iU,map_cons->aD,map_drop->gJ,map_take->iq,mem_append_left->aA,mem_append_right->aC,range->bN
open Nat renaming sub_zero->mI
open Option renaming map_eq_some_iff->aG,map_none->lG,map_some->bK
open Option.some renaming inj->aa,injEq->ce
noncomputable section
namespace Go.Ev
inductive Sl(α:Type)where
 |nil
 |mk (l:List α)
 deriving Inhabited,DecidableEq
def Sl.l{α:Type}:Sl α->List α
 |.nil=>[]
 |.mk l=>l
@[simp] theorem Sl.Wo {α:Type} (l:List α):(Sl.mk l).l=l:=rfl
@[simp] theorem Sl.V3 {α:Type}:(Sl.nil:Sl α).l=[]:=rfl
def Sl.fT{α:Type}:Sl α->Bool
 |.nil=>true
 |.mk _=>false
abbrev dI(k:IntKind)(n:Int):D:=.lit (.int k n)
abbrev dB(b:Bool):D:=.lit (.bool b)
abbrev dS(s:ByteArray):D:=.lit (.string s)
abbrev tI(k:IntKind)(n:Int):TV:=.c (.d (.lit (.int k n)))
abbrev tB(b:Bool):TV:=.c (.d (.lit (.bool b)))
def xl{α:Type}(sz:Nat)(enc:α->List D):Sl α->D
 |.nil=>.lit (.slice none 0 0)
 |.mk l=>.sl sz (l.map enc)
def ny{α:Type}(sz:Nat)(enc:α->List D)(id:Nat):Sl α->C
 |.nil=>.d (.lit (.slice none 0 0))
 |.mk l=>.fK sz id 0 (l.map enc).length
def Qz{α:Type}(sz:Nat)(enc:α->List D):Sl α->T
 |.nil=>.d (.lit (.slice none 0 0))
 |.mk l=>.sl sz (l.map enc)
abbrev wr(k:IntKind)(n:Int):Int:=k.wrap n
def ve(k:IntKind)(a b:Int):Int:=k.wrap (de k.bits a&&&de k.bits b).toNat
def Qd:{f:IntKind->Int->Int->Int//f=ve}:=Classical.choice ⟨⟨_,rfl⟩⟩
def AR(k:IntKind)(a b:Int):Int:=Qd.1 k a b
theorem Ds:AR=ve:=funext fun k=>funext fun a=>funext fun b=>congrFun (congrFun (congrFun Qd.2 k) a) b
def Tz(k:IntKind)(a b:Int):Int:=k.wrap (de k.bits a|||de k.bits b).toNat
def Tx:{f:IntKind->Int->Int->Int//f=Tz}:=Classical.choice ⟨⟨_,rfl⟩⟩
def VO(k:IntKind)(a b:Int):Int:=Tx.1 k a b
theorem RX:VO=Tz:=funext fun k=>funext fun a=>funext fun b=>congrFun (congrFun (congrFun Tx.2 k) a) b
def Qc(k:IntKind)(a b:Int):Int:=k.wrap (de k.bits a^^^de k.bits b).toNat
def Qb:{f:IntKind->Int->Int->Int//f=Qc}:=Classical.choice ⟨⟨_,rfl⟩⟩
def RU(k:IntKind)(a b:Int):Int:=Qb.1 k a b
theorem Px:RU=Qc:=funext fun k=>funext fun a=>funext fun b=>congrFun (congrFun (congrFun Qb.2 k) a) b
def AQ(k:IntKind)(a b:Int):Int:=k.wrap (de k.bits a&&&~~~de k.bits b).toNat
def FP:{f:IntKind->Int->Int->Int//f=AQ}:=Classical.choice ⟨⟨_,rfl⟩⟩
def za(k:IntKind)(a b:Int):Int:=FP.1 k a b
theorem AO:za=AQ:=funext fun k=>funext fun a=>funext fun b=>congrFun (congrFun (congrFun FP.2 k) a) b
def VP(k:IntKind)(a:Int):Int:=k.wrap (de k.bits (if k.signed then-1 else k.max)^^^de k.bits a).toNat
def RW(k:IntKind)(a b:Int):Int:=k.wrap (a*2^(min b.toNat k.bits))
def fM(k:IntKind)(a b:Int):Int:=a.fdiv (2^(min b.toNat k.bits))
def Ry(k:IntKind)(a b:Int):Option Int:=if b=0 then none else some (k.wrap (a.tdiv b))
def QH(_:IntKind)(a b:Int):Option Int:=if b=0 then none else some (a.tmod b)
def QB(k:IntKind)(a b:Int):Option Int:=if b<0 then none else some (RW k a b)
def QA(k:IntKind)(a b:Int):Option Int:=if b<0 then none else some (fM k a b)
def RK(a b:ByteArray):Option ByteArray:=if((a.size+b.size:Nat):Int)>IntKind.i64.max then none else some (a++b)
def TI(s:ByteArray)(i:Int):Option Int:=if 0<=i then s[i.toNat]?.map fun b=>(b.toNat:Int)else none
def A8(s:ByteArray)(lo hi:Int):Option ByteArray:=if 0<=lo/\lo<=hi/\hi<=s.size then some (s.extract lo.toNat hi.toNat)else none
def A0{α:Type}(z:α)(l c:Int):Option (List α):=if 0<=l/\l<=c/\c<=2147483648 then some (List.replicate l.toNat z)else none
def Sl.to{α:Type}(s:Sl α)(r:List α):Sl α:=match s with|.nil=>.nil|.mk _=>.mk r
section
variable{c:Ev.Call}{H:bD}{nx:Nat}{k:IntKind}{a b x:Int}{s t u:ByteArray}
theorem Rp(h:Ry k a b=some x):cI c (.AL .quo) [some (tI k a),some (tI k b)] H nx=some (tI k x,[],[],nx):=by
 unfold Ry at h;split at h
 .simp at h
 .rename_i hb;obtain rfl:=aa h;simp[cI,o7,pM,hb,lv]
theorem Ro(h:QH k a b=some x):cI c (.AL .rem) [some (tI k a),some (tI k b)] H nx=some (tI k x,[],[],nx):=by
 unfold QH at h;split at h
 .simp at h
 .rename_i hb;obtain rfl:=aa h;simp[cI,o7,pM,hb,lv]
theorem Rn{k2:IntKind}(h:QB k a b=some x):cI c (.AL .shl) [some (tI k a),some (tI k2 b)] H nx=some (tI k x,[],[],nx):=by
 unfold QB at h;split at h
 .simp at h
 .rename_i hb;obtain rfl:=aa h;simp[cI,o7,pM,hb,lv,RW]
theorem Rm{k2:IntKind}(h:QA k a b=some x):cI c (.AL .shr) [some (tI k a),some (tI k2 b)] H nx=some (tI k x,[],[],nx):=by
 unfold QA at h;split at h
 .simp at h
 .rename_i hb;obtain rfl:=aa h;simp[cI,o7,pM,hb,lv,fM]
theorem Rq(h:RK s t=some u):cI c (.AL .add) [some (.c (.d (dS s))),some (.c (.d (dS t)))] H nx=some (.c (.d (dS u)),[],[],nx):=by
 unfold RK at h;split at h
 .simp at h
 .rename_i hb;obtain rfl:=aa h;simp only[cI,o7,pM];rw[if_neg hb];rfl
theorem Tf(h:TI s a=some x):cI c .qG [some (.c (.d (dS s))),some (tI k a)] H nx=some (tI .u8 x,[],[],nx):=by
 unfold TI at h;split at h
 .rename_i ha;obtain⟨y,hy,rfl⟩:=aG.1 h;simp only[cI,cA];rw[if_pos ha,hy];rfl
 .simp at h
end
def cZ(i:Int)(n:Nat):Option Nat:=if 0<=i/\i<n then some i.toNat else none
theorem eC{i:Int}{n m:Nat}:cZ i n=some m<->i=m/\m<n:=by
 unfold cZ;split
 .simp only[ce];omega
 .simp only[reduceCtorEq,false_iff];omega
theorem nA{i n:Nat}(h:i<n):cZ (i:Int) n=some i:=eC.2 ⟨rfl,h⟩
def gt{α:Type}[Inhabited α](l:List α)(n:Nat):α:=l.getD n default
theorem Rd{α:Type}[Inhabited α]{l:List α}{n:Nat}(h:n<l.length):l[n]?=some (gt l n):=by simp[gt,nP,h]
theorem oM{α:Type}[Inhabited α]{l:List α}{n:Nat}(h:n<l.length):gt l n=l[n]:=by simp[gt,nP,h]
theorem C7{α:Type}[Inhabited α]{l:List α}{n:Nat}{enc:α->List D}(h:n<l.length):(l.map enc)[n]?=some (enc (gt l n)):=by rw[aK,Rd h];rfl
def m_{α:Type}(l:List α):Option (List α):=if l.length<=2147483648 then some l else none
theorem iM{α:Type}{l m:List α}:m_ l=some m<->l=m/\l.length<=2147483648:=by
 unfold m_;split
 .simp_all
 .rename_i hl;simp only[reduceCtorEq,false_iff,not_and];rintro rfl;omega
theorem Dr{α:Type}{l:List α}(h:l.length<=2147483648):m_ l=some l:=iM.2 ⟨rfl,h⟩
def o5{α:Type}(l:List α)(lo hi:Int):Option (List α):=if 0<=lo/\lo<=hi/\hi<=l.length then some ((l.drop lo.toNat).take (hi.toNat-lo.toNat))else none
theorem qh{α β:Type}{x:Option α}{f:α->Option β}{r:β}(h:x.bind f=some r):∃a,x=some a/\f a=some r:=Option.bind_eq_some_iff.1 h
theorem uK{α:Type}{l:List α}{enc:α->List D}:((l.map enc).drop 0).take (l.map enc).length=l.map enc:=by rw[List.drop_zero,List.take_length]
theorem Ph{α:Type}{l:List α}{enc:α->List D}{a b:Nat}:((l.map enc).drop a).take b=((l.drop a).take b).map enc:=by rw[iq,gJ]
section
variable{α:Type}{c:Ev.Call}{H:bD}{nx sz id off len m n:Nat}{k:IntKind}{i:Int}{enc:α->List D}{s:Sl α}{l:List α}{agg:Bool}{v:TV}
theorem VY{k:Nat}(hl:az H id=some (.aL sz (l.map enc))):fc H k (.fK sz id 0 (l.map enc).length)=some (.sl sz (l.map enc),[id],[id]):=by
 have:fc H k (.fK sz id 0 (l.map enc).length)=(if 0+(l.map enc).length<=(l.map enc).length then some (.sl sz (((l.map enc).drop 0).take (l.map enc).length),[id],[id])else none):=by cases k<;>simp only[fc,hl]
 rw[this,if_pos (by omega),uK]
theorem RF{lo hi:Int}{r:List α}(hc:o5 l lo hi=some r):lo.toNat+(r.map enc).length<=(l.map enc).length/\((l.map enc).drop lo.toNat).take (r.map enc).length=r.map enc:=by
 unfold o5 at hc;split at hc
 .rename_i h;obtain rfl:=aa hc;refine⟨by simp;omega,?_⟩;rw[Ph];congr 1;simp
 .simp at hc
theorem TJ{bq rd:List Nat}{r:List (C×List Nat×List Nat)}(hl:az H id=some (.aL sz (l.map enc)))(h:eT H r=true):eT H ((.fK sz id 0 (l.map enc).length,bq,rd)::r)=true:=by simp[eT,hl,h]
theorem S6[Inhabited α](h:cZ i s.l.length=some n):cI c (.indexAddr none sz) [some (.c (.d (xl sz enc s))),some (tI k i)] H nx=some (.c (.d (.pt (enc (gt s.l n)))),[],[],nx):=by obtain⟨rfl,hn⟩:=eC.1 h;cases s with|nil=>simp[Sl.l]at hn|mk l=>have hn':n<l.length:=hn;simp only[cI,cA,jo,xl,Int.natCast_nonneg,and_self,if_true,Int.toNat_natCast];rw[C7 hn'];rfl
theorem VC(h:cZ i l.length=some n):cI c (.indexAddr none sz) [some (.c (.fK sz id 0 (l.map enc).length)),some (tI k i)] H nx=some (.c (.ep id n 0),[],[],nx):=by obtain⟨rfl,hn⟩:=eC.1 h;simp only[cI,cA,jo,aF];rw[if_pos (by refine⟨by omega,by omega,?_⟩;trivial)];simp
theorem S7(h:cZ i l.length=some n):cI c (.indexAddr none sz) [some (.c (.fK sz id off (l.map enc).length)),some (tI k i)] H nx=some (.c (.ep id (off+n) 0),[],[],nx):=by obtain⟨rfl,hn⟩:=eC.1 h;simp only[cI,cA,jo,aF];rw[if_pos (by refine⟨by omega,by omega,?_⟩;trivial)];simp
theorem Mt{X:Prop}(h:cZ i (Sl.l (Sl.nil:Sl α)).length=some n):X:=by obtain⟨_,hn⟩:=eC.1 h;simp[Sl.l]at hn
theorem N9[Inhabited α]{cs:List C}{ds:List D}{aw:List Nat}{u:fN}{y:α}(hl:az H id=some (.aL sz (l.map enc)))(hn:n<l.length)(hc:cellsOf v=some cs)(hm:cs.length=m)(hw:dU H cs=some (ds,aw))(hf:dM H aw aw=some u)
  (hid:aw.contains id=false) (hlen:off+m<=(enc (gt l n)).length)
  (hy:aW (enc (gt l n)) off ds=enc y):cI c (.store m) [some (.c (.ep id n off)),some v] H nx=some (.jA [],(id,some (.aL sz ((l.set n y).map enc)))::u,id::aw,nx):=by
 simp only[cI,nq,hc,hm,if_true,hl,C7 hn,hw,hf];rw[if_pos ⟨hlen,hid⟩,hy,List.map_set]
theorem Q9:cI c (.len false) [some (.c (.d (xl sz enc s)))] H nx=some (tI .i64 s.l.length,[],[],nx):=by cases s with|nil=>rfl|mk l=>simp[cI,vc,xl,Sl.l,lv]
theorem P0:cI c (.len false) [some (.c (ny sz enc id s))] H nx=some (tI .i64 s.l.length,[],[],nx):=by cases s with|nil=>rfl|mk l=>simp[cI,vc,ny,Sl.l,lv]
theorem Q2{neg:Bool}:cI c (.ss 0 neg) [some (.c (.d (xl sz enc s)))] H nx=some (tB (if neg then !s.fT else s.fT),[],[],nx):=by cases s<;>rfl
theorem SV{neg:Bool}:cI c (.ss 0 neg) [some (.c (ny sz enc id s))] H nx=some (tB (if neg then !s.fT else s.fT),[],[],nx):=by cases s<;>rfl
theorem Oi:jV sz H (.d (xl sz enc s))=some (s.l.map enc,[]):=by cases s with|nil=>rfl|mk l=>simp[jV,xl,Sl.l]
theorem sD{l r:List α}{lo hi:Int}:o5 l lo hi=some r<->(0<=lo/\lo<=hi/\hi<=l.length)/\(l.drop lo.toNat).take (hi.toNat-lo.toNat)=r:=by
 unfold o5;split
 .rename_i h;simp[h]
 .rename_i h;simp[h]
theorem Tu{lo hi:Option Int}{r:List α}(hc:o5 l (lo.getD 0) (hi.getD l.length)=some r):ge false sz (.fK sz id 0 (l.map enc).length) lo hi=some (.fK sz id (lo.getD 0).toNat (r.map enc).length):=by obtain⟨h,rfl⟩:=sD.1 hc;simp only[ge,aO,if_false,aF];rw[if_pos ⟨trivial,h⟩];simp;omega
theorem RB{lo hi:Option Int}{r:List α}(hc:o5 s.l (lo.getD 0) (hi.getD s.l.length)=some r):ge false sz (.d (xl sz enc s)) lo hi=some (.d (xl sz enc (s.to r))):=by obtain⟨h,rfl⟩:=sD.1 hc;cases s with|nil=>simp only[Sl.l,iU]at h;simp only[ge,xl,aO,if_false];rw[if_pos ⟨h.1,h.2.1,by simpa using h.2.2⟩];rfl|mk l=>simp only[Sl.l]at h|-;simp only[ge,xl,aO,if_false,aF];rw[if_pos ⟨trivial,h.1,h.2.1,h.2.2⟩];simp[iq,gJ,Sl.to]
theorem M8{lo hi:Option Int}{r:List α}(hc:o5 (Sl.l (Sl.nil:Sl α)) (lo.getD 0) (hi.getD (Sl.l (Sl.nil:Sl α)).length)=some r):ge false sz (.d (.lit (.slice none 0 0))) lo hi=some (.d (.lit (.slice none 0 0))):=by obtain⟨h,rfl⟩:=sD.1 hc;simp only[Sl.l,iU]at h;simp only[ge,aO,if_false];rw[if_pos ⟨h.1,h.2.1,by simpa using h.2.2⟩]
section
variable{r:List α}{i j:Int}{k k2:IntKind}
def A4(l:List α)(off n:Nat)(x:List α):List α:=aW l off (x.take n)
theorem Hs{off n:Nat}{x:List α}:aW (l.map enc) off ((x.map enc).take n)=(A4 l off n x).map enc:=by simp[A4,aW]
theorem RH{xc:C}{x:List α}{aw:List Nat}(hl:az H id=some (.aL sz (l.map enc)))(hx:jV sz H xc=some (x.map enc,aw)):
  cI c (.copy sz) [some (.c (.fK sz id 0 (l.map enc).length)),some (.c xc)] H nx=some (tI .i64 (min x.length l.length:Nat),[(id,some (.aL sz ((A4 l 0 l.length x).map enc)))],id::aw,nx):=by
 simp only[cI,nB,hx,hl];rw[if_pos ⟨trivial,by simp⟩];simp only[Hs,aF];rfl
theorem vJ{off n:Nat}{x:List α}(h:off+n<=l.length):(A4 l off n x).length=l.length:=fm _ _ _ (by simp only[List.length_take];omega)
def OS(a b:List α):Option Unit:=if a.length=b.length then some ()else none
theorem BZ{a b:List α}{u:Unit}:OS a b=some u<->a.length=b.length:=by unfold OS;split<;>simp_all
theorem Pa{z:α}{zero:List Value}{n m:Int}(hz:dg zero=enc z)(h:A0 z n m=some l):cI c (.makeSlice zero) [some (tI k n),some (tI k2 m)] H nx=some (.c (.fK zero.length nx 0 (l.map enc).length),[(nx,some (.aL zero.length (l.map enc)))],[],nx+1):=by
 unfold A0 at h;split at h
 .rename_i hb;obtain rfl:=aa h;simp only[cI,cA];rw[if_pos (by simpa[E7]using hb),hz];simp
 .simp at h
end
end
structure Mp(K V:Type)where
 es:List (K×V×Nat)
 fH:Nat
def Mp.none{K V:Type}:Mp K V:=⟨[],0⟩
instance{K V:Type}:Inhabited (Mp K V):=⟨.none⟩
section
variable{κ ν:Type}
def jg[DecidableEq κ](k:κ):List (κ×ν×Nat)->Nat->Option (Nat×κ×ν×Nat)
 |[],_=>none
 |e::r,i=>if k=e.1 then some (i,e)else jg k r (i+1)
def pT[DecidableEq κ](m:Mp κ ν)(z:ν)(k:κ):ν:=match jg k m.es 0 with|some (_,e)=>e.2.1|none=>z
def L4[DecidableEq κ](m:Mp κ ν)(k:κ):Bool:=(jg k m.es 0).isSome
def m6[DecidableEq κ](m:Mp κ ν)(z:ν)(k:κ):Mp κ ν×ν×Int:=match jg k m.es 0 with|some (_,e)=>(m,e.2.1,e.2.2)|none=>(⟨m.es++[(k,z,m.fH)],m.fH+1⟩,z,m.fH)
def uc:List (κ×ν×Nat)->Nat->ν->List (κ×ν×Nat)
 |[],_,_=>[]
 |e::r,0,v=>(e.1,v,e.2.2)::r
 |e::r,i+1,v=>e::uc r i v
def wy(m:Mp κ ν)(s:Int)(v:ν):Option (Mp κ ν):=(m.es.findIdx? (fun e=>decide ((e.2.2:Int)=s))).map fun i=>⟨uc m.es i v,m.fH⟩
def G2(ek:κ->List Value)(ev:ν->List D)(e:κ×ν×Nat):ur:=(ek e.1,ev e.2.1,e.2.2)
def F1(ka va:Bool)(ek:κ->List Value)(ev:ν->List D)(m:Mp κ ν):Option Ob:=some (.map ka va (m.es.map (G2 ek ev)) m.fH)
variable{ek:κ->List Value}{ev:ν->List D}{ks:List Kd}{ka va:Bool}
theorem nM[DecidableEq κ]{k:κ}:∀{l:List (κ×ν×Nat)}{i j:Nat}{e:κ×ν×Nat},jg k l i=some (j,e)->i<=j/\l[j-i]?=some e/\e.1=k:=by
 intro l;induction l with
 |nil=>intro i j e h;simp[jg]at h
 |cons x l ih=>
  intro i j e h;simp only[jg]at h;split at h
  .rename_i hk;obtain⟨rfl,rfl⟩:i=j/\x=e:=by simpa using h
   exact⟨Nat.le_refl _,by simp,hk.symm⟩
  .obtain ⟨h1,h2,h3⟩:=ih h;have e1:j-i=(j-(i+1))+1:=by omega
   exact⟨by omega,by rw[e1];simpa using h2,h3⟩
theorem Ap[DecidableEq κ](heq:∀a b,gH ks (ek a) (ek b)=some (decide (a=b)))(k:κ):∀(l:List (κ×ν×Nat))(i:Nat),oq ks (ek k) (l.map (G2 ek ev)) i=some ((jg k l i).map (·.1)):=by
 intro l;induction l with
 |nil=>intro i;rfl
 |cons x l ih=>
  intro i;simp only[aD,oq,jg];have:(G2 ek ev x).1=ek x.1:=rfl;rw[this,heq];by_cases h:k=x.1
  .simp [h]
  .simp [h,ih]
theorem Az{l:List (κ×ν×Nat)}{j:Nat}{e:κ×ν×Nat}(h:l[j]?=some e):(l.map (G2 ek ev)).getD j default=G2 ek ev e:=by simp[List.getD_eq_getElem?_getD,h]
variable{m:Mp κ ν}{z:ν}{k:κ}{zero:List Value}{tv:ν->TV}{kt:TV}{H:bD}{id nx:Nat}{c:Call}
theorem Q4[DecidableEq κ](hl:az H id=F1 ka va ek ev m)(hk:pU ka ks kt=some (ek k))(heq:∀a b,gH ks (ek a) (ek b)=some (decide (a=b)))(hz:dg zero=ev z)(hv:∀x,qn va (ev x)=some (tv x)):
  cI c (.lookup ka ks va zero false) [some (.c (.om id)),some kt] H nx=some (tv (pT m z k),[],[id],nx):=by
 have h:=Ap (ev:=ev) heq k m.es 0;simp only[cI,iX,hk,hl,F1,and_self,if_true,h];unfold pT;cases hf:jg k m.es 0 with|none=>simp only[lG,hz,hv,aO,if_false]|some p=>obtain⟨j,e⟩:=p;obtain⟨_,h2,_⟩:=nM hf;rw[mI]at h2;simp only[bK,Az h2,G2,hv,aO,if_false]
theorem OR[DecidableEq κ](hl:az H id=F1 ka va ek ev m)(hk:pU ka ks kt=some (ek k))(heq:∀a b,gH ks (ek a) (ek b)=some (decide (a=b)))(hz:dg zero=ev z)(hv:∀x,qn va (ev x)=some (tv x)):
  cI c (.lookup ka ks va zero true) [some (.c (.om id)),some kt] H nx=some (.jA [tv (pT m z k),tB (L4 m k)],[],[id],nx):=by
 have h:=Ap (ev:=ev) heq k m.es 0;simp only[cI,iX,hk,hl,F1,and_self,if_true,h];unfold pT L4;cases hf:jg k m.es 0 with|none=>simp only[lG,hz,hv,Option.isSome_none,lv]|some p=>obtain⟨j,e⟩:=p;obtain⟨_,h2,_⟩:=nM hf;rw[mI]at h2;simp only[bK,Az h2,G2,hv,Option.isSome_some,lv]
theorem Ti[DecidableEq κ](hl:az H id=F1 ka va ek ev m)(hk:pU ka ks kt=some (ek k))(heq:∀a b,gH ks (ek a) (ek b)=some (decide (a=b)))(hz:dg zero=ev z)(hv:∀x,qn va (ev x)=some (tv x)):
  cI c (.mapEntry ka ks va zero) [some (.c (.om id)),some kt] H nx=some (.jA [tv (m6 m z k).2.1,tI .i64 (m6 m z k).2.2],[(id,F1 ka va ek ev (m6 m z k).1)],[id],nx):=by
 have h:=Ap (ev:=ev) heq k m.es 0;simp only[cI,ow,hk,hl,F1,and_self,if_true,h];unfold m6;cases hf:jg k m.es 0 with|none=>simp only[lG,hz,hv,lv,List.map_append,aD,List.map_nil,G2]|some p=>obtain⟨j,e⟩:=p;obtain⟨_,h2,_⟩:=nM hf;rw[mI]at h2;simp only[bK,Az h2,G2,hv,lv]
theorem JU{ds:List D}{v:ν}(hd:ev v=ds):∀{l:List (κ×ν×Nat)}{i:Nat},i<l.length->
  (l.map (G2 ek ev)).set i (((l.map (G2 ek ev)).getD i default).1,ds,((l.map (G2 ek ev)).getD i default).2.2)=(uc l i v).map (G2 ek ev):=by
 intro l;induction l with
 |nil=>intro i h;simp at h
 |cons x l ih=>intro i h;cases i with|zero=>simp[uc,G2,hd]|succ i=>have:=ih (i:=i) (by simpa using h);simp only[aD,List.set_cons_succ,List.getD_cons_succ,uc];rw[this]
theorem Th{m':Mp κ ν}{s:Int}{v:ν}{n:Nat}{xv:TV}{kd:IntKind}(hs:wy m s v=some m')(hl:az H id=F1 ka va ek ev m)(hx:(cellsOf xv).bind AB=some (ev v))(hn:(ev v).length=n)(ha:y7 xv=va):
  cI c (.entryStore va n) [some (.c (.om id)),some (tI kd s),some xv] H nx=some (.jA [],[(id,F1 ka va ek ev m')],[id],nx):=by
 unfold wy at hs;obtain⟨i,hi,rfl⟩:=aG.1 hs;have hf:(m.es.map (G2 ek ev)).findIdx? (fun e=>decide ((e.2.2:Int)=s))=some i:=by rw[List.findIdx?_map];exact hi
 have hlt:i<m.es.length:=by obtain⟨h1,_⟩:=List.findIdx?_eq_some_iff_getElem.1 hi;exact h1
 simp only[cI,oz,cA,hx,hl,F1,hn,ha,and_self,if_true,hf,JU (ek:=ek) (ev:=ev) (v:=v) rfl hlt]
end
open Go.ChangeShapes Go.WideShapes Go.ChangeAt Go.RowKit
def S0(w:World)(b:Nat):Prop:=b<w.heap.size
def lR(w:World)(cs:List Value)(ds:List D):Prop:=cs.length=ds.length/\∀(j:Nat)(d:D)(v:Value),ds[j]?=some d->cs[j]?=some v->RD (S0 w) w d v
def sE(P:Program)(t:TypeId){α:Type}(enc:α->List D)(fit:α->Prop):Prop:=∀(H:Type)(e:TypeId×Value->H)(w:World)(fuel:Nat)(cs:List Value)(x:DataW H×List MemPlace),DataW.trod e P w 0 (fun _=>true) true fuel t cs=some x->∃a,fit a/\lR w cs (enc a)
section
variable{P:Program}{t e:TypeId}
theorem lR.one{w:World}{v:Value}{d:D}(h:RD (S0 w) w d v):lR w [v] [d]:=by refine⟨rfl,fun j d' v' hd hv=>?_⟩;cases j with|zero=>obtain rfl:=aa hd;obtain rfl:=aa hv;exact h|succ j=>simp at hd
theorem lR.yJ{w:World}{cs:List Value}{n:Nat}{a b:List D}(h1:lR w (cs.take n) a)(h2:lR w (cs.drop n) b)(hn:n<=cs.length):lR w cs (a++b):=by
 have l1:n=a.length:=by rw[<-h1.1];simp;omega
 refine⟨by have:=h1.1;have:=h2.1;simp at*;omega,fun j d v hd hv=>?_⟩;by_cases hj:j<a.length
 .rw [List.getElem?_append_left hj]at hd;exact h1.2 j d v hd (by rw[List.getElem?_take,if_pos (by omega)];exact hv)
 .rw [List.getElem?_append_right (by omega)]at hd;refine h2.2 (j-a.length) d v hd ?_;rw[List.getElem?_drop,l1,show a.length+(j-a.length)=j by omega];exact hv
theorem lR.nil{w:World}{cs:List Value}(h:cs.length=0):lR w cs []:=⟨h,fun j d v hd=>by simp at hd⟩
theorem JJ{k:IntKind}(ht:P.underlying t=some (.int k)):sE P t (fun x:Int=>[dI k x]) (fun x=>k.min<=x/\x<=k.max):=by intro H en w fuel cs x h;obtain⟨n,rfl,_,hw⟩:=DataW.trod_int ht h;exact⟨n,by simpa[Lit.wf]using hw,.one (.lit rfl)⟩
theorem GT(ht:P.underlying t=some .bool):sE P t (fun x:Bool=>[dB x]) (fun _=>True):=by intro H en w fuel cs x h;obtain⟨n,rfl,_⟩:=DataW.trod_bool ht h;exact⟨n,trivial,.one (.lit rfl)⟩
theorem CT(ht:P.underlying t=some .string):sE P t (fun x:ByteArray=>[dS x]) (fun s=>s.size<=maxLen):=by intro H en w fuel cs x h;obtain⟨n,rfl,_,hm⟩:=DataW.trod_string ht h;exact⟨n,hm,.one (.lit rfl)⟩
theorem ED{k:FloatKind}(ht:P.underlying t=some (.float k)):sE P t (fun x:Nat=>[D.lit (.float k x)]) (fun b=>(Lit.float k b).wf=true):=by
 intro H en w fuel cs x h;cases fuel with
 |zero=>simp[DataW.trod]at h
 |succ n=>
  unfold DataW.trod at h;simp only[ht]at h
  match cs,h with
  |[.float k' b],h=>
   simp only at h;split at h
   .rename_i hw;obtain⟨rfl,hw⟩:=hw;exact⟨b,hw,.one (.lit rfl)⟩
   .simp at h
theorem EC{α:Type}[Inhabited α]{enc:α->List D}{fit:α->Prop}{sz:Nat}(ht:P.underlying t=some (.slice e))(hc:P.cellsOf e=sz)(hsz:0<sz)(hlen:∀a,(enc a).length=sz)(he:sE P e enc fit):
  sE P t (fun s:Sl α=>[xl sz enc s]) (fun s=>s.l.length<=maxLen/\∀x∈s.l,fit x):=by
 intro H en w fuel cs x h;rcases Go.Deep.open_slice ht h with⟨rfl,_⟩|⟨a,len,cap,m,n,D',Pl,rfl,hb,hl,hmax,hm,_,hx⟩
 .exact ⟨.nil,⟨by simp[Sl.l],by simp[Sl.l]⟩,.one (.lit rfl)⟩
 .simp only[if_true]at hm;rw[hm]at hx;have hx':∀i,i<len->∃y,fit y/\∃cs',w.cells? 0 (a.add (i*sz)) sz=some cs'/\lR w cs' (enc y):=by intro i hi;obtain⟨cs',h1,h2⟩:=hx i (by omega);obtain⟨y,h3,h4⟩:=he H en w n cs' _ h2;rw[hc]at h1;exact⟨y,h3,cs',h1,h4⟩
  have hch:∃Y:Nat->α,∀i,i<len->fit (Y i)/\∃cs',w.cells? 0 (a.add (i*sz)) sz=some cs'/\lR w cs' (enc (Y i)):=by refine⟨fun i=>if hi:i<len then Classical.choose (hx' i hi)else default,fun i hi=>?_⟩;simp only[dif_pos hi];exact Classical.choose_spec (hx' i hi)
  obtain⟨Y,hY⟩:=hch;refine⟨.mk ((bN len).map Y),⟨by simp[Sl.l];omega,fun x hx=>?_⟩,.one ?_⟩
  .simp only[Sl.l,List.mem_map,List.mem_range]at hx;obtain⟨i,hi,rfl⟩:=hx;exact(hY i hi).1
  .simp only[xl]
   have hrow:∀(i:Nat)(r:List D),(((bN len).map Y).map enc)[i]?=some r->i<len/\r=enc (Y i):=by
    intro i r hi;rw[aK,aK]at hi;by_cases hlt:i<len
    .rw [List.getElem?_range hlt]at hi;exact⟨hlt,by simpa using hi.symm⟩
    .rw [List.getElem?_eq_none (by simp;omega)]at hi;simp at hi
   by_cases h0:cap=0
   .obtain rfl:len=0:=by omega
    subst h0;exact .uB hsz
   .have hcell:∀i,i<cap->∃cs',w.cells? 0 (a.add (i*sz)) sz=some cs':=by intro i hi;obtain⟨cs',h1,h2⟩:=hx i hi;rw[hc]at h1;exact⟨cs',h1⟩
    obtain⟨cs0,h1⟩:=hcell 0 (by omega);obtain⟨_,hl0,hc0⟩:=World.cells?_some h1;have hz:=hc0 0 hsz;rw[Nat.zero_mul]at hz;have hadd:(a.add 0).add 0=a:=by simp[Addr.add]
    rw[hadd,aB (by omega)]at hz;obtain⟨b,off,spot⟩:=a
    have hsp:spot=none/\b<w.heap.size:=by
     unfold World.cell? at hz;split at hz
     .rename_i hh;split at hz
      .simp at hz
      .rename_i hs;refine⟨by simpa using hs,(bm.1 hh).1⟩
     .simp at hz
    obtain⟨rfl,hblk⟩:=hsp
    have key:∀(i:Nat)(r:List D),(((bN len).map Y).map enc)[i]?=some r->∀(j:Nat)(x:D),r[j]?=some x->∃v,w.cell? ⟨b,off+i*sz+j,none⟩=some v/\RD (S0 w) w x v:=by
     intro i r hi j x hj;obtain⟨hlt,rfl⟩:=hrow i r hi;obtain⟨_,cs',h2,h3⟩:=hY i hlt;obtain⟨_,h4,h5⟩:=World.cells?_some h2;have hjl:j<sz:=by rw[<-hlen (Y i)];exact(ao.1 hj).1
     have h6:=h5 j hjl;rw[qO,qO,aB (by omega)]at h6;exact⟨_,h6,h3.2 j x _ hj (aB (by omega))⟩
    have hh:=RD.sl (S:=S0 w) (w:=w) (sz:=sz) (rows:=((bN len).map Y).map enc) (b:=b) (off:=off) (cap:=cap) (fun i j=>(w.cell? ⟨b,off+i*sz+j,none⟩).getD undef) hblk hsz (by simp;omega)
     (fun i r hi=>by obtain⟨_,rfl⟩:=hrow i r hi;exact hlen _) (fun i r hi j x hj=>by obtain⟨v,h2,_⟩:=key i r hi j x hj;rw[h2];rfl) (fun i r hi j x hj=>by obtain⟨v,h2,h3⟩:=key i r hi j x hj;rw[h2];exact h3)
    simpa using hh
theorem EE{H:Type}{en:TypeId×Value->H}{w:World}{fuel:Nat}{cs:List Value}{x:DataW H×List MemPlace}{fs:Array Field}(ht:P.underlying t=some (.struct fs))(h:DataW.trod en P w 0 (fun _=>true) true fuel t cs=some x){i:Nat}{f:Field}(hi:fs[i]?=some f)
  {α:Type} {enc:α->List D} {fit:α->Prop} (ho:sE P f.type enc fit):∃a,fit a/\lR w ((cs.drop f.offset).take (P.cellsOf f.type)) (enc a):=by
 obtain⟨xs,n,rfl,_,hl,hxl,hf⟩:=DataW.trod_struct ht h;have h1:=hf i f hi;have hlt:i<xs.length:=by rw[hxl];exact(bm.1 hi).1
 rw[aB hlt]at h1;exact ho H en w n _ _ h1
theorem Ge{H:Type}{en:TypeId×Value->H}{w:World}{fuel:Nat}{cs:List Value}{x:DataW H×List MemPlace}{fs:Array Field}(ht:P.underlying t=some (.struct fs))(h:DataW.trod en P w 0 (fun _=>true) true fuel t cs=some x):cs.length=P.cellsOf t:=by obtain⟨xs,n,rfl,_,hl,_⟩:=DataW.trod_struct ht h;exact hl
theorem KJ{H:Type}{en:TypeId×Value->H}{w:World}{fuel:Nat}{cs:List Value}{x:DataW H×List MemPlace}{n:Nat}(ht:P.underlying t=some (.array n e))(h:DataW.trod en P w 0 (fun _=>true) true fuel t cs=some x):cs.length=P.cellsOf t:=by obtain⟨_,_,_,_,hl,_⟩:=DataW.trod_array ht h;exact hl
theorem GS{H:Type}{en:TypeId×Value->H}{w:World}{fuel:Nat}{cs:List Value}{x:DataW H×List MemPlace}{n:Nat}(ht:P.underlying t=some (.array n e))(h:DataW.trod en P w 0 (fun _=>true) true fuel t cs=some x){i:Nat}(hi:i<n)
  {α:Type} {enc:α->List D} {fit:α->Prop} (ho:sE P e enc fit):∃a,fit a/\lR w ((cs.drop (i*P.cellsOf e)).take (P.cellsOf e)) (enc a):=by
 obtain⟨xs,m,_,_,_,hxl,hf⟩:=DataW.trod_array ht h;have h1:=hf i hi;have hlt:i<xs.length:=by omega
 rw[aB hlt]at h1;exact ho H en w m _ _ h1
theorem lR.field{w:World}{cs:List Value}{off n m:Nat}{a b:List D}(h1:lR w ((cs.drop off).take n) a)(hm:off+n=m)(h2:lR w (cs.drop m) b)(hl:m<=cs.length):lR w (cs.drop off) (a++b):=by refine lR.yJ h1 ?_ (by simp;omega);rw[List.drop_drop,hm];exact h2
theorem Bi{w:World}{r:Reach}{b:Nat}{v:Value}(h:Value.okWide P w r b t v)(hs:match P.underlying t with|some (.struct _)|some (.array _ _)|some (.interface _)|some (.func ..)|some (.chan ..)|some .unsafePointer|some (.map _ _)=>False|_=>True):one v=true:=by
 unfold Value.okWide at h;split at h
 .rename_i he;rw[he]at hs;exact hs.elim
 .rename_i he;rw[he]at hs;exact hs.elim
 .unfold Cell.okWide at h;split at h
  all_goals first
   |(rename_i he;rw[he]at hs;exact hs.elim)
   |skip
  unfold Cell.ok at h;split at h<;>first|rfl|exact h.elim
theorem TA{α:Type}{d:α->D}{fit:α->Prop}(ho:sE P t (fun a=>[d a]) fit){w:World}{r:Reach}{b:Nat}{v:Value}(hv:Value.okWide P w r b t v)
  (hs:match P.underlying t with|some (.struct _)|some (.array _ _)|some (.interface _)|some (.func ..)|some (.chan ..)|some .unsafePointer|some (.map _ _)=>False|_=>True)
  {H:Type} {en:TypeId×Value->H} {x:DataW H} {ps:List MemPlace} (h:DataW.Trod en P w 0 (fun _=>true) true t v x ps):∃a,fit a/\RA (S0 w) w (.d (d a)) v []:=by
 obtain⟨fuel,h⟩:=h;obtain⟨a,h1,h2⟩:=ho H en w fuel _ _ h;have hone:=wP (Bi hv hs);refine⟨a,h1,?_,rfl⟩;exact h2.2 0 _ v rfl (by rw[hone];rfl)
theorem Nw{α:Type}{enc:α->List D}{fit:α->Prop}(ho:sE P t enc fit){w:World}{v:Value}{aL:Array Value}(hv:v=.agg aL)
  {H:Type} {en:TypeId×Value->H} {x:DataW H} {ps:List MemPlace} (h:DataW.Trod en P w 0 (fun _=>true) true t v x ps):∃a,fit a/\RA (S0 w) w (.agg (enc a)) v []:=by
 subst hv;obtain⟨fuel,h⟩:=h;obtain⟨a,h1,h2⟩:=ho H en w fuel _ _ h;have h3:(Value.agg aL).cells.toList=aL.toList:=rfl;rw[h3]at h2;refine⟨a,h1,aL,rfl,by have:=h2.1;simpa using this.symm,fun i d hi=>?_,rfl⟩;have hlt:i<aL.size:=by have:=h2.1;have:=(ao.1 hi).1;simp at*;omega
 refine h2.2 i d _ hi ?_;rw[Array.getElem?_toList,Array.getD_eq_getD_getElem?,Array.getElem?_eq_getElem hlt];rfl
theorem PD{α:Type}{enc:α->List D}{fit:α->Prop}(ho:sE P t enc fit){w:World}{r:Reach}{b:Nat}{v:Value}(hv:Value.okWide P w r b t v){fs:Array Field}(hs:P.underlying t=some (.struct fs))
  {H:Type} {en:TypeId×Value->H} {x:DataW H} {ps:List MemPlace} (h:DataW.Trod en P w 0 (fun _=>true) true t v x ps):∃a,fit a/\RA (S0 w) w (.agg (enc a)) v []:=by
 unfold Value.okWide at hv;rw[hs]at hv;obtain⟨aL,hv,_,_⟩:=hv;exact Nw ho hv h
theorem PC{α:Type}{enc:α->List D}{fit:α->Prop}(ho:sE P t enc fit){w:World}{r:Reach}{b:Nat}{v:Value}(hv:Value.okWide P w r b t v){n:Nat}(hs:P.underlying t=some (.array n e))
  {H:Type} {en:TypeId×Value->H} {x:DataW H} {ps:List MemPlace} (h:DataW.Trod en P w 0 (fun _=>true) true t v x ps):∃a,fit a/\RA (S0 w) w (.agg (enc a)) v []:=by
 unfold Value.okWide at hv;rw[hs]at hv;obtain⟨aL,hv,_,_⟩:=hv;exact Nw ho hv h
theorem A6{H:Type}{en:TypeId×Value->H}(hl:laidOutB P=true){W W':World}{sp:Nat->Bool}:∀{ts:List TypeId}{vs:List Value}{ds:List (DataW H)}{ps:List MemPlace},ts.all (fun t=>P.readableRec t&&decide (t<P.types.size))=true->
  DataW.TrodAll en P W 0 (fun _=>true) true ts vs ds ps->(∀p∈ps,W.sameAt W' p)->(∀p∈ps,sp p.block=true)->DataW.TrodAll en P W' 0 sp true ts vs ds ps:=by
 intro ts;induction ts with
 |nil=>intro vs ds ps _ h _ _;cases vs<;>cases ds<;>exact h
 |cons t ts ih=>
  intro vs ds ps hts h hsame hsp;cases vs with
  |nil=>cases ds<;>exact h
  |cons v vs=>
   cases ds with
   |nil=>exact h
   |cons d ds=>
    obtain⟨p,q,h1,h2,rfl⟩:=h;simp only[List.all_cons,Bool.and_eq_true,decide_eq_true_eq]at hts
    exact⟨p,q,WideElems.Trod_stays hl hts.1.1 hts.1.2 h1 (fun x hx=>hsame x (aA _ hx)) (fun x hx=>hsp x (aA _ hx)),
     ih hts.2 h2 (fun x hx=>hsame x (aC _ hx)) (fun x hx=>hsp x (aC _ hx)),rfl⟩
theorem CP{P:Program}{H:Type}{enc:TypeId×Value->H}{f:Func}{s:ChangeSpec}{nc gV handsOn again:Bool}{W W':World}{args:Array Value}{v:Value}{ds gs:List (DataW H)}{fz pa pv:List MemPlace}
  (hW:DataW.Whole enc P f.params.toList s.vars nc W args.toList ds gs fz)
  (hres:∀(b:Nat)(sp:Nat->Bool)(hd:Bool),DataW.TrodAll enc P W' b sp hd f.resultTypes.toList (v.resultList f.resultTypes.size) (s.fn H (ds++gs)).results [])
  (hargs:∀sp:Nat->Bool,(∀p∈fz,sp p.block=true)->DataW.TrodAll enc P W' 0 sp true f.params.toList args.toList (s.fn H (ds++gs)).args pa)
  (hvars:∀sp:Nat->Bool,(∀p∈fz,sp p.block=true)->DataW.TrodVars enc P W' sp s.vars (s.fn H (ds++gs)).vars pv)
  (hps:fz=pa++pv) (hk:W.keptBut W' (·∈fz)) (hfz:∀a,a.block<W.heap.size->W'.frozen? a=W.frozen? a)
  (hok:∀(j:Nat)(t:TypeId)(r:Value),f.resultTypes[j]?=some t->(v.resultList f.resultTypes.size)[j]?=some r->Value.okWide P W' .any 0 t r):
  s.post enc P f nc gV handsOn again W args v W':=by
 have hold:∀p∈fz,(fun b=>decide (b<W.heap.size)) p.block=true:=fun p hp=>by simpa using hW.lt p hp
 refine⟨ds,gs,fz,[],pa,pv,hW,hres _ _ _,hargs _ hold,hvars _ hold,World.keptBut_mono (fun p hp=>⟨hp,?_⟩) hk,fun _=>?_⟩
 .rw [hps,List.mem_append]at hp;exact Or.inr hp
 .have hlt:=fun p hp=>hW.lt p hp;obtain⟨_,_,_,_,_,hz,hn⟩:=hW;refine⟨hok,_,_,([]++pa)++pv,⟨[]++pa,pv,trodAll_append (hargs _ (fun _ _=>rfl)) (hres _ _ _),hvars _ (fun _ _=>rfl),rfl,?_,?_⟩,?_⟩
  .intro b off hp;rw[hfz _ (hlt _ (by rw[hps];simpa using hp))];exact hz b off (by rw[hps];simpa using hp)
  .intro ha;have:=hn ha;rw[hps]at this;simpa using this
  .intro p hp _;rw[hps];simpa using hp
theorem Nd{f:FuncId}{fn:Func}{s:ChangeSpec}{nc gV handsOn again:Bool}{tb:TypeId}{H:Type}{en:TypeId×Value->H}(hl:laidOutB P=true)(hfn:P.funcs[f]?=some fn)(hbody:fn.body.isSome=true)(hname:(fn.name== "runtime.NumGoroutine")=false)
  (hts:fn.params.toList.all (fun t=>P.readableRec t&&decide (t<P.types.size))=true) (hrt:fn.resultTypes= #[tb]) (htb:P.underlying tb=some .bool) (hvars:s.vars=[])
  {W:World} {args:Array Value} {ds gs:List (DataW H)} {fz:List MemPlace} (hW:DataW.Whole en P fn.params.toList s.vars nc W args.toList ds gs fz)
  (hspec:(s.fn H (ds++gs)).results=[.lit (.bool true)]/\(s.fn H (ds++gs)).args=ds/\(s.fn H (ds++gs)).vars=[])
  (hgl:DB (S0 W) W) (hG:∃as,NP (S0 W) W as args.toList []/\AW P f as [.c (.d (.lit (.bool true)))] []):
  Calls P f args W fun e W'=>∃v,e=.returned v/\s.post en P fn nc gV handsOn again W args v W':=by
 obtain⟨as,hras,hgood⟩:=hG;have hent:=hgood (S0 W) W args.toList [] (fun b hb=>hb) hras List.nodup_nil (fun b hb=>by simp at hb) hgl;have hcall:(callFunc f args).run P W=.ok (.enter f args) W:=by have hb:∃c,fn.body=some c:=Option.isSome_iff_exists.1 hbody;obtain⟨c,hb⟩:=hb;simp[callFunc,run_program,hfn,hb];intro e;rw[e]at hname;simp at hname
 rw[Array.toArray_toList]at hent;rcases hent with⟨g,as',h1,h2⟩|⟨v,h1,_⟩
 .rw [hcall]at h1;obtain⟨⟨rfl,rfl⟩,_⟩:(f=g/\args=as')/\True:=by simpa using h1
  refine h2.mono fun e W' hp=>?_;obtain⟨v,rfl,S',lX,fp1,fp2,rfl,eE,hsub,hlt,hrr,hrt',hnd,hb,hfrm⟩:=hp
  have hv:zN lX=.bool true:=by
   cases lX with
   |nil=>exact hrr.elim
   |cons v lX=>
    obtain⟨f1,f2,_,h3,h4⟩:=hrr;cases lX with
    |cons _ _=>exact h4.elim
    |nil=>cases h3 with|d h5=>cases h5;rfl
  refine⟨_,rfl,?_⟩;rw[hv];have hheap:∀b,b<W.heap.size->W'.heap[b]?=W.heap[b]?:=fun b hb=>eE.same b hb;obtain⟨p,q,hA,hV,hpq,hfz,hno⟩:=id hW;have hV':DataW.TrodVars en P W (fun _=>true) [] gs q:=by rw[<-hvars];exact hV
  obtain⟨rfl,rfl⟩:=trodVars_none hV'
  have hkept:∀may:MemPlace->Prop,W.keptBut W' may:=by
   intro may;refine⟨hfrm.io.1,hfrm.io.2.1,fun i hi=>?_⟩;have:=hheap i hi;rw[this];cases hx:W.heap[i]?with
   |none=>trivial
   |some o=>cases o<;>simp
  refine CP (pa:=fz) (pv:=[]) hW (fun _ _ _=>?_) (fun sp hsp=>?_) (fun _ _=>?_) (by simp) (hkept _) hfrm.B5 ?_
  .rw [hspec.1,hrt];exact trodAll_cons_mk (shut_bool htb _) trodAll_mk0
  .rw [hspec.2.1];have hbp:fz=p:=by rw[hpq,List.append_nil]
   refine A6 hl hts (by rw[hbp];exact hA) (fun x hx=>?_) hsp;have hx':=hW.lt x hx;have hs:=hheap x.block hx';cases x with|cell b off=>exact nD hs off|map b=>exact hs
  .rw [hspec.2.2,hvars];rfl
  .exact ok_one hrt rfl (okWide_bool_mk htb _)
 .rw [hcall]at h1;simp at h1
end
theorem J_{S:Nat->Prop}{w:World}(h:∀g,Ta g=none):DB S w:=fun g d hg=>by rw[h g]at hg;simp at hg
end Go.Ev
