/- Typed data P8 the abstract machine, and what its operations do to it. Conditions: as stated. -/
import Derived.Test.YthcplpfiidlinaaDoorEvW
import Derived.OpenShut
import Derived.WideKeyArgs
import Derived.Deep.Slices
import Derived.ProofKit
import Derived.WalkKit
import Derived.JoinedCond
noncomputable section
open Array renaming getElem?_eq_some_iff->bh
open BitVec renaming ofInt->bA
open Bool renaming false_eq_true->aS
open List renaming getD->lM,getD_eq_getElem?_getD->cI,getElem?_eq_getElem->aw,getElem?_eq_some_iff->ak,getElem?_map->aG,length_map->aN,length_nil->kC,map_cons->aB,map_drop->gz,map_take->hZ,mem_append_left->aF,mem_append_right->aH,range->aK
open Nat renaming sub_zero->kp
open Option renaming map_eq_some_iff->aE,map_none->kA,map_some->bM
open Option.some renaming inj->aa,injEq->bm
namespace Go.Ev
inductive Sl(α:Type)where
 |nil
 |mk (l:List α)
 deriving Inhabited,DecidableEq
def Sl.l{α:Type}:Sl α->List α
 |.nil=>[]
 |.mk l=>l
@[simp] theorem Sl.iO {α:Type} (l:List α):(Sl.mk l).l=l:=rfl
@[simp] theorem Sl.Lv {α:Type}:(Sl.nil:Sl α).l=[]:=rfl
def Sl.fQ{α:Type}:Sl α->Bool
 |.nil=>true
 |.mk _=>false
abbrev dI(k:IntKind)(n:Int):D:=.lit (.int k n)
abbrev dB(b:Bool):D:=.lit (.bool b)
abbrev dS(s:ByteArray):D:=.lit (.string s)
abbrev tI(k:IntKind)(n:Int):TV:=.c (.d (.lit (.int k n)))
abbrev tB(b:Bool):TV:=.c (.d (.lit (.bool b)))
def BI{α:Type}(sz:Nat)(enc:α->List D):Sl α->D
 |.nil=>.lit (.slice none 0 0)
 |.mk l=>.sl sz (l.map enc)
def mU{α:Type}(sz:Nat)(enc:α->List D)(id:Nat):Sl α->C
 |.nil=>.d (.lit (.slice none 0 0))
 |.mk l=>.fq sz id 0 (l.map enc).length
def zU{α:Type}(sz:Nat)(enc:α->List D):Sl α->T
 |.nil=>.d (.lit (.slice none 0 0))
 |.mk l=>.sl sz (l.map enc)
abbrev wr(k:IntKind)(n:Int):Int:=k.wrap n
def HO(k:IntKind)(a b:Int):Int:=k.wrap (bA k.bits a&&&bA k.bits b).toNat
def PA:{f:IntKind->Int->Int->Int//f=HO}:=Classical.choice ⟨⟨_,rfl⟩⟩
def JR(k:IntKind)(a b:Int):Int:=PA.1 k a b
theorem xO:JR=HO:=funext fun k=>funext fun a=>funext fun b=>congrFun (congrFun (congrFun PA.2 k) a) b
def OR(k:IntKind)(a b:Int):Int:=k.wrap (bA k.bits a|||bA k.bits b).toNat
def SG:{f:IntKind->Int->Int->Int//f=OR}:=Classical.choice ⟨⟨_,rfl⟩⟩
def RB(k:IntKind)(a b:Int):Int:=SG.1 k a b
theorem Cm:RB=OR:=funext fun k=>funext fun a=>funext fun b=>congrFun (congrFun (congrFun SG.2 k) a) b
def Py(k:IntKind)(a b:Int):Int:=k.wrap (bA k.bits a^^^bA k.bits b).toNat
def Px:{f:IntKind->Int->Int->Int//f=Py}:=Classical.choice ⟨⟨_,rfl⟩⟩
def Q9(k:IntKind)(a b:Int):Int:=Px.1 k a b
theorem OQ:Q9=Py:=funext fun k=>funext fun a=>funext fun b=>congrFun (congrFun (congrFun Px.2 k) a) b
def s_(k:IntKind)(a b:Int):Int:=k.wrap (bA k.bits a&&&~~~bA k.bits b).toNat
def Ew:{f:IntKind->Int->Int->Int//f=s_}:=Classical.choice ⟨⟨_,rfl⟩⟩
def rL(k:IntKind)(a b:Int):Int:=Ew.1 k a b
theorem uO:rL=s_:=funext fun k=>funext fun a=>funext fun b=>congrFun (congrFun (congrFun Ew.2 k) a) b
def UR(k:IntKind)(a:Int):Int:=k.wrap (bA k.bits (if k.signed then-1 else k.max)^^^bA k.bits a).toNat
def Q_(k:IntKind)(a b:Int):Int:=k.wrap (a*2^(min b.toNat k.bits))
def JQ(k:IntKind)(a b:Int):Int:=a.fdiv (2^(min b.toNat k.bits))
def QS(k:IntKind)(a b:Int):Option Int:=if b=0 then none else some (k.wrap (a.tdiv b))
def P5(_:IntKind)(a b:Int):Option Int:=if b=0 then none else some (a.tmod b)
def ye(k:IntKind)(a b:Int):Option Int:=if b<0 then none else some (Q_ k a b)
def PZ(k:IntKind)(a b:Int):Option Int:=if b<0 then none else some (JQ k a b)
def Q2(a b:ByteArray):Option ByteArray:=if((a.size+b.size:Nat):Int)>IntKind.i64.max then none else some (a++b)
def US(s:ByteArray)(i:Int):Option Int:=if 0<=i then s[i.toNat]?.map fun b=>(b.toNat:Int)else none
def zT(s:ByteArray)(lo hi:Int):Option ByteArray:=if 0<=lo/\lo<=hi/\hi<=s.size then some (s.extract lo.toNat hi.toNat)else none
def zL{α:Type}(z:α)(l c:Int):Option (List α):=if 0<=l/\l<=c/\c<=2147483648 then some (List.replicate l.toNat z)else none
def Sl.to{α:Type}(s:Sl α)(r:List α):Sl α:=match s with|.nil=>.nil|.mk _=>.mk r
section
variable{c:Ev.Call}{H:bH}{nx:Nat}{k:IntKind}{a b x:Int}{s t u:ByteArray}
theorem QJ(h:QS k a b=some x):cQ c (.Ao .quo) [some (tI k a),some (tI k b)] H nx=some (tI k x,[],[],nx):=by
 unfold QS at h;split at h
 .simp at h
 .rename_i hb;obtain rfl:=aa h;simp[cQ,sg,hb,lv]
theorem QI(h:P5 k a b=some x):cQ c (.Ao .rem) [some (tI k a),some (tI k b)] H nx=some (tI k x,[],[],nx):=by
 unfold P5 at h;split at h
 .simp at h
 .rename_i hb;obtain rfl:=aa h;simp[cQ,sg,hb,lv]
theorem QH{k2:IntKind}(h:ye k a b=some x):cQ c (.Ao .shl) [some (tI k a),some (tI k2 b)] H nx=some (tI k x,[],[],nx):=by
 unfold ye at h;split at h
 .simp at h
 .rename_i hb;obtain rfl:=aa h;simp[cQ,sg,hb,lv,Q_]
theorem QG{k2:IntKind}(h:PZ k a b=some x):cQ c (.Ao .shr) [some (tI k a),some (tI k2 b)] H nx=some (tI k x,[],[],nx):=by
 unfold PZ at h;split at h
 .simp at h
 .rename_i hb;obtain rfl:=aa h;simp[cQ,sg,hb,lv,JQ]
theorem QK(h:Q2 s t=some u):cQ c (.Ao .add) [some (.c (.d (dS s))),some (.c (.d (dS t)))] H nx=some (.c (.d (dS u)),[],[],nx):=by
 unfold Q2 at h;split at h
 .simp at h
 .rename_i hb;obtain rfl:=aa h;simp only[cQ,sg];rw[if_neg hb];rfl
theorem So(h:US s a=some x):cQ c .pD [some (.c (.d (dS s))),some (tI k a)] H nx=some (tI .u8 x,[],[],nx):=by
 unfold US at h;split at h
 .rename_i ha;obtain⟨y,hy,rfl⟩:=aE.1 h;simp only[cQ,cE];rw[if_pos ha,hy];rfl
 .simp at h
end
def e9(i:Int)(n:Nat):Option Nat:=if 0<=i/\i<n then some i.toNat else none
theorem gB{i:Int}{n m:Nat}:e9 i n=some m<->i=m/\m<n:=by
 unfold e9;split
 .simp only[bm];omega
 .simp only[reduceCtorEq,false_iff];omega
theorem bq{i n:Nat}(h:i<n):e9 (i:Int) n=some i:=gB.2 ⟨rfl,h⟩
def gt{α:Type}[Inhabited α](l:List α)(n:Nat):α:=l.getD n default
theorem QB{α:Type}[Inhabited α]{l:List α}{n:Nat}(h:n<l.length):l[n]?=some (gt l n):=by simp[gt,lM,h]
theorem cR{α:Type}[Inhabited α]{l:List α}{n:Nat}(h:n<l.length):gt l n=l[n]:=by simp[gt,lM,h]
theorem rz{α:Type}[Inhabited α]{l:List α}{n:Nat}{enc:α->List D}(h:n<l.length):(l.map enc)[n]?=some (enc (gt l n)):=by rw[aG,QB h];rfl
def iH{α:Type}(l:List α):Option (List α):=if l.length<=2147483648 then some l else none
theorem wK{α:Type}{l m:List α}:iH l=some m<->l=m/\l.length<=2147483648:=by
 unfold iH;split
 .simp_all
 .rename_i hl;simp only[reduceCtorEq,false_iff,not_and];rintro rfl;omega
theorem ik{α:Type}{l:List α}(h:l.length<=2147483648):iH l=some l:=wK.2 ⟨rfl,h⟩
def qu{α:Type}(l:List α)(lo hi:Int):Option (List α):=if 0<=lo/\lo<=hi/\hi<=l.length then some ((l.drop lo.toNat).take (hi.toNat-lo.toNat))else none
theorem rK{α β:Type}{x:Option α}{f:α->Option β}{r:β}(h:x.bind f=some r):∃a,x=some a/\f a=some r:=Option.bind_eq_some_iff.1 h
theorem vy{α:Type}{l:List α}{enc:α->List D}:((l.map enc).drop 0).take (l.map enc).length=l.map enc:=by rw[List.drop_zero,List.take_length]
theorem OE{α:Type}{l:List α}{enc:α->List D}{a b:Nat}:((l.map enc).drop a).take b=((l.drop a).take b).map enc:=by rw[hZ,gz]
section
variable{α:Type}{c:Ev.Call}{H:bH}{nx sz id off len m n:Nat}{k:IntKind}{i:Int}{enc:α->List D}{s:Sl α}{l:List α}{agg:Bool}{v:TV}
theorem UZ{k:Nat}(hl:aC H id=some (.aM sz (l.map enc))):eK H k (.fq sz id 0 (l.map enc).length)=some (.sl sz (l.map enc),[id],[id]):=by
 have:eK H k (.fq sz id 0 (l.map enc).length)=(if 0+(l.map enc).length<=(l.map enc).length then some (.sl sz (((l.map enc).drop 0).take (l.map enc).length),[id],[id])else none):=by cases k<;>simp only[eK,hl]
 rw[this,if_pos (by omega),vy]
theorem QW{lo hi:Int}{r:List α}(hc:qu l lo hi=some r):lo.toNat+(r.map enc).length<=(l.map enc).length/\((l.map enc).drop lo.toNat).take (r.map enc).length=r.map enc:=by
 unfold qu at hc;split at hc
 .rename_i h;obtain rfl:=aa hc;refine⟨by simp;omega,?_⟩;rw[OE];congr 1;simp
 .simp at hc
theorem SY{bv rd:List Nat}{r:List (C×List Nat×List Nat)}(hl:aC H id=some (.aM sz (l.map enc)))(h:eM H r=true):eM H ((.fq sz id 0 (l.map enc).length,bv,rd)::r)=true:=by simp[eM,hl,h]
theorem Sg[Inhabited α](h:e9 i s.l.length=some n):cQ c (.indexAddr none sz) [some (.c (.d (BI sz enc s))),some (tI k i)] H nx=some (.c (.d (.pt (enc (gt s.l n)))),[],[],nx):=by obtain⟨rfl,hn⟩:=gB.1 h;cases s with|nil=>simp[Sl.l]at hn|mk l=>have hn':n<l.length:=hn;simp only[cQ,cE,iL,BI,Int.natCast_nonneg,and_self,if_true,Int.toNat_natCast];rw[rz hn'];rfl
theorem UI(h:e9 i l.length=some n):cQ c (.indexAddr none sz) [some (.c (.fq sz id 0 (l.map enc).length)),some (tI k i)] H nx=some (.c (.ep id n 0),[],[],nx):=by obtain⟨rfl,hn⟩:=gB.1 h;simp only[cQ,cE,iL,aN];rw[if_pos (by refine⟨by omega,by omega,?_⟩;trivial)];simp
theorem Si(h:e9 i l.length=some n):cQ c (.indexAddr none sz) [some (.c (.fq sz id off (l.map enc).length)),some (tI k i)] H nx=some (.c (.ep id (off+n) 0),[],[],nx):=by obtain⟨rfl,hn⟩:=gB.1 h;simp only[cQ,cE,iL,aN];rw[if_pos (by refine⟨by omega,by omega,?_⟩;trivial)];simp
theorem LB{X:Prop}(h:e9 i (Sl.l (Sl.nil:Sl α)).length=some n):X:=by obtain⟨_,hn⟩:=gB.1 h;simp[Sl.l]at hn
theorem NB[Inhabited α]{cs:List C}{ds:List D}{aD:List Nat}{u:fL}{y:α}(hl:aC H id=some (.aM sz (l.map enc)))(hn:n<l.length)(hc:cellsOf v=some cs)(hm:cs.length=m)(hw:gp H cs=some (ds,aD))(hf:fh H aD aD=some u)
  (hid:aD.contains id=false) (hlen:off+m<=(enc (gt l n)).length)
  (hy:aV (enc (gt l n)) off ds=enc y):cQ c (.store m) [some (.c (.ep id n off)),some v] H nx=some (.iS [],(id,some (.aM sz ((l.set n y).map enc)))::u,id::aD,nx):=by
 simp only[cQ,mn,hc,hm,if_true,hl,rz hn,hw,hf];rw[if_pos ⟨hlen,hid⟩,hy,List.map_set]
theorem Qw:cQ c (.len false) [some (.c (.d (BI sz enc s)))] H nx=some (tI .i64 s.l.length,[],[],nx):=by cases s with|nil=>rfl|mk l=>simp[cQ,ug,BI,Sl.l,lv]
theorem Pj:cQ c (.len false) [some (.c (mU sz enc id s))] H nx=some (tI .i64 s.l.length,[],[],nx):=by cases s with|nil=>rfl|mk l=>simp[cQ,ug,mU,Sl.l,lv]
theorem Qn{neg:Bool}:cQ c (.qQ 0 neg) [some (.c (.d (BI sz enc s)))] H nx=some (tB (if neg then !s.fQ else s.fQ),[],[],nx):=by cases s<;>rfl
theorem Sf{neg:Bool}:cQ c (.qQ 0 neg) [some (.c (mU sz enc id s))] H nx=some (tB (if neg then !s.fQ else s.fQ),[],[],nx):=by cases s<;>rfl
theorem NM:jj sz H (.d (BI sz enc s))=some (s.l.map enc,[]):=by cases s with|nil=>rfl|mk l=>simp[jj,BI,Sl.l]
theorem nX{l r:List α}{lo hi:Int}:qu l lo hi=some r<->(0<=lo/\lo<=hi/\hi<=l.length)/\(l.drop lo.toNat).take (hi.toNat-lo.toNat)=r:=by
 unfold qu;split
 .rename_i h;simp[h]
 .rename_i h;simp[h]
theorem SD{lo hi:Option Int}{r:List α}(hc:qu l (lo.getD 0) (hi.getD l.length)=some r):fU false sz (.fq sz id 0 (l.map enc).length) lo hi=some (.fq sz id (lo.getD 0).toNat (r.map enc).length):=by obtain⟨h,rfl⟩:=nX.1 hc;simp only[fU,aS,if_false,aN];rw[if_pos ⟨trivial,h⟩];simp;omega
theorem QU{lo hi:Option Int}{r:List α}(hc:qu s.l (lo.getD 0) (hi.getD s.l.length)=some r):fU false sz (.d (BI sz enc s)) lo hi=some (.d (BI sz enc (s.to r))):=by obtain⟨h,rfl⟩:=nX.1 hc;cases s with|nil=>simp only[Sl.l,kC]at h;simp only[fU,BI,aS,if_false];rw[if_pos ⟨h.1,h.2.1,by simpa using h.2.2⟩];rfl|mk l=>simp only[Sl.l]at h|-;simp only[fU,BI,aS,if_false,aN];rw[if_pos ⟨trivial,h.1,h.2.1,h.2.2⟩];simp[hZ,gz,Sl.to]
theorem Mx{lo hi:Option Int}{r:List α}(hc:qu (Sl.l (Sl.nil:Sl α)) (lo.getD 0) (hi.getD (Sl.l (Sl.nil:Sl α)).length)=some r):fU false sz (.d (.lit (.slice none 0 0))) lo hi=some (.d (.lit (.slice none 0 0))):=by obtain⟨h,rfl⟩:=nX.1 hc;simp only[Sl.l,kC]at h;simp only[fU,aS,if_false];rw[if_pos ⟨h.1,h.2.1,by simpa using h.2.2⟩]
section
variable{r:List α}{i j:Int}{k k2:IntKind}
def ME(l:List α)(off n:Nat)(x:List α):List α:=aV l off (x.take n)
theorem Gp{off n:Nat}{x:List α}:aV (l.map enc) off ((x.map enc).take n)=(ME l off n x).map enc:=by simp[ME,aV]
theorem QX{xc:C}{x:List α}{aD:List Nat}(hl:aC H id=some (.aM sz (l.map enc)))(hx:jj sz H xc=some (x.map enc,aD)):
  cQ c (.copy sz) [some (.c (.fq sz id 0 (l.map enc).length)),some (.c xc)] H nx=some (tI .i64 (min x.length l.length:Nat),[(id,some (.aM sz ((ME l 0 l.length x).map enc)))],id::aD,nx):=by
 simp only[cQ,my,hx,hl];rw[if_pos ⟨trivial,by simp⟩];simp only[Gp,aN];rfl
theorem uM{off n:Nat}{x:List α}(h:off+n<=l.length):(ME l off n x).length=l.length:=eO _ _ _ (by simp only[List.length_take];omega)
def FW(a b:List α):Option Unit:=if a.length=b.length then some ()else none
theorem I7{a b:List α}{u:Unit}:FW a b=some u<->a.length=b.length:=by unfold FW;split<;>simp_all
theorem Oy{z:α}{zero:List Value}{n m:Int}(hz:cF zero=enc z)(h:zL z n m=some l):cQ c (.makeSlice zero) [some (tI k n),some (tI k2 m)] H nx=some (.c (.fq zero.length nx 0 (l.map enc).length),[(nx,some (.aM zero.length (l.map enc)))],[],nx+1):=by
 unfold zL at h;split at h
 .rename_i hb;obtain rfl:=aa h;simp only[cQ,cE];rw[if_pos (by simpa[DN]using hb),hz];simp
 .simp at h
end
end
structure Mp(K V:Type)where
 es:List (K×V×Nat)
 fk:Nat
def Mp.none{K V:Type}:Mp K V:=⟨[],0⟩
instance{K V:Type}:Inhabited (Mp K V):=⟨.none⟩
section
variable{κ ν:Type}
def iF[DecidableEq κ](k:κ):List (κ×ν×Nat)->Nat->Option (Nat×κ×ν×Nat)
 |[],_=>none
 |e::r,i=>if k=e.1 then some (i,e)else iF k r (i+1)
def oV[DecidableEq κ](m:Mp κ ν)(z:ν)(k:κ):ν:=match iF k m.es 0 with|some (_,e)=>e.2.1|none=>z
def Lc[DecidableEq κ](m:Mp κ ν)(k:κ):Bool:=(iF k m.es 0).isSome
def l5[DecidableEq κ](m:Mp κ ν)(z:ν)(k:κ):Mp κ ν×ν×Int:=match iF k m.es 0 with|some (_,e)=>(m,e.2.1,e.2.2)|none=>(⟨m.es++[(k,z,m.fk)],m.fk+1⟩,z,m.fk)
def sK:List (κ×ν×Nat)->Nat->ν->List (κ×ν×Nat)
 |[],_,_=>[]
 |e::r,0,v=>(e.1,v,e.2.2)::r
 |e::r,i+1,v=>e::sK r i v
def vg(m:Mp κ ν)(s:Int)(v:ν):Option (Mp κ ν):=(m.es.findIdx? (fun e=>decide ((e.2.2:Int)=s))).map fun i=>⟨sK m.es i v,m.fk⟩
def FQ(ek:κ->List Value)(ev:ν->List D)(e:κ×ν×Nat):tg:=(ek e.1,ev e.2.1,e.2.2)
def EM(ka va:Bool)(ek:κ->List Value)(ev:ν->List D)(m:Mp κ ν):Option Ob:=some (.map ka va (m.es.map (FQ ek ev)) m.fk)
variable{ek:κ->List Value}{ev:ν->List D}{ks:List Kd}{ka va:Bool}
theorem mH[DecidableEq κ]{k:κ}:∀{l:List (κ×ν×Nat)}{i j:Nat}{e:κ×ν×Nat},iF k l i=some (j,e)->i<=j/\l[j-i]?=some e/\e.1=k:=by
 intro l;induction l with
 |nil=>intro i j e h;simp[iF]at h
 |cons x l ih=>
  intro i j e h;simp only[iF]at h;split at h
  .rename_i hk;obtain⟨rfl,rfl⟩:i=j/\x=e:=by simpa using h
   exact⟨Nat.le_refl _,by simp,hk.symm⟩
  .obtain ⟨h1,h2,h3⟩:=ih h;have e1:j-i=(j-(i+1))+1:=by omega
   exact⟨by omega,by rw[e1];simpa using h2,h3⟩
theorem zf[DecidableEq κ](heq:∀a b,gJ ks (ek a) (ek b)=some (decide (a=b)))(k:κ):∀(l:List (κ×ν×Nat))(i:Nat),m9 ks (ek k) (l.map (FQ ek ev)) i=some ((iF k l i).map (·.1)):=by
 intro l;induction l with
 |nil=>intro i;rfl
 |cons x l ih=>
  intro i;simp only[aB,m9,iF];have:(FQ ek ev x).1=ek x.1:=rfl;rw[this,heq];by_cases h:k=x.1
  .simp [h]
  .simp [h,ih]
theorem zm{l:List (κ×ν×Nat)}{j:Nat}{e:κ×ν×Nat}(h:l[j]?=some e):(l.map (FQ ek ev)).getD j default=FQ ek ev e:=by simp[cI,h]
variable{m:Mp κ ν}{z:ν}{k:κ}{zero:List Value}{tv:ν->TV}{kt:TV}{H:bH}{id nx:Nat}{c:Call}
theorem Qq[DecidableEq κ](hl:aC H id=EM ka va ek ev m)(hk:oW ka ks kt=some (ek k))(heq:∀a b,gJ ks (ek a) (ek b)=some (decide (a=b)))(hz:cF zero=ev z)(hv:∀x,pm va (ev x)=some (tv x)):
  cQ c (.lookup ka ks va zero false) [some (.c (.om id)),some kt] H nx=some (tv (oV m z k),[],[id],nx):=by
 have h:=zf (ev:=ev) heq k m.es 0;simp only[cQ,iA,hk,hl,EM,and_self,if_true,h];unfold oV;cases hf:iF k m.es 0 with|none=>simp only[kA,hz,hv,aS,if_false]|some p=>obtain⟨j,e⟩:=p;obtain⟨_,h2,_⟩:=mH hf;rw[kp]at h2;simp only[bM,zm h2,FQ,hv,aS,if_false]
theorem Of[DecidableEq κ](hl:aC H id=EM ka va ek ev m)(hk:oW ka ks kt=some (ek k))(heq:∀a b,gJ ks (ek a) (ek b)=some (decide (a=b)))(hz:cF zero=ev z)(hv:∀x,pm va (ev x)=some (tv x)):
  cQ c (.lookup ka ks va zero true) [some (.c (.om id)),some kt] H nx=some (.iS [tv (oV m z k),tB (Lc m k)],[],[id],nx):=by
 have h:=zf (ev:=ev) heq k m.es 0;simp only[cQ,iA,hk,hl,EM,and_self,if_true,h];unfold oV Lc;cases hf:iF k m.es 0 with|none=>simp only[kA,hz,hv,Option.isSome_none,lv]|some p=>obtain⟨j,e⟩:=p;obtain⟨_,h2,_⟩:=mH hf;rw[kp]at h2;simp only[bM,zm h2,FQ,hv,Option.isSome_some,lv]
theorem Sr[DecidableEq κ](hl:aC H id=EM ka va ek ev m)(hk:oW ka ks kt=some (ek k))(heq:∀a b,gJ ks (ek a) (ek b)=some (decide (a=b)))(hz:cF zero=ev z)(hv:∀x,pm va (ev x)=some (tv x)):
  cQ c (.mapEntry ka ks va zero) [some (.c (.om id)),some kt] H nx=some (.iS [tv (l5 m z k).2.1,tI .i64 (l5 m z k).2.2],[(id,EM ka va ek ev (l5 m z k).1)],[id],nx):=by
 have h:=zf (ev:=ev) heq k m.es 0;simp only[cQ,nf,hk,hl,EM,and_self,if_true,h];unfold l5;cases hf:iF k m.es 0 with|none=>simp only[kA,hz,hv,lv,List.map_append,aB,List.map_nil,FQ]|some p=>obtain⟨j,e⟩:=p;obtain⟨_,h2,_⟩:=mH hf;rw[kp]at h2;simp only[bM,zm h2,FQ,hv,lv]
theorem IU{ds:List D}{v:ν}(hd:ev v=ds):∀{l:List (κ×ν×Nat)}{i:Nat},i<l.length->
  (l.map (FQ ek ev)).set i (((l.map (FQ ek ev)).getD i default).1,ds,((l.map (FQ ek ev)).getD i default).2.2)=(sK l i v).map (FQ ek ev):=by
 intro l;induction l with
 |nil=>intro i h;simp at h
 |cons x l ih=>intro i h;cases i with|zero=>simp[sK,FQ,hd]|succ i=>have:=ih (i:=i) (by simpa using h);simp only[aB,List.set_cons_succ,List.getD_cons_succ,sK];rw[this]
theorem Sq{m':Mp κ ν}{s:Int}{v:ν}{n:Nat}{xv:TV}{kd:IntKind}(hs:vg m s v=some m')(hl:aC H id=EM ka va ek ev m)(hx:(cellsOf xv).bind zo=some (ev v))(hn:(ev v).length=n)(ha:xJ xv=va):
  cQ c (.entryStore va n) [some (.c (.om id)),some (tI kd s),some xv] H nx=some (.iS [],[(id,EM ka va ek ev m')],[id],nx):=by
 unfold vg at hs;obtain⟨i,hi,rfl⟩:=aE.1 hs;have hf:(m.es.map (FQ ek ev)).findIdx? (fun e=>decide ((e.2.2:Int)=s))=some i:=by rw[List.findIdx?_map];exact hi
 have hlt:i<m.es.length:=by obtain⟨h1,_⟩:=List.findIdx?_eq_some_iff_getElem.1 hi;exact h1
 simp only[cQ,ng,cE,hx,hl,EM,hn,ha,and_self,if_true,hf,IU (ek:=ek) (ev:=ev) (v:=v) rfl hlt]
end
open Go.ChangeShapes Go.WideShapes Go.ChangeAt Go.RowKit
def S0(w:World)(b:Nat):Prop:=b<w.heap.size
def kU(w:World)(cs:List Value)(ds:List D):Prop:=cs.length=ds.length/\∀(j:Nat)(d:D)(v:Value),ds[j]?=some d->cs[j]?=some v->RD (S0 w) w d v
def qV(P:Program)(t:TypeId){α:Type}(enc:α->List D)(fit:α->Prop):Prop:=∀(H:Type)(e:TypeId×Value->H)(w:World)(fuel:Nat)(cs:List Value)(x:DataW H×List MemPlace),DataW.trod e P w 0 (fun _=>true) true fuel t cs=some x->∃a,fit a/\kU w cs (enc a)
section
variable{P:Program}{t e:TypeId}
theorem kU.one{w:World}{v:Value}{d:D}(h:RD (S0 w) w d v):kU w [v] [d]:=by refine⟨rfl,fun j d' v' hd hv=>?_⟩;cases j with|zero=>obtain rfl:=aa hd;obtain rfl:=aa hv;exact h|succ j=>simp at hd
theorem kU.RE{w:World}{cs:List Value}{n:Nat}{a b:List D}(h1:kU w (cs.take n) a)(h2:kU w (cs.drop n) b)(hn:n<=cs.length):kU w cs (a++b):=by
 have l1:n=a.length:=by rw[<-h1.1];simp;omega
 refine⟨by have:=h1.1;have:=h2.1;simp at*;omega,fun j d v hd hv=>?_⟩;by_cases hj:j<a.length
 .rw [List.getElem?_append_left hj]at hd;exact h1.2 j d v hd (by rw[List.getElem?_take,if_pos (by omega)];exact hv)
 .rw [List.getElem?_append_right (by omega)]at hd;refine h2.2 (j-a.length) d v hd ?_;rw[List.getElem?_drop,l1,show a.length+(j-a.length)=j by omega];exact hv
theorem kU.nil{w:World}{cs:List Value}(h:cs.length=0):kU w cs []:=⟨h,fun j d v hd=>by simp at hd⟩
theorem IJ{k:IntKind}(ht:P.underlying t=some (.int k)):qV P t (fun x:Int=>[dI k x]) (fun x=>k.min<=x/\x<=k.max):=by intro H en w fuel cs x h;obtain⟨n,rfl,_,hw⟩:=DataW.trod_int ht h;exact⟨n,by simpa[Lit.wf]using hw,.one (.lit rfl)⟩
theorem FI(ht:P.underlying t=some .bool):qV P t (fun x:Bool=>[dB x]) (fun _=>True):=by intro H en w fuel cs x h;obtain⟨n,rfl,_⟩:=DataW.trod_bool ht h;exact⟨n,trivial,.one (.lit rfl)⟩
theorem BT(ht:P.underlying t=some .string):qV P t (fun x:ByteArray=>[dS x]) (fun s=>s.size<=maxLen):=by intro H en w fuel cs x h;obtain⟨n,rfl,_,hm⟩:=DataW.trod_string ht h;exact⟨n,hm,.one (.lit rfl)⟩
theorem Dm{k:FloatKind}(ht:P.underlying t=some (.float k)):qV P t (fun x:Nat=>[D.lit (.float k x)]) (fun b=>(Lit.float k b).wf=true):=by
 intro H en w fuel cs x h;cases fuel with
 |zero=>simp[DataW.trod]at h
 |succ n=>
  unfold DataW.trod at h;simp only[ht]at h
  match cs,h with
  |[.float k' b],h=>
   simp only at h;split at h
   .rename_i hw;obtain⟨rfl,hw⟩:=hw;exact⟨b,hw,.one (.lit rfl)⟩
   .simp at h
theorem Dl{α:Type}[Inhabited α]{enc:α->List D}{fit:α->Prop}{sz:Nat}(ht:P.underlying t=some (.slice e))(hc:P.cellsOf e=sz)(hsz:0<sz)(hlen:∀a,(enc a).length=sz)(he:qV P e enc fit):
  qV P t (fun s:Sl α=>[BI sz enc s]) (fun s=>s.l.length<=maxLen/\∀x∈s.l,fit x):=by
 intro H en w fuel cs x h;rcases Go.Deep.open_slice ht h with⟨rfl,_⟩|⟨a,len,cap,m,n,D',Pl,rfl,hb,hl,hmax,hm,_,hx⟩
 .exact ⟨.nil,⟨by simp[Sl.l],by simp[Sl.l]⟩,.one (.lit rfl)⟩
 .simp only[if_true]at hm;rw[hm]at hx;have hx':∀i,i<len->∃y,fit y/\∃cs',w.cells? 0 (a.add (i*sz)) sz=some cs'/\kU w cs' (enc y):=by intro i hi;obtain⟨cs',h1,h2⟩:=hx i (by omega);obtain⟨y,h3,h4⟩:=he H en w n cs' _ h2;rw[hc]at h1;exact⟨y,h3,cs',h1,h4⟩
  have hch:∃Y:Nat->α,∀i,i<len->fit (Y i)/\∃cs',w.cells? 0 (a.add (i*sz)) sz=some cs'/\kU w cs' (enc (Y i)):=by refine⟨fun i=>if hi:i<len then Classical.choose (hx' i hi)else default,fun i hi=>?_⟩;simp only[dif_pos hi];exact Classical.choose_spec (hx' i hi)
  obtain⟨Y,hY⟩:=hch;refine⟨.mk ((aK len).map Y),⟨by simp[Sl.l];omega,fun x hx=>?_⟩,.one ?_⟩
  .simp only[Sl.l,List.mem_map,List.mem_range]at hx;obtain⟨i,hi,rfl⟩:=hx;exact(hY i hi).1
  .simp only[BI]
   have hrow:∀(i:Nat)(r:List D),(((aK len).map Y).map enc)[i]?=some r->i<len/\r=enc (Y i):=by
    intro i r hi;rw[aG,aG]at hi;by_cases hlt:i<len
    .rw [List.getElem?_range hlt]at hi;exact⟨hlt,by simpa using hi.symm⟩
    .rw [List.getElem?_eq_none (by simp;omega)]at hi;simp at hi
   by_cases h0:cap=0
   .obtain rfl:len=0:=by omega
    subst h0;exact .tu hsz
   .have hcell:∀i,i<cap->∃cs',w.cells? 0 (a.add (i*sz)) sz=some cs':=by intro i hi;obtain⟨cs',h1,h2⟩:=hx i hi;rw[hc]at h1;exact⟨cs',h1⟩
    obtain⟨cs0,h1⟩:=hcell 0 (by omega);obtain⟨_,hl0,hc0⟩:=World.cells?_some h1;have hz:=hc0 0 hsz;rw[Nat.zero_mul]at hz;have hadd:(a.add 0).add 0=a:=by simp[Addr.add]
    rw[hadd,aw (by omega)]at hz;obtain⟨b,off,spot⟩:=a
    have hsp:spot=none/\b<w.heap.size:=by
     unfold World.cell? at hz;split at hz
     .rename_i hh;split at hz
      .simp at hz
      .rename_i hs;refine⟨by simpa using hs,(bh.1 hh).1⟩
     .simp at hz
    obtain⟨rfl,hblk⟩:=hsp
    have key:∀(i:Nat)(r:List D),(((aK len).map Y).map enc)[i]?=some r->∀(j:Nat)(x:D),r[j]?=some x->∃v,w.cell? ⟨b,off+i*sz+j,none⟩=some v/\RD (S0 w) w x v:=by
     intro i r hi j x hj;obtain⟨hlt,rfl⟩:=hrow i r hi;obtain⟨_,cs',h2,h3⟩:=hY i hlt;obtain⟨_,h4,h5⟩:=World.cells?_some h2;have hjl:j<sz:=by rw[<-hlen (Y i)];exact(ak.1 hj).1
     have h6:=h5 j hjl;rw[pL,pL,aw (by omega)]at h6;exact⟨_,h6,h3.2 j x _ hj (aw (by omega))⟩
    have hh:=RD.sl (S:=S0 w) (w:=w) (sz:=sz) (ao:=((aK len).map Y).map enc) (b:=b) (off:=off) (cap:=cap) (fun i j=>(w.cell? ⟨b,off+i*sz+j,none⟩).getD undef) hblk hsz (by simp;omega)
     (fun i r hi=>by obtain⟨_,rfl⟩:=hrow i r hi;exact hlen _) (fun i r hi j x hj=>by obtain⟨v,h2,_⟩:=key i r hi j x hj;rw[h2];rfl) (fun i r hi j x hj=>by obtain⟨v,h2,h3⟩:=key i r hi j x hj;rw[h2];exact h3)
    simpa using hh
theorem Dn{H:Type}{en:TypeId×Value->H}{w:World}{fuel:Nat}{cs:List Value}{x:DataW H×List MemPlace}{fs:Array Field}(ht:P.underlying t=some (.struct fs))(h:DataW.trod en P w 0 (fun _=>true) true fuel t cs=some x){i:Nat}{f:Field}(hi:fs[i]?=some f)
  {α:Type} {enc:α->List D} {fit:α->Prop} (ho:qV P f.type enc fit):∃a,fit a/\kU w ((cs.drop f.offset).take (P.cellsOf f.type)) (enc a):=by
 obtain⟨xs,n,rfl,_,hl,hxl,hf⟩:=DataW.trod_struct ht h;have h1:=hf i f hi;have hlt:i<xs.length:=by rw[hxl];exact(bh.1 hi).1
 rw[aw hlt]at h1;exact ho H en w n _ _ h1
theorem E2{H:Type}{en:TypeId×Value->H}{w:World}{fuel:Nat}{cs:List Value}{x:DataW H×List MemPlace}{fs:Array Field}(ht:P.underlying t=some (.struct fs))(h:DataW.trod en P w 0 (fun _=>true) true fuel t cs=some x):cs.length=P.cellsOf t:=by obtain⟨xs,n,rfl,_,hl,_⟩:=DataW.trod_struct ht h;exact hl
theorem JS{H:Type}{en:TypeId×Value->H}{w:World}{fuel:Nat}{cs:List Value}{x:DataW H×List MemPlace}{n:Nat}(ht:P.underlying t=some (.array n e))(h:DataW.trod en P w 0 (fun _=>true) true fuel t cs=some x):cs.length=P.cellsOf t:=by obtain⟨_,_,_,_,hl,_⟩:=DataW.trod_array ht h;exact hl
theorem FH{H:Type}{en:TypeId×Value->H}{w:World}{fuel:Nat}{cs:List Value}{x:DataW H×List MemPlace}{n:Nat}(ht:P.underlying t=some (.array n e))(h:DataW.trod en P w 0 (fun _=>true) true fuel t cs=some x){i:Nat}(hi:i<n)
  {α:Type} {enc:α->List D} {fit:α->Prop} (ho:qV P e enc fit):∃a,fit a/\kU w ((cs.drop (i*P.cellsOf e)).take (P.cellsOf e)) (enc a):=by
 obtain⟨xs,m,_,_,_,hxl,hf⟩:=DataW.trod_array ht h;have h1:=hf i hi;have hlt:i<xs.length:=by omega
 rw[aw hlt]at h1;exact ho H en w m _ _ h1
theorem kU.field{w:World}{cs:List Value}{off n m:Nat}{a b:List D}(h1:kU w ((cs.drop off).take n) a)(hm:off+n=m)(h2:kU w (cs.drop m) b)(hl:m<=cs.length):kU w (cs.drop off) (a++b):=by refine kU.RE h1 ?_ (by simp;omega);rw[List.drop_drop,hm];exact h2
theorem Ab{w:World}{r:Reach}{b:Nat}{v:Value}(h:Value.okWide P w r b t v)(hs:match P.underlying t with|some (.struct _)|some (.array _ _)|some (.interface _)|some (.func ..)|some (.chan ..)|some .unsafePointer|some (.map _ _)=>False|_=>True):one v=true:=by
 unfold Value.okWide at h;split at h
 .rename_i he;rw[he]at hs;exact hs.elim
 .rename_i he;rw[he]at hs;exact hs.elim
 .unfold Cell.okWide at h;split at h
  all_goals first
   |(rename_i he;rw[he]at hs;exact hs.elim)
   |skip
  unfold Cell.ok at h;split at h<;>first|rfl|exact h.elim
theorem SH{α:Type}{d:α->D}{fit:α->Prop}(ho:qV P t (fun a=>[d a]) fit){w:World}{r:Reach}{b:Nat}{v:Value}(hv:Value.okWide P w r b t v)
  (hs:match P.underlying t with|some (.struct _)|some (.array _ _)|some (.interface _)|some (.func ..)|some (.chan ..)|some .unsafePointer|some (.map _ _)=>False|_=>True)
  {H:Type} {en:TypeId×Value->H} {x:DataW H} {ps:List MemPlace} (h:DataW.Trod en P w 0 (fun _=>true) true t v x ps):∃a,fit a/\RA (S0 w) w (.d (d a)) v []:=by
 obtain⟨fuel,h⟩:=h;obtain⟨a,h1,h2⟩:=ho H en w fuel _ _ h;have hone:=vC (Ab hv hs);refine⟨a,h1,?_,rfl⟩;exact h2.2 0 _ v rfl (by rw[hone];rfl)
theorem MY{α:Type}{enc:α->List D}{fit:α->Prop}(ho:qV P t enc fit){w:World}{v:Value}{aM:Array Value}(hv:v=.agg aM)
  {H:Type} {en:TypeId×Value->H} {x:DataW H} {ps:List MemPlace} (h:DataW.Trod en P w 0 (fun _=>true) true t v x ps):∃a,fit a/\RA (S0 w) w (.agg (enc a)) v []:=by
 subst hv;obtain⟨fuel,h⟩:=h;obtain⟨a,h1,h2⟩:=ho H en w fuel _ _ h;have h3:(Value.agg aM).cells.toList=aM.toList:=rfl;rw[h3]at h2;refine⟨a,h1,aM,rfl,by have:=h2.1;simpa using this.symm,fun i d hi=>?_,rfl⟩;have hlt:i<aM.size:=by have:=h2.1;have:=(ak.1 hi).1;simp at*;omega
 refine h2.2 i d _ hi ?_;rw[Array.getElem?_toList,Array.getD_eq_getD_getElem?,Array.getElem?_eq_getElem hlt];rfl
theorem OY{α:Type}{enc:α->List D}{fit:α->Prop}(ho:qV P t enc fit){w:World}{r:Reach}{b:Nat}{v:Value}(hv:Value.okWide P w r b t v){fs:Array Field}(hs:P.underlying t=some (.struct fs))
  {H:Type} {en:TypeId×Value->H} {x:DataW H} {ps:List MemPlace} (h:DataW.Trod en P w 0 (fun _=>true) true t v x ps):∃a,fit a/\RA (S0 w) w (.agg (enc a)) v []:=by
 unfold Value.okWide at hv;rw[hs]at hv;obtain⟨aM,hv,_,_⟩:=hv;exact MY ho hv h
theorem OX{α:Type}{enc:α->List D}{fit:α->Prop}(ho:qV P t enc fit){w:World}{r:Reach}{b:Nat}{v:Value}(hv:Value.okWide P w r b t v){n:Nat}(hs:P.underlying t=some (.array n e))
  {H:Type} {en:TypeId×Value->H} {x:DataW H} {ps:List MemPlace} (h:DataW.Trod en P w 0 (fun _=>true) true t v x ps):∃a,fit a/\RA (S0 w) w (.agg (enc a)) v []:=by
 unfold Value.okWide at hv;rw[hs]at hv;obtain⟨aM,hv,_,_⟩:=hv;exact MY ho hv h
theorem zQ{H:Type}{en:TypeId×Value->H}(hl:laidOutB P=true){W W':World}{sp:Nat->Bool}:∀{ts:List TypeId}{vs:List Value}{ds:List (DataW H)}{ps:List MemPlace},ts.all (fun t=>P.readableRec t&&decide (t<P.types.size))=true->
  DataW.TrodAll en P W 0 (fun _=>true) true ts vs ds ps->(∀p∈ps,W.sameAt W' p)->(∀p∈ps,sp p.block=true)->DataW.TrodAll en P W' 0 sp true ts vs ds ps:=by
 intro ts;induction ts with
 |nil=>intro vs ds ps _ h _ _;cases vs<;>cases ds<;>exact h
 |cons t ts ih=>
  intro vs ds ps hts h hsame hsp;cases vs with
  |nil=>cases ds<;>exact h
  |cons v vs=>
   cases ds with
   |nil=>exact h
   |cons d ds=>
    obtain⟨p,q,h1,h2,rfl⟩:=h;simp only[List.all_cons,Bool.and_eq_true,decide_eq_true_eq]at hts
    exact⟨p,q,WideElems.Trod_stays hl hts.1.1 hts.1.2 h1 (fun x hx=>hsame x (aF _ hx)) (fun x hx=>hsp x (aF _ hx)),
     ih hts.2 h2 (fun x hx=>hsame x (aH _ hx)) (fun x hx=>hsp x (aH _ hx)),rfl⟩
theorem BQ{P:Program}{H:Type}{enc:TypeId×Value->H}{f:Func}{s:ChangeSpec}{me gM handsOn again:Bool}{W W':World}{args:Array Value}{v:Value}{ds gs:List (DataW H)}{eX pa pv:List MemPlace}
  (hW:DataW.Whole enc P f.params.toList s.vars me W args.toList ds gs eX)
  (hres:∀(b:Nat)(sp:Nat->Bool)(hd:Bool),DataW.TrodAll enc P W' b sp hd f.resultTypes.toList (v.resultList f.resultTypes.size) (s.fn H (ds++gs)).results [])
  (hargs:∀sp:Nat->Bool,(∀p∈eX,sp p.block=true)->DataW.TrodAll enc P W' 0 sp true f.params.toList args.toList (s.fn H (ds++gs)).args pa)
  (hvars:∀sp:Nat->Bool,(∀p∈eX,sp p.block=true)->DataW.TrodVars enc P W' sp s.vars (s.fn H (ds++gs)).vars pv)
  (hps:eX=pa++pv) (hk:W.keptBut W' (·∈eX)) (hfz:∀a,a.block<W.heap.size->W'.frozen? a=W.frozen? a)
  (hok:∀(j:Nat)(t:TypeId)(r:Value),f.resultTypes[j]?=some t->(v.resultList f.resultTypes.size)[j]?=some r->Value.okWide P W' .any 0 t r):
  s.post enc P f me gM handsOn again W args v W':=by
 have hold:∀p∈eX,(fun b=>decide (b<W.heap.size)) p.block=true:=fun p hp=>by simpa using hW.lt p hp
 refine⟨ds,gs,eX,[],pa,pv,hW,hres _ _ _,hargs _ hold,hvars _ hold,World.keptBut_mono (fun p hp=>⟨hp,?_⟩) hk,fun _=>?_⟩
 .rw [hps,List.mem_append]at hp;exact Or.inr hp
 .have hlt:=fun p hp=>hW.lt p hp;obtain⟨_,_,_,_,_,hz,hn⟩:=hW;refine⟨hok,_,_,([]++pa)++pv,⟨[]++pa,pv,trodAll_append (hargs _ (fun _ _=>rfl)) (hres _ _ _),hvars _ (fun _ _=>rfl),rfl,?_,?_⟩,?_⟩
  .intro b off hp;rw[hfz _ (hlt _ (by rw[hps];simpa using hp))];exact hz b off (by rw[hps];simpa using hp)
  .intro ha;have:=hn ha;rw[hps]at this;simpa using this
  .intro p hp _;rw[hps];simpa using hp
theorem Ek{f:FuncId}{fn:Func}{s:ChangeSpec}{me gM handsOn again:Bool}{tb:TypeId}{H:Type}{en:TypeId×Value->H}(hl:laidOutB P=true)(hfn:P.funcs[f]?=some fn)(hbody:fn.body.isSome=true)(hname:(fn.name== "runtime.NumGoroutine")=false)
  (hts:fn.params.toList.all (fun t=>P.readableRec t&&decide (t<P.types.size))=true) (hrt:fn.resultTypes= #[tb]) (htb:P.underlying tb=some .bool) (hvars:s.vars=[])
  {W:World} {args:Array Value} {ds gs:List (DataW H)} {eX:List MemPlace} (hW:DataW.Whole en P fn.params.toList s.vars me W args.toList ds gs eX)
  (hspec:(s.fn H (ds++gs)).results=[.lit (.bool true)]/\(s.fn H (ds++gs)).args=ds/\(s.fn H (ds++gs)).vars=[])
  (hgl:uQ (S0 W) W) (hG:∃as,Nk (S0 W) W as args.toList []/\sh P f as [.c (.d (.lit (.bool true)))] []):
  Calls P f args W fun e W'=>∃v,e=.returned v/\s.post en P fn me gM handsOn again W args v W':=by
 obtain⟨as,hras,hgood⟩:=hG;have hent:=hgood (S0 W) W args.toList [] (fun b hb=>hb) hras List.nodup_nil (fun b hb=>by simp at hb) hgl;have hcall:(callFunc f args).run P W=.ok (.enter f args) W:=by have hb:∃c,fn.body=some c:=Option.isSome_iff_exists.1 hbody;obtain⟨c,hb⟩:=hb;simp[callFunc,run_program,hfn,hb];intro e;rw[e]at hname;simp at hname
 rw[Array.toArray_toList]at hent;rcases hent with⟨g,as',h1,h2⟩|⟨v,h1,_⟩
 .rw [hcall]at h1;obtain⟨⟨rfl,rfl⟩,_⟩:(f=g/\args=as')/\True:=by simpa using h1
  refine h2.mono fun e W' hp=>?_;obtain⟨v,rfl,S',kJ,fp1,fp2,rfl,eY,hsub,hlt,hrr,hrt',hnd,hb,hfrm⟩:=hp
  have hv:yn kJ=.bool true:=by
   cases kJ with
   |nil=>exact hrr.elim
   |cons v kJ=>
    obtain⟨f1,f2,_,h3,h4⟩:=hrr;cases kJ with
    |cons _ _=>exact h4.elim
    |nil=>cases h3 with|d h5=>cases h5;rfl
  refine⟨_,rfl,?_⟩;rw[hv];have hheap:∀b,b<W.heap.size->W'.heap[b]?=W.heap[b]?:=fun b hb=>eY.eu b hb;obtain⟨p,q,hA,hV,hpq,hfz,hno⟩:=id hW;have hV':DataW.TrodVars en P W (fun _=>true) [] gs q:=by rw[<-hvars];exact hV
  obtain⟨rfl,rfl⟩:=trodVars_none hV'
  have hkept:∀may:MemPlace->Prop,W.keptBut W' may:=by
   intro may;refine⟨hfrm.io.1,hfrm.io.2.1,fun i hi=>?_⟩;have:=hheap i hi;rw[this];cases hx:W.heap[i]?with
   |none=>trivial
   |some o=>cases o<;>simp
  refine BQ (pa:=eX) (pv:=[]) hW (fun _ _ _=>?_) (fun sp hsp=>?_) (fun _ _=>?_) (by simp) (hkept _) hfrm.A4 ?_
  .rw [hspec.1,hrt];exact trodAll_cons_mk (shut_bool htb _) trodAll_mk0
  .rw [hspec.2.1];have hbp:eX=p:=by rw[hpq,List.append_nil]
   refine zQ hl hts (by rw[hbp];exact hA) (fun x hx=>?_) hsp;have hx':=hW.lt x hx;have hs:=hheap x.block hx';cases x with|cell b off=>exact mA hs off|map b=>exact hs
  .rw [hspec.2.2,hvars];rfl
  .exact ok_one hrt rfl (okWide_bool_mk htb _)
 .rw [hcall]at h1;simp at h1
end
theorem LU{W:World}{k:IntKind}{l:List Int}(hg:∀g d,QC g=some d->g=0/\d=.pt (l.map fun x=>.lit (.int k x)))(h0:0<W.heap.size)
  (hc:∀(j:Nat)(x:Int),l[j]?=some x->W.cell? ⟨0,j,none⟩=some (.int k x)):uQ (S0 W) W:=by
 intro g d h;obtain⟨rfl,rfl⟩:=hg g d h;refine .pt (fun j=>.int k (l.getD j 0)) h0 (fun j x hx=>?_) (fun j x hx=>?_)
 .rw [aG]at hx;obtain⟨y,hy,rfl⟩:=aE.1 hx;rw[Nat.zero_add,hc j y hy,cI,hy];rfl
 .rw [aG]at hx;obtain⟨y,hy,rfl⟩:=aE.1 hx;rw[cI,hy];exact .lit rfl
end Go.Ev
