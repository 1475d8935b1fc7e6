/- Typed data over the abstract machine, and what its operations do to it. Conditions: as stated. -/
import Derived.Test.YtbcmbckpebpijaaDoorEvW
import Derived.OpenShut
import Derived.WideKeyArgs
import Derived.Deep.Slices
import Derived.ProofKit
import Derived.WalkKit
import Derived.JoinedCond
open Array renaming getElem?_eq_some_iff->aP
open BitVec renaming ofInt->cm
open Bool renaming false_eq_true->aM
open List renaming getElem?_eq_getElem->ai,getElem?_eq_some_iff->ah,getElem?_map->aB,length_map->aK,length_nil->hP,map_append->gg,map_cons->aq,map_drop->ez,map_nil->aR,map_take->eX,mem_append_left->aC,mem_append_right->aA,range->dz
open Option renaming map_eq_some_iff->aG,map_none->eg,map_some->bh
open Option.some renaming inj->aa,injEq->bH
noncomputable section
namespace Go.Ev
inductive Sl(α:Type)where
 |nil
 |mk (l:List α)
 deriving Inhabited,DecidableEq
def Sl.l{α:Type}:Sl α->List α
 |.nil=>[]
 |.mk l=>l
@[simp] theorem Sl.NQ {α:Type} (l:List α):(Sl.mk l).l=l:=rfl
@[simp] theorem Sl.Ny {α:Type}:(Sl.nil:Sl α).l=[]:=rfl
def Sl.dZ{α:Type}:Sl α->Bool
 |.nil=>true
 |.mk _=>false
abbrev dI(k:IntKind)(n:Int):D:=.lit (.int k n)
abbrev dB(b:Bool):D:=.lit (.bool b)
abbrev dS(s:ByteArray):D:=.lit (.string s)
abbrev tI(k:IntKind)(n:Int):TV:=.c (.d (.lit (.int k n)))
abbrev tB(b:Bool):TV:=.c (.d (.lit (.bool b)))
def pF{α:Type}(sz:Nat)(enc:α->List D):Sl α->D
 |.nil=>.lit (.slice none 0 0)
 |.mk l=>.sl sz (l.map enc)
def jm{α:Type}(sz:Nat)(enc:α->List D)(id:Nat):Sl α->C
 |.nil=>.d (.lit (.slice none 0 0))
 |.mk l=>.dq sz id 0 (l.map enc).length
def JE{α:Type}(sz:Nat)(enc:α->List D):Sl α->T
 |.nil=>.d (.lit (.slice none 0 0))
 |.mk l=>.sl sz (l.map enc)
abbrev wr(k:IntKind)(n:Int):Int:=k.wrap n
def Jm(k:IntKind)(a b:Int):Int:=k.wrap (cm k.bits a&&&cm k.bits b).toNat
def Jl:{f:IntKind->Int->Int->Int//f=Jm}:=Classical.choice ⟨⟨_,rfl⟩⟩
def K5(k:IntKind)(a b:Int):Int:=Jl.1 k a b
theorem II:K5=Jm:=funext fun k=>funext fun a=>funext fun b=>congrFun (congrFun (congrFun Jl.2 k) a) b
def Mc(k:IntKind)(a b:Int):Int:=k.wrap (cm k.bits a|||cm k.bits b).toNat
def Mb:{f:IntKind->Int->Int->Int//f=Mc}:=Classical.choice ⟨⟨_,rfl⟩⟩
def No(k:IntKind)(a b:Int):Int:=Mb.1 k a b
theorem K4:No=Mc:=funext fun k=>funext fun a=>funext fun b=>congrFun (congrFun (congrFun Mb.2 k) a) b
def Jk(k:IntKind)(a b:Int):Int:=k.wrap (cm k.bits a^^^cm k.bits b).toNat
def Jj:{f:IntKind->Int->Int->Int//f=Jk}:=Classical.choice ⟨⟨_,rfl⟩⟩
def K1(k:IntKind)(a b:Int):Int:=Jj.1 k a b
theorem IH:K1=Jk:=funext fun k=>funext fun a=>funext fun b=>congrFun (congrFun (congrFun Jj.2 k) a) b
def zx(k:IntKind)(a b:Int):Int:=k.wrap (cm k.bits a&&&~~~cm k.bits b).toNat
def zw:{f:IntKind->Int->Int->Int//f=zx}:=Classical.choice ⟨⟨_,rfl⟩⟩
def w6(k:IntKind)(a b:Int):Int:=zw.1 k a b
theorem Bq:w6=zx:=funext fun k=>funext fun a=>funext fun b=>congrFun (congrFun (congrFun zw.2 k) a) b
def Np(k:IntKind)(a:Int):Int:=k.wrap (cm k.bits (if k.signed then-1 else k.max)^^^cm k.bits a).toNat
def K3(k:IntKind)(a b:Int):Int:=k.wrap (a*2^(min b.toNat k.bits))
def K2(k:IntKind)(a b:Int):Int:=a.fdiv (2^(min b.toNat k.bits))
def KI(k:IntKind)(a b:Int):Option Int:=if b=0 then none else some (k.wrap (a.tdiv b))
def JL(_:IntKind)(a b:Int):Option Int:=if b=0 then none else some (a.tmod b)
def JH(k:IntKind)(a b:Int):Option Int:=if b<0 then none else some (K3 k a b)
def JG(k:IntKind)(a b:Int):Option Int:=if b<0 then none else some (K2 k a b)
def lL(a b:ByteArray):Option ByteArray:=if((a.size+b.size:Nat):Int)>IntKind.i64.max then none else some (a++b)
def zA(s:ByteArray)(i:Int):Option Int:=if 0<=i then s[i.toNat]?.map fun b=>(b.toNat:Int)else none
def mY(s:ByteArray)(lo hi:Int):Option ByteArray:=if 0<=lo/\lo<=hi/\hi<=s.size then some (s.extract lo.toNat hi.toNat)else none
def Ln{α:Type}(z:α)(l c:Int):Option (List α):=if 0<=l/\l<=c/\c<=2147483648 then some (List.replicate l.toNat z)else none
def Sl.to{α:Type}(s:Sl α)(r:List α):Sl α:=match s with|.nil=>.nil|.mk _=>.mk r
section
variable{c:Ev.Call}{H:bl}{nx:Nat}{k:IntKind}{a b x:Int}{s t u:ByteArray}
theorem KA(h:KI k a b=some x):bN c (.t8 .quo) [some (tI k a),some (tI k b)] H nx=some (tI k x,[],[],nx):=by
 unfold KI at h;split at h
 .simp at h
 .rename_i hb;obtain rfl:=aa h;simp[bN,jK,j9,hb,lv]
theorem Kz(h:JL k a b=some x):bN c (.t8 .rem) [some (tI k a),some (tI k b)] H nx=some (tI k x,[],[],nx):=by
 unfold JL at h;split at h
 .simp at h
 .rename_i hb;obtain rfl:=aa h;simp[bN,jK,j9,hb,lv]
theorem Ky{k2:IntKind}(h:JH k a b=some x):bN c (.t8 .shl) [some (tI k a),some (tI k2 b)] H nx=some (tI k x,[],[],nx):=by
 unfold JH at h;split at h
 .simp at h
 .rename_i hb;obtain rfl:=aa h;simp[bN,jK,j9,hb,lv,K3]
theorem Kx{k2:IntKind}(h:JG k a b=some x):bN c (.t8 .shr) [some (tI k a),some (tI k2 b)] H nx=some (tI k x,[],[],nx):=by
 unfold JG at h;split at h
 .simp at h
 .rename_i hb;obtain rfl:=aa h;simp[bN,jK,j9,hb,lv,K2]
theorem KB(h:lL s t=some u):bN c (.t8 .add) [some (.c (.d (dS s))),some (.c (.d (dS t)))] H nx=some (.c (.d (dS u)),[],[],nx):=by
 unfold lL at h;split at h
 .simp at h
 .rename_i hb;obtain rfl:=aa h;simp only[bN,jK,j9];rw[if_neg hb];rfl
theorem LW(h:zA s a=some x):bN c .lA [some (.c (.d (dS s))),some (tI k a)] H nx=some (tI .u8 x,[],[],nx):=by
 unfold zA at h;split at h
 .rename_i ha;obtain⟨y,hy,rfl⟩:=aG.1 h;simp only[bN,bL];rw[if_pos ha,hy];rfl
 .simp at h
end
def nh(i:Int)(n:Nat):Option Nat:=if 0<=i/\i<n then some i.toNat else none
theorem hC{i:Int}{n m:Nat}:nh i n=some m<->i=m/\m<n:=by
 unfold nh;split
 .simp only[bH];omega
 .simp only[reduceCtorEq,false_iff];omega
def gt{α:Type}[Inhabited α](l:List α)(n:Nat):α:=l.getD n default
theorem Kp{α:Type}[Inhabited α]{l:List α}{n:Nat}(h:n<l.length):l[n]?=some (gt l n):=by simp[gt,List.getD,h]
theorem wB{α:Type}[Inhabited α]{l:List α}{n:Nat}{enc:α->List D}(h:n<l.length):(l.map enc)[n]?=some (enc (gt l n)):=by rw[aB,Kp h];rfl
def nv{α:Type}(l:List α):Option (List α):=if l.length<=2147483648 then some l else none
theorem vG{α:Type}{l m:List α}:nv l=some m<->l=m/\l.length<=2147483648:=by
 unfold nv;split
 .simp_all
 .rename_i hl;simp only[reduceCtorEq,false_iff,not_and];rintro rfl;omega
def q8{α:Type}(l:List α)(lo hi:Int):Option (List α):=if 0<=lo/\lo<=hi/\hi<=l.length then some ((l.drop lo.toNat).take (hi.toNat-lo.toNat))else none
theorem mP{α β:Type}{x:Option α}{f:α->Option β}{r:β}(h:x.bind f=some r):∃a,x=some a/\f a=some r:=Option.bind_eq_some_iff.1 h
theorem o3{α:Type}{l:List α}{enc:α->List D}:((l.map enc).drop 0).take (l.map enc).length=l.map enc:=by rw[List.drop_zero,List.take_length]
theorem Iu{α:Type}{l:List α}{enc:α->List D}{a b:Nat}:((l.map enc).drop a).take b=((l.drop a).take b).map enc:=by rw[eX,ez]
section
variable{α:Type}{c:Ev.Call}{H:bl}{nx sz id off len m n:Nat}{k:IntKind}{i:Int}{enc:α->List D}{s:Sl α}{l:List α}{agg:Bool}{v:TV}
theorem Nu{k:Nat}(hl:au H id=some (.aH sz (l.map enc))):cR H k (.dq sz id 0 (l.map enc).length)=some (.sl sz (l.map enc),[id],[id]):=by
 have:cR H k (.dq sz id 0 (l.map enc).length)=(if 0+(l.map enc).length<=(l.map enc).length then some (.sl sz (((l.map enc).drop 0).take (l.map enc).length),[id],[id])else none):=by cases k<;>simp only[cR,hl]
 rw[this,if_pos (by omega),o3]
theorem KN{lo hi:Int}{r:List α}(hc:q8 l lo hi=some r):lo.toNat+(r.map enc).length<=(l.map enc).length/\((l.map enc).drop lo.toNat).take (r.map enc).length=r.map enc:=by
 unfold q8 at hc;split at hc
 .rename_i h;obtain rfl:=aa hc;refine⟨by simp;omega,?_⟩;rw[Iu];congr 1;simp
 .simp at hc
theorem Ms{bf rd:List Nat}{r:List (C×List Nat×List Nat)}(hl:au H id=some (.aH sz (l.map enc)))(h:de H r=true):de H ((.dq sz id 0 (l.map enc).length,bf,rd)::r)=true:=by simp[de,hl,h]
theorem LO[Inhabited α](h:nh i s.l.length=some n):bN c (.indexAddr none sz) [some (.c (.d (pF sz enc s))),some (tI k i)] H nx=some (.c (.d (.pt (enc (gt s.l n)))),[],[],nx):=by obtain⟨rfl,hn⟩:=hC.1 h;cases s with|nil=>simp[Sl.l]at hn|mk l=>have hn':n<l.length:=hn;simp only[bN,bL,fG,pF,Int.natCast_nonneg,and_self,if_true,Int.toNat_natCast];rw[wB hn'];rfl
theorem Na(h:nh i l.length=some n):bN c (.indexAddr none sz) [some (.c (.dq sz id 0 (l.map enc).length)),some (tI k i)] H nx=some (.c (.ep id n 0),[],[],nx):=by obtain⟨rfl,hn⟩:=hC.1 h;simp only[bN,bL,fG,aK];rw[if_pos (by refine⟨by omega,by omega,?_⟩;trivial)];simp
theorem LP(h:nh i l.length=some n):bN c (.indexAddr none sz) [some (.c (.dq sz id off (l.map enc).length)),some (tI k i)] H nx=some (.c (.ep id (off+n) 0),[],[],nx):=by obtain⟨rfl,hn⟩:=hC.1 h;simp only[bN,bL,fG,aK];rw[if_pos (by refine⟨by omega,by omega,?_⟩;trivial)];simp
theorem FF{X:Prop}(h:nh i (Sl.l (Sl.nil:Sl α)).length=some n):X:=by obtain⟨_,hn⟩:=hC.1 h;simp[Sl.l]at hn
theorem Hg[Inhabited α]{cs:List C}{ds:List D}{ap:List Nat}{u:dD}{y:α}(hl:au H id=some (.aH sz (l.map enc)))(hn:n<l.length)(hc:cellsOf v=some cs)(hm:cs.length=m)(hw:cH H cs=some (ds,ap))(hf:cq H ap ap=some u)
  (hid:ap.contains id=false) (hlen:off+m<=(enc (gt l n)).length)
  (hy:aV (enc (gt l n)) off ds=enc y):bN c (.store m) [some (.c (.ep id n off)),some v] H nx=some (.eU [],(id,some (.aH sz ((l.set n y).map enc)))::u,id::ap,nx):=by
 simp only[bN,jg,hc,hm,if_true,hl,wB hn,hw,hf];rw[if_pos ⟨hlen,hid⟩,hy,List.map_set]
theorem Ki:bN c (.len false) [some (.c (.d (pF sz enc s)))] H nx=some (tI .i64 s.l.length,[],[],nx):=by cases s with|nil=>rfl|mk l=>simp[bN,pn,pF,Sl.l,lv]
theorem I9:bN c (.len false) [some (.c (jm sz enc id s))] H nx=some (tI .i64 s.l.length,[],[],nx):=by cases s with|nil=>rfl|mk l=>simp[bN,pn,jm,Sl.l,lv]
theorem J_{neg:Bool}:bN c (.mK 0 neg) [some (.c (.d (pF sz enc s)))] H nx=some (tB (if neg then !s.dZ else s.dZ),[],[],nx):=by cases s<;>rfl
theorem LN{neg:Bool}:bN c (.mK 0 neg) [some (.c (jm sz enc id s))] H nx=some (tB (if neg then !s.dZ else s.dZ),[],[],nx):=by cases s<;>rfl
theorem Ho:ga sz H (.d (pF sz enc s))=some (s.l.map enc,[]):=by cases s with|nil=>rfl|mk l=>simp[ga,pF,Sl.l]
theorem mN{l r:List α}{lo hi:Int}:q8 l lo hi=some r<->(0<=lo/\lo<=hi/\hi<=l.length)/\(l.drop lo.toNat).take (hi.toNat-lo.toNat)=r:=by
 unfold q8;split
 .rename_i h;simp[h]
 .rename_i h;simp[h]
theorem L9{lo hi:Option Int}{r:List α}(hc:q8 l (lo.getD 0) (hi.getD l.length)=some r):dX false sz (.dq sz id 0 (l.map enc).length) lo hi=some (.dq sz id (lo.getD 0).toNat (r.map enc).length):=by obtain⟨h,rfl⟩:=mN.1 hc;simp only[dX,aM,if_false,aK];rw[if_pos ⟨trivial,h⟩];simp;omega
theorem KK{lo hi:Option Int}{r:List α}(hc:q8 s.l (lo.getD 0) (hi.getD s.l.length)=some r):dX false sz (.d (pF sz enc s)) lo hi=some (.d (pF sz enc (s.to r))):=by obtain⟨h,rfl⟩:=mN.1 hc;cases s with|nil=>simp only[Sl.l,hP]at h;simp only[dX,pF,aM,if_false];rw[if_pos ⟨h.1,h.2.1,by simpa using h.2.2⟩];rfl|mk l=>simp only[Sl.l]at h|-;simp only[dX,pF,aM,if_false,aK];rw[if_pos ⟨trivial,h.1,h.2.1,h.2.2⟩];simp[eX,ez,Sl.to]
theorem Gi{lo hi:Option Int}{r:List α}(hc:q8 (Sl.l (Sl.nil:Sl α)) (lo.getD 0) (hi.getD (Sl.l (Sl.nil:Sl α)).length)=some r):dX false sz (.d (.lit (.slice none 0 0))) lo hi=some (.d (.lit (.slice none 0 0))):=by obtain⟨h,rfl⟩:=mN.1 hc;simp only[Sl.l,hP]at h;simp only[dX,aM,if_false];rw[if_pos ⟨h.1,h.2.1,by simpa using h.2.2⟩]
section
variable{r:List α}{i j:Int}{k k2:IntKind}
def Gn(l:List α)(off n:Nat)(x:List α):List α:=aV l off (x.take n)
theorem A7{off n:Nat}{x:List α}:aV (l.map enc) off ((x.map enc).take n)=(Gn l off n x).map enc:=by simp[Gn,aV]
theorem KP{xc:C}{x:List α}{ap:List Nat}(hl:au H id=some (.aH sz (l.map enc)))(hx:ga sz H xc=some (x.map enc,ap)):
  bN c (.copy sz) [some (.c (.dq sz id 0 (l.map enc).length)),some (.c xc)] H nx=some (tI .i64 (min x.length l.length:Nat),[(id,some (.aH sz ((Gn l 0 l.length x).map enc)))],id::ap,nx):=by
 simp only[bN,jr,hx,hl];rw[if_pos ⟨trivial,by simp⟩];simp only[A7,aK];rfl
theorem pQ{off n:Nat}{x:List α}(h:off+n<=l.length):(Gn l off n x).length=l.length:=c8 _ _ _ (by simp only[List.length_take];omega)
def Kk(a b:List α):Option Unit:=if a.length=b.length then some ()else none
theorem Dt{a b:List α}{u:Unit}:Kk a b=some u<->a.length=b.length:=by unfold Kk;split<;>simp_all
theorem Ip{z:α}{zero:List Value}{n m:Int}(hz:cn zero=enc z)(h:Ln z n m=some l):bN c (.makeSlice zero) [some (tI k n),some (tI k2 m)] H nx=some (.c (.dq zero.length nx 0 (l.map enc).length),[(nx,some (.aH zero.length (l.map enc)))],[],nx+1):=by
 unfold Ln at h;split at h
 .rename_i hb;obtain rfl:=aa h;simp only[bN,bL];rw[if_pos (by simpa[yL]using hb),hz];simp
 .simp at h
end
end
structure Mp(K V:Type)where
 es:List (K×V×Nat)
 bA:Nat
def Mp.none{K V:Type}:Mp K V:=⟨[],0⟩
instance{K V:Type}:Inhabited (Mp K V):=⟨.none⟩
section
variable{κ ν:Type}
def iQ[DecidableEq κ](k:κ):List (κ×ν×Nat)->Nat->Option (Nat×κ×ν×Nat)
 |[],_=>none
 |e::r,i=>if k=e.1 then some (i,e)else iQ k r (i+1)
def vc[DecidableEq κ](m:Mp κ ν)(z:ν)(k:κ):ν:=match iQ k m.es 0 with|some (_,e)=>e.2.1|none=>z
def Fh[DecidableEq κ](m:Mp κ ν)(k:κ):Bool:=(iQ k m.es 0).isSome
def oe[DecidableEq κ](m:Mp κ ν)(z:ν)(k:κ):Mp κ ν×ν×Int:=match iQ k m.es 0 with|some (_,e)=>(m,e.2.1,e.2.2)|none=>(⟨m.es++[(k,z,m.bA)],m.bA+1⟩,z,m.bA)
def u_:List (κ×ν×Nat)->Nat->ν->List (κ×ν×Nat)
 |[],_,_=>[]
 |e::r,0,v=>(e.1,v,e.2.2)::r
 |e::r,i+1,v=>e::u_ r i v
def B4(m:Mp κ ν)(s:Int)(v:ν):Option (Mp κ ν):=(m.es.findIdx? (fun e=>decide ((e.2.2:Int)=s))).map fun i=>⟨u_ m.es i v,m.bA⟩
def wn(ek:κ->List Value)(ev:ν->List D)(e:κ×ν×Nat):mS:=(ek e.1,ev e.2.1,e.2.2)
def rY(ka va:Bool)(ek:κ->List Value)(ev:ν->List D)(m:Mp κ ν):Option Ob:=some (.map ka va (m.es.map (wn ek ev)) m.bA)
variable{ek:κ->List Value}{ev:ν->List D}{ks:List Kd}{ka va:Bool}
theorem lW[DecidableEq κ]{k:κ}:∀{l:List (κ×ν×Nat)}{i j:Nat}{e:κ×ν×Nat},iQ k l i=some (j,e)->i<=j/\l[j-i]?=some e/\e.1=k:=by
 intro l;induction l with
 |nil=>intro i j e h;simp[iQ]at h
 |cons x l ih=>
  intro i j e h;simp only[iQ]at h;split at h
  .rename_i hk;obtain⟨rfl,rfl⟩:i=j/\x=e:=by simpa using h
   exact⟨Nat.le_refl _,by simp,hk.symm⟩
  .obtain ⟨h1,h2,h3⟩:=ih h;have e1:j-i=(j-(i+1))+1:=by omega
   exact⟨by omega,by rw[e1];simpa using h2,h3⟩
theorem ov[DecidableEq κ](heq:∀a b,eu ks (ek a) (ek b)=some (decide (a=b)))(k:κ):∀(l:List (κ×ν×Nat))(i:Nat),jb ks (ek k) (l.map (wn ek ev)) i=some ((iQ k l i).map (·.1)):=by
 intro l;induction l with
 |nil=>intro i;rfl
 |cons x l ih=>
  intro i;simp only[aq,jb,iQ];have:(wn ek ev x).1=ek x.1:=rfl;rw[this,heq];by_cases h:k=x.1
  .simp [h]
  .simp [h,ih]
theorem tQ{l:List (κ×ν×Nat)}{j:Nat}{e:κ×ν×Nat}(h:l[j]?=some e):(l.map (wn ek ev)).getD j default=wn ek ev e:=by simp[List.getD_eq_getElem?_getD,h]
variable{m:Mp κ ν}{z:ν}{k:κ}{zero:List Value}{tv:ν->TV}{kt:TV}{H:bl}{id nx:Nat}{c:Call}
theorem Kb[DecidableEq κ](hl:au H id=rY ka va ek ev m)(hk:jC ka ks kt=some (ek k))(heq:∀a b,eu ks (ek a) (ek b)=some (decide (a=b)))(hz:cn zero=ev z)(hv:∀x,lk va (ev x)=some (tv x)):
  bN c (.lookup ka ks va zero false) [some (.c (.om id)),some kt] H nx=some (tv (vc m z k),[],[id],nx):=by
 have h:=ov (ev:=ev) heq k m.es 0;simp only[bN,fq,hk,hl,rY,and_self,if_true,h];unfold vc;cases hf:iQ k m.es 0 with|none=>simp only[eg,hz,hv,aM,if_false]|some p=>obtain⟨j,e⟩:=p;obtain⟨_,h2,_⟩:=lW hf;rw[Nat.sub_zero]at h2;simp only[bh,tQ h2,wn,hv,aM,if_false]
theorem H9[DecidableEq κ](hl:au H id=rY ka va ek ev m)(hk:jC ka ks kt=some (ek k))(heq:∀a b,eu ks (ek a) (ek b)=some (decide (a=b)))(hz:cn zero=ev z)(hv:∀x,lk va (ev x)=some (tv x)):
  bN c (.lookup ka ks va zero true) [some (.c (.om id)),some kt] H nx=some (.eU [tv (vc m z k),tB (Fh m k)],[],[id],nx):=by
 have h:=ov (ev:=ev) heq k m.es 0;simp only[bN,fq,hk,hl,rY,and_self,if_true,h];unfold vc Fh;cases hf:iQ k m.es 0 with|none=>simp only[eg,hz,hv,Option.isSome_none,lv]|some p=>obtain⟨j,e⟩:=p;obtain⟨_,h2,_⟩:=lW hf;rw[Nat.sub_zero]at h2;simp only[bh,tQ h2,wn,hv,Option.isSome_some,lv]
theorem LZ[DecidableEq κ](hl:au H id=rY ka va ek ev m)(hk:jC ka ks kt=some (ek k))(heq:∀a b,eu ks (ek a) (ek b)=some (decide (a=b)))(hz:cn zero=ev z)(hv:∀x,lk va (ev x)=some (tv x)):
  bN c (.mapEntry ka ks va zero) [some (.c (.om id)),some kt] H nx=some (.eU [tv (oe m z k).2.1,tI .i64 (oe m z k).2.2],[(id,rY ka va ek ev (oe m z k).1)],[id],nx):=by
 have h:=ov (ev:=ev) heq k m.es 0;simp only[bN,jV,hk,hl,rY,and_self,if_true,h];unfold oe;cases hf:iQ k m.es 0 with|none=>simp only[eg,hz,hv,lv,gg,aq,aR,wn]|some p=>obtain⟨j,e⟩:=p;obtain⟨_,h2,_⟩:=lW hf;rw[Nat.sub_zero]at h2;simp only[bh,tQ h2,wn,hv,lv]
theorem u9{ds:List D}{v:ν}(hd:ev v=ds):∀{l:List (κ×ν×Nat)}{i:Nat},i<l.length->
  (l.map (wn ek ev)).set i (((l.map (wn ek ev)).getD i default).1,ds,((l.map (wn ek ev)).getD i default).2.2)=(u_ l i v).map (wn ek ev):=by
 intro l;induction l with
 |nil=>intro i h;simp at h
 |cons x l ih=>intro i h;cases i with|zero=>simp[u_,wn,hd]|succ i=>have:=ih (i:=i) (by simpa using h);simp only[aq,List.set_cons_succ,List.getD_cons_succ,u_];rw[this]
theorem LY{m':Mp κ ν}{s:Int}{v:ν}{n:Nat}{xv:TV}{kd:IntKind}(hs:B4 m s v=some m')(hl:au H id=rY ka va ek ev m)(hx:(cellsOf xv).bind tT=some (ev v))(hn:(ev v).length=n)(ha:lY xv=va):
  bN c (.entryStore va n) [some (.c (.om id)),some (tI kd s),some xv] H nx=some (.eU [],[(id,rY ka va ek ev m')],[id],nx):=by
 unfold B4 at hs;obtain⟨i,hi,rfl⟩:=aG.1 hs;have hf:(m.es.map (wn ek ev)).findIdx? (fun e=>decide ((e.2.2:Int)=s))=some i:=by rw[List.findIdx?_map];exact hi
 have hlt:i<m.es.length:=by obtain⟨h1,_⟩:=List.findIdx?_eq_some_iff_getElem.1 hi;exact h1
 simp only[bN,jW,bL,hx,hl,rY,hn,ha,and_self,if_true,hf,u9 (ek:=ek) (ev:=ev) (v:=v) rfl hlt]
def yA[DecidableEq κ](m:Mp κ ν)(k:κ)(v:ν):Mp κ ν:=match iQ k m.es 0 with|some (i,_)=>⟨u_ m.es i v,m.bA⟩|none=>⟨m.es++[(k,v,m.bA)],m.bA+1⟩
def yB[DecidableEq κ](m:Mp κ ν)(k:κ):Mp κ ν:=match iQ k m.es 0 with|some (i,_)=>⟨m.es.eraseIdx i,m.bA⟩|none=>m
theorem Lw[DecidableEq κ]{v:ν}{n:Nat}{xv:TV}(hl:au H id=rY ka va ek ev m)(hk:jC ka ks kt=some (ek k))(heq:∀a b,eu ks (ek a) (ek b)=some (decide (a=b)))(hx:cellsOf xv=some ((ev v).map .d))(hv:cH H ((ev v).map .d)=some (ev v,[]))
  (hn:(ev v).length=n) (ha:lY xv=va):bN c (.og ka ks va n) [some (.c (.om id)),some kt,some xv] H nx=some (.eU [],[(id,rY ka va ek ev (yA m k v))],[id],nx):=by
 have h:=ov (ev:=ev) heq k m.es 0;have e0:cq H [] []=some []:=rfl;simp only[bN,nq,hk,hx,hv,e0,hl,rY];rw[if_pos ⟨trivial,trivial,hn,ha,rfl⟩];simp only[h];unfold yA;cases hf:iQ k m.es 0 with
 |none=>simp only[eg,gg,aq,aR,wn]
 |some p=>
  obtain⟨i,e⟩:=p;obtain⟨_,h2,_⟩:=lW hf;have hlt:i<m.es.length:=by simpa using(ah.1 h2).1
  simp only[bh,u9 (ek:=ek) (ev:=ev) (v:=v) rfl hlt]
theorem L2[DecidableEq κ](hl:au H id=rY ka va ek ev m)(hk:jC ka ks kt=some (ek k))(heq:∀a b,eu ks (ek a) (ek b)=some (decide (a=b))):
  bN c (.oh ka ks) [some (.c (.om id)),some kt] H nx=some (.eU [],[(id,rY ka va ek ev (yB m k))],[id],nx):=by
 have h:=ov (ev:=ev) heq k m.es 0
 have er:∀(l:List (κ×ν×Nat))(i:Nat),(l.map (wn ek ev)).eraseIdx i=(l.eraseIdx i).map (wn ek ev):=by
  intro l;induction l with
  |nil=>intro i;rfl
  |cons x l ih=>intro i;cases i with|zero=>rfl|succ i=>simp only[aq,List.eraseIdx_cons_succ,ih]
 simp only[bN,nr,hk,hl,rY];rw[if_pos trivial];simp only[h];unfold yB;cases hf:iQ k m.es 0 with|none=>simp only[eg]|some p=>obtain⟨i,e⟩:=p;simp only[bh,er]
end
open Go.ChangeShapes Go.WideShapes Go.ChangeAt Go.RowKit
def S0(w:World)(b:Nat):Prop:=b<w.heap.size
def il(w:World)(cs:List Value)(ds:List D):Prop:=cs.length=ds.length/\∀(j:Nat)(d:D)(v:Value),ds[j]?=some d->cs[j]?=some v->RD (S0 w) w d v
def mR(P:Program)(t:TypeId){α:Type}(enc:α->List D)(fit:α->Prop):Prop:=∀(H:Type)(e:TypeId×Value->H)(w:World)(fuel:Nat)(cs:List Value)(x:DataW H×List MemPlace),DataW.trod e P w 0 (fun _=>true) true fuel t cs=some x->∃a,fit a/\il w cs (enc a)
section
variable{P:Program}{t e:TypeId}
theorem il.one{w:World}{v:Value}{d:D}(h:RD (S0 w) w d v):il w [v] [d]:=by refine⟨rfl,fun j d' v' hd hv=>?_⟩;cases j with|zero=>obtain rfl:=aa hd;obtain rfl:=aa hv;exact h|succ j=>simp at hd
theorem il.Lp{w:World}{cs:List Value}{n:Nat}{a b:List D}(h1:il w (cs.take n) a)(h2:il w (cs.drop n) b)(hn:n<=cs.length):il w cs (a++b):=by
 have l1:n=a.length:=by rw[<-h1.1];simp;omega
 refine⟨by have:=h1.1;have:=h2.1;simp at*;omega,fun j d v hd hv=>?_⟩;by_cases hj:j<a.length
 .rw [List.getElem?_append_left hj]at hd;exact h1.2 j d v hd (by rw[List.getElem?_take,if_pos (by omega)];exact hv)
 .rw [List.getElem?_append_right (by omega)]at hd;refine h2.2 (j-a.length) d v hd ?_;rw[List.getElem?_drop,l1,show a.length+(j-a.length)=j by omega];exact hv
theorem il.nil{w:World}{cs:List Value}(h:cs.length=0):il w cs []:=⟨h,fun j d v hd=>by simp at hd⟩
theorem C9{k:IntKind}(ht:P.underlying t=some (.int k)):mR P t (fun x:Int=>[dI k x]) (fun x=>k.min<=x/\x<=k.max):=by intro H en w fuel cs x h;obtain⟨n,rfl,_,hw⟩:=DataW.trod_int ht h;exact⟨n,by simpa[Lit.wf]using hw,.one (.lit rfl)⟩
theorem Aw(ht:P.underlying t=some .bool):mR P t (fun x:Bool=>[dB x]) (fun _=>True):=by intro H en w fuel cs x h;obtain⟨n,rfl,_⟩:=DataW.trod_bool ht h;exact⟨n,trivial,.one (.lit rfl)⟩
theorem wh(ht:P.underlying t=some .string):mR P t (fun x:ByteArray=>[dS x]) (fun s=>s.size<=maxLen):=by intro H en w fuel cs x h;obtain⟨n,rfl,_,hm⟩:=DataW.trod_string ht h;exact⟨n,hm,.one (.lit rfl)⟩
theorem yh{k:FloatKind}(ht:P.underlying t=some (.float k)):mR P t (fun x:Nat=>[D.lit (.float k x)]) (fun b=>(Lit.float k b).wf=true):=by
 intro H en w fuel cs x h;cases fuel with
 |zero=>simp[DataW.trod]at h
 |succ n=>
  unfold DataW.trod at h;simp only[ht]at h
  match cs,h with
  |[.float k' b],h=>
   simp only at h;split at h
   .rename_i hw;obtain⟨rfl,hw⟩:=hw;exact⟨b,hw,.one (.lit rfl)⟩
   .simp at h
theorem yg{α:Type}[Inhabited α]{enc:α->List D}{fit:α->Prop}{sz:Nat}(ht:P.underlying t=some (.slice e))(hc:P.cellsOf e=sz)(hsz:0<sz)(hlen:∀a,(enc a).length=sz)(he:mR P e enc fit):
  mR P t (fun s:Sl α=>[pF sz enc s]) (fun s=>s.l.length<=maxLen/\∀x∈s.l,fit x):=by
 intro H en w fuel cs x h;rcases Go.Deep.open_slice ht h with⟨rfl,_⟩|⟨a,len,cap,m,n,D',Pl,rfl,hb,hl,hmax,hm,_,hx⟩
 .exact ⟨.nil,⟨by simp[Sl.l],by simp[Sl.l]⟩,.one (.lit rfl)⟩
 .simp only[if_true]at hm;rw[hm]at hx;have hx':∀i,i<len->∃y,fit y/\∃cs',w.cells? 0 (a.add (i*sz)) sz=some cs'/\il w cs' (enc y):=by intro i hi;obtain⟨cs',h1,h2⟩:=hx i (by omega);obtain⟨y,h3,h4⟩:=he H en w n cs' _ h2;rw[hc]at h1;exact⟨y,h3,cs',h1,h4⟩
  have hch:∃Y:Nat->α,∀i,i<len->fit (Y i)/\∃cs',w.cells? 0 (a.add (i*sz)) sz=some cs'/\il w cs' (enc (Y i)):=by refine⟨fun i=>if hi:i<len then Classical.choose (hx' i hi)else default,fun i hi=>?_⟩;simp only[dif_pos hi];exact Classical.choose_spec (hx' i hi)
  obtain⟨Y,hY⟩:=hch;refine⟨.mk ((dz len).map Y),⟨by simp[Sl.l];omega,fun x hx=>?_⟩,.one ?_⟩
  .simp only[Sl.l,List.mem_map,List.mem_range]at hx;obtain⟨i,hi,rfl⟩:=hx;exact(hY i hi).1
  .simp only[pF]
   have hrow:∀(i:Nat)(r:List D),(((dz len).map Y).map enc)[i]?=some r->i<len/\r=enc (Y i):=by
    intro i r hi;rw[aB,aB]at hi;by_cases hlt:i<len
    .rw [List.getElem?_range hlt]at hi;exact⟨hlt,by simpa using hi.symm⟩
    .rw [List.getElem?_eq_none (by simp;omega)]at hi;simp at hi
   by_cases h0:cap=0
   .obtain rfl:len=0:=by omega
    subst h0;exact .nV hsz
   .have hcell:∀i,i<cap->∃cs',w.cells? 0 (a.add (i*sz)) sz=some cs':=by intro i hi;obtain⟨cs',h1,h2⟩:=hx i hi;rw[hc]at h1;exact⟨cs',h1⟩
    obtain⟨cs0,h1⟩:=hcell 0 (by omega);obtain⟨_,hl0,hc0⟩:=World.cells?_some h1;have hz:=hc0 0 hsz;rw[Nat.zero_mul]at hz;have hadd:(a.add 0).add 0=a:=by simp[Addr.add]
    rw[hadd,ai (by omega)]at hz;obtain⟨b,off,spot⟩:=a
    have hsp:spot=none/\b<w.heap.size:=by
     unfold World.cell? at hz;split at hz
     .rename_i hh;split at hz
      .simp at hz
      .rename_i hs;refine⟨by simpa using hs,(aP.1 hh).1⟩
     .simp at hz
    obtain⟨rfl,hblk⟩:=hsp
    have key:∀(i:Nat)(r:List D),(((dz len).map Y).map enc)[i]?=some r->∀(j:Nat)(x:D),r[j]?=some x->∃v,w.cell? ⟨b,off+i*sz+j,none⟩=some v/\RD (S0 w) w x v:=by
     intro i r hi j x hj;obtain⟨hlt,rfl⟩:=hrow i r hi;obtain⟨_,cs',h2,h3⟩:=hY i hlt;obtain⟨_,h4,h5⟩:=World.cells?_some h2;have hjl:j<sz:=by rw[<-hlen (Y i)];exact(ah.1 hj).1
     have h6:=h5 j hjl;rw[kL,kL,ai (by omega)]at h6;exact⟨_,h6,h3.2 j x _ hj (ai (by omega))⟩
    have hh:=RD.sl (S:=S0 w) (w:=w) (sz:=sz) (rows:=((dz len).map Y).map enc) (b:=b) (off:=off) (cap:=cap) (fun i j=>(w.cell? ⟨b,off+i*sz+j,none⟩).getD undef) hblk hsz (by simp;omega)
     (fun i r hi=>by obtain⟨_,rfl⟩:=hrow i r hi;exact hlen _) (fun i r hi j x hj=>by obtain⟨v,h2,_⟩:=key i r hi j x hj;rw[h2];rfl) (fun i r hi j x hj=>by obtain⟨v,h2,h3⟩:=key i r hi j x hj;rw[h2];exact h3)
    simpa using hh
theorem yi{H:Type}{en:TypeId×Value->H}{w:World}{fuel:Nat}{cs:List Value}{x:DataW H×List MemPlace}{fs:Array Field}(ht:P.underlying t=some (.struct fs))(h:DataW.trod en P w 0 (fun _=>true) true fuel t cs=some x){i:Nat}{f:Field}(hi:fs[i]?=some f)
  {α:Type} {enc:α->List D} {fit:α->Prop} (ho:mR P f.type enc fit):∃a,fit a/\il w ((cs.drop f.offset).take (P.cellsOf f.type)) (enc a):=by
 obtain⟨xs,n,rfl,_,hl,hxl,hf⟩:=DataW.trod_struct ht h;have h1:=hf i f hi;have hlt:i<xs.length:=by rw[hxl];exact(aP.1 hi).1
 rw[ai hlt]at h1;exact ho H en w n _ _ h1
theorem zV{H:Type}{en:TypeId×Value->H}{w:World}{fuel:Nat}{cs:List Value}{x:DataW H×List MemPlace}{fs:Array Field}(ht:P.underlying t=some (.struct fs))(h:DataW.trod en P w 0 (fun _=>true) true fuel t cs=some x):cs.length=P.cellsOf t:=by obtain⟨xs,n,rfl,_,hl,_⟩:=DataW.trod_struct ht h;exact hl
theorem D5{H:Type}{en:TypeId×Value->H}{w:World}{fuel:Nat}{cs:List Value}{x:DataW H×List MemPlace}{n:Nat}(ht:P.underlying t=some (.array n e))(h:DataW.trod en P w 0 (fun _=>true) true fuel t cs=some x):cs.length=P.cellsOf t:=by obtain⟨_,_,_,_,hl,_⟩:=DataW.trod_array ht h;exact hl
theorem Av{H:Type}{en:TypeId×Value->H}{w:World}{fuel:Nat}{cs:List Value}{x:DataW H×List MemPlace}{n:Nat}(ht:P.underlying t=some (.array n e))(h:DataW.trod en P w 0 (fun _=>true) true fuel t cs=some x){i:Nat}(hi:i<n)
  {α:Type} {enc:α->List D} {fit:α->Prop} (ho:mR P e enc fit):∃a,fit a/\il w ((cs.drop (i*P.cellsOf e)).take (P.cellsOf e)) (enc a):=by
 obtain⟨xs,m,_,_,_,hxl,hf⟩:=DataW.trod_array ht h;have h1:=hf i hi;have hlt:i<xs.length:=by omega
 rw[ai hlt]at h1;exact ho H en w m _ _ h1
theorem il.field{w:World}{cs:List Value}{off n m:Nat}{a b:List D}(h1:il w ((cs.drop off).take n) a)(hm:off+n=m)(h2:il w (cs.drop m) b)(hl:m<=cs.length):il w (cs.drop off) (a++b):=by refine il.Lp h1 ?_ (by simp;omega);rw[List.drop_drop,hm];exact h2
theorem uw{w:World}{r:Reach}{b:Nat}{v:Value}(h:Value.okWide P w r b t v)(hs:match P.underlying t with|some (.struct _)|some (.array _ _)|some (.interface _)|some (.func ..)|some (.chan ..)|some .unsafePointer|some (.map _ _)=>False|_=>True):one v=true:=by
 unfold Value.okWide at h;split at h
 .rename_i he;rw[he]at hs;exact hs.elim
 .rename_i he;rw[he]at hs;exact hs.elim
 .unfold Cell.okWide at h;split at h
  all_goals first
   |(rename_i he;rw[he]at hs;exact hs.elim)
   |skip
  unfold Cell.ok at h;split at h<;>first|rfl|exact h.elim
theorem Md{α:Type}{d:α->D}{fit:α->Prop}(ho:mR P t (fun a=>[d a]) fit){w:World}{r:Reach}{b:Nat}{v:Value}(hv:Value.okWide P w r b t v)
  (hs:match P.underlying t with|some (.struct _)|some (.array _ _)|some (.interface _)|some (.func ..)|some (.chan ..)|some .unsafePointer|some (.map _ _)=>False|_=>True)
  {H:Type} {en:TypeId×Value->H} {x:DataW H} {ps:List MemPlace} (h:DataW.Trod en P w 0 (fun _=>true) true t v x ps):∃a,fit a/\RA (S0 w) w (.d (d a)) v []:=by
 obtain⟨fuel,h⟩:=h;obtain⟨a,h1,h2⟩:=ho H en w fuel _ _ h;have hone:=nu (uw hv hs);refine⟨a,h1,?_,rfl⟩;exact h2.2 0 _ v rfl (by rw[hone];rfl)
theorem GH{α:Type}{enc:α->List D}{fit:α->Prop}(ho:mR P t enc fit){w:World}{v:Value}{aH:Array Value}(hv:v=.agg aH)
  {H:Type} {en:TypeId×Value->H} {x:DataW H} {ps:List MemPlace} (h:DataW.Trod en P w 0 (fun _=>true) true t v x ps):∃a,fit a/\RA (S0 w) w (.agg (enc a)) v []:=by
 subst hv;obtain⟨fuel,h⟩:=h;obtain⟨a,h1,h2⟩:=ho H en w fuel _ _ h;have h3:(Value.agg aH).cells.toList=aH.toList:=rfl;rw[h3]at h2;refine⟨a,h1,aH,rfl,by have:=h2.1;simpa using this.symm,fun i d hi=>?_,rfl⟩;have hlt:i<aH.size:=by have:=h2.1;have:=(ah.1 hi).1;simp at*;omega
 refine h2.2 i d _ hi ?_;rw[Array.getElem?_toList,Array.getD_eq_getD_getElem?,Array.getElem?_eq_getElem hlt];rfl
theorem IP{α:Type}{enc:α->List D}{fit:α->Prop}(ho:mR P t enc fit){w:World}{r:Reach}{b:Nat}{v:Value}(hv:Value.okWide P w r b t v){fs:Array Field}(hs:P.underlying t=some (.struct fs))
  {H:Type} {en:TypeId×Value->H} {x:DataW H} {ps:List MemPlace} (h:DataW.Trod en P w 0 (fun _=>true) true t v x ps):∃a,fit a/\RA (S0 w) w (.agg (enc a)) v []:=by
 unfold Value.okWide at hv;rw[hs]at hv;obtain⟨aH,hv,_,_⟩:=hv;exact GH ho hv h
theorem IN{α:Type}{enc:α->List D}{fit:α->Prop}(ho:mR P t enc fit){w:World}{r:Reach}{b:Nat}{v:Value}(hv:Value.okWide P w r b t v){n:Nat}(hs:P.underlying t=some (.array n e))
  {H:Type} {en:TypeId×Value->H} {x:DataW H} {ps:List MemPlace} (h:DataW.Trod en P w 0 (fun _=>true) true t v x ps):∃a,fit a/\RA (S0 w) w (.agg (enc a)) v []:=by
 unfold Value.okWide at hv;rw[hs]at hv;obtain⟨aH,hv,_,_⟩:=hv;exact GH ho hv h
theorem um{H:Type}{en:TypeId×Value->H}(hl:laidOutB P=true){W W':World}{sp:Nat->Bool}:∀{ts:List TypeId}{vs:List Value}{ds:List (DataW H)}{ps:List MemPlace},ts.all (fun t=>P.readableRec t&&decide (t<P.types.size))=true->
  DataW.TrodAll en P W 0 (fun _=>true) true ts vs ds ps->(∀p∈ps,W.sameAt W' p)->(∀p∈ps,sp p.block=true)->DataW.TrodAll en P W' 0 sp true ts vs ds ps:=by
 intro ts;induction ts with
 |nil=>intro vs ds ps _ h _ _;cases vs<;>cases ds<;>exact h
 |cons t ts ih=>
  intro vs ds ps hts h hsame hsp;cases vs with
  |nil=>cases ds<;>exact h
  |cons v vs=>
   cases ds with
   |nil=>exact h
   |cons d ds=>
    obtain⟨p,q,h1,h2,rfl⟩:=h;simp only[List.all_cons,Bool.and_eq_true,decide_eq_true_eq]at hts
    exact⟨p,q,WideElems.Trod_stays hl hts.1.1 hts.1.2 h1 (fun x hx=>hsame x (aC _ hx)) (fun x hx=>hsp x (aC _ hx)),
     ih hts.2 h2 (fun x hx=>hsame x (aA _ hx)) (fun x hx=>hsp x (aA _ hx)),rfl⟩
theorem we{P:Program}{H:Type}{enc:TypeId×Value->H}{f:Func}{s:ChangeSpec}{jc eJ handsOn again:Bool}{W W':World}{args:Array Value}{v:Value}{ds gs:List (DataW H)}{dw pa pv:List MemPlace}
  (hW:DataW.Whole enc P f.params.toList s.vars jc W args.toList ds gs dw)
  (hres:∀(b:Nat)(sp:Nat->Bool)(hd:Bool),DataW.TrodAll enc P W' b sp hd f.resultTypes.toList (v.resultList f.resultTypes.size) (s.fn H (ds++gs)).results [])
  (hargs:∀sp:Nat->Bool,(∀p∈dw,sp p.block=true)->DataW.TrodAll enc P W' 0 sp true f.params.toList args.toList (s.fn H (ds++gs)).args pa)
  (hvars:∀sp:Nat->Bool,(∀p∈dw,sp p.block=true)->DataW.TrodVars enc P W' sp s.vars (s.fn H (ds++gs)).vars pv)
  (hps:dw=pa++pv) (hk:W.keptBut W' (·∈dw)) (hfz:∀a,a.block<W.heap.size->W'.frozen? a=W.frozen? a)
  (hok:∀(j:Nat)(t:TypeId)(r:Value),f.resultTypes[j]?=some t->(v.resultList f.resultTypes.size)[j]?=some r->Value.okWide P W' .any 0 t r):
  s.post enc P f jc eJ handsOn again W args v W':=by
 have hold:∀p∈dw,(fun b=>decide (b<W.heap.size)) p.block=true:=fun p hp=>by simpa using hW.lt p hp
 refine⟨ds,gs,dw,[],pa,pv,hW,hres _ _ _,hargs _ hold,hvars _ hold,World.keptBut_mono (fun p hp=>⟨hp,?_⟩) hk,fun _=>?_⟩
 .rw [hps,List.mem_append]at hp;exact Or.inr hp
 .have hlt:=fun p hp=>hW.lt p hp;obtain⟨_,_,_,_,_,hz,hn⟩:=hW;refine⟨hok,_,_,([]++pa)++pv,⟨[]++pa,pv,trodAll_append (hargs _ (fun _ _=>rfl)) (hres _ _ _),hvars _ (fun _ _=>rfl),rfl,?_,?_⟩,?_⟩
  .intro b off hp;rw[hfz _ (hlt _ (by rw[hps];simpa using hp))];exact hz b off (by rw[hps];simpa using hp)
  .intro ha;have:=hn ha;rw[hps]at this;simpa using this
  .intro p hp _;rw[hps];simpa using hp
theorem Gp{f:FuncId}{fn:Func}{s:ChangeSpec}{jc eJ handsOn again:Bool}{tb:TypeId}{H:Type}{en:TypeId×Value->H}(hl:laidOutB P=true)(hfn:P.funcs[f]?=some fn)(hbody:fn.body.isSome=true)(hname:(fn.name== "runtime.NumGoroutine")=false)
  (hts:fn.params.toList.all (fun t=>P.readableRec t&&decide (t<P.types.size))=true) (hrt:fn.resultTypes= #[tb]) (htb:P.underlying tb=some .bool) (hvars:s.vars=[])
  {W:World} {args:Array Value} {ds gs:List (DataW H)} {dw:List MemPlace} (hW:DataW.Whole en P fn.params.toList s.vars jc W args.toList ds gs dw)
  (hspec:(s.fn H (ds++gs)).results=[.lit (.bool true)]/\(s.fn H (ds++gs)).args=ds/\(s.fn H (ds++gs)).vars=[])
  (hgl:ph (S0 W) W) (hG:∃as,Ec (S0 W) W as args.toList []/\rh P f as [.c (.d (.lit (.bool true)))] []):
  Calls P f args W fun e W'=>∃v,e=.returned v/\s.post en P fn jc eJ handsOn again W args v W':=by
 obtain⟨as,hras,hgood⟩:=hG;have hent:=hgood (S0 W) W args.toList [] (fun b hb=>hb) hras List.nodup_nil (fun b hb=>by simp at hb) hgl;have hcall:(callFunc f args).run P W=.ok (.enter f args) W:=by have hb:∃c,fn.body=some c:=Option.isSome_iff_exists.1 hbody;obtain⟨c,hb⟩:=hb;simp[callFunc,run_program,hfn,hb];intro e;rw[e]at hname;simp at hname
 rw[Array.toArray_toList]at hent;rcases hent with⟨g,as',h1,h2⟩|⟨v,h1,_⟩
 .rw [hcall]at h1;obtain⟨⟨rfl,rfl⟩,_⟩:(f=g/\args=as')/\True:=by simpa using h1
  refine h2.mono fun e W' hp=>?_;obtain⟨v,rfl,S',gO,fp1,fp2,rfl,dm,hsub,hlt,hrr,hrt',hnd,hb,hfrm⟩:=hp
  have hv:pI gO=.bool true:=by
   cases gO with
   |nil=>exact hrr.elim
   |cons v gO=>
    obtain⟨f1,f2,_,h3,h4⟩:=hrr;cases gO with
    |cons _ _=>exact h4.elim
    |nil=>cases h3 with|d h5=>cases h5;rfl
  refine⟨_,rfl,?_⟩;rw[hv];have hheap:∀b,b<W.heap.size->W'.heap[b]?=W.heap[b]?:=fun b hb=>dm.same b hb;obtain⟨p,q,hA,hV,hpq,hfz,hno⟩:=id hW;have hV':DataW.TrodVars en P W (fun _=>true) [] gs q:=by rw[<-hvars];exact hV
  obtain⟨rfl,rfl⟩:=trodVars_none hV'
  have hkept:∀may:MemPlace->Prop,W.keptBut W' may:=by
   intro may;refine⟨hfrm.io.1,hfrm.io.2.1,fun i hi=>?_⟩;have:=hheap i hi;rw[this];cases hx:W.heap[i]?with
   |none=>trivial
   |some o=>cases o<;>simp
  refine we (pa:=dw) (pv:=[]) hW (fun _ _ _=>?_) (fun sp hsp=>?_) (fun _ _=>?_) (by simp) (hkept _) hfrm.vi ?_
  .rw [hspec.1,hrt];exact trodAll_cons_mk (shut_bool htb _) trodAll_mk0
  .rw [hspec.2.1];have hbp:dw=p:=by rw[hpq,List.append_nil]
   refine um hl hts (by rw[hbp];exact hA) (fun x hx=>?_) hsp;have hx':=hW.lt x hx;have hs:=hheap x.block hx';cases x with|cell b off=>exact jt hs off|map b=>exact hs
  .rw [hspec.2.2,hvars];rfl
  .exact ok_one hrt rfl (okWide_bool_mk htb _)
 .rw [hcall]at h1;simp at h1
end
end Go.Ev
