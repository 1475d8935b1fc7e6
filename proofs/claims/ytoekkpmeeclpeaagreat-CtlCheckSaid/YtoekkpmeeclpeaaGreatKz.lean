/- The example by running, the great calls each for itself. Conditions: none. -/
import Derived.Test.YtoekkpmeeclpeaaGreatKy
open Bool renaming and_eq_true->ak
open Nat renaming beq->gb,eq_of_beq_eq_true->bB
open Option.some renaming inj->aa
noncomputable section
namespace Go.Proofs.YtoekkpmeeclpeaaGreat.S
open Go Go.Ev
def D5:Ev.Call:=fun f al=>bif gb f 133 then(if al.length<=42 then C5 al else none)else YF 268 166 f al
theorem S5:Tryz.prog.follows .mixedOrders=true:=by kernel_rfl
theorem Te:fg Tryz.prog D5:=by
 intro f al rs outs h;unfold D5 at h;cases hf:gb f 133 with
 |true=>
  rw[hf,cond_true]at h;obtain rfl:=bB hf;split at h
  .exact EJ S5 (by assumption) h
  .cases h
 |false=>rw[hf,cond_false]at h;exact Td (by kernel_rfl) (by kernel_rfl) (by kernel_rfl) (by kernel_rfl) f al rs outs h
def uo{α:Type}(f:α->α->Bool):List α->List α->Bool
 |[],[]=>true
 |a::l,b::m=>f a b&&uo f l m
 |_,_=>false
theorem uU{α:Type}{f:α->α->Bool}(hf:∀a b,f a b=true->a=b):∀l m,uo f l m=true->l=m:=by
 intro l;induction l with
 |nil=>intro m h;cases m with|nil=>rfl|cons b m=>cases h
 |cons a l ih=>intro m h;cases m with|nil=>cases h|cons b m=>simp only[uo,ak]at h;rw[hf _ _ h.1,ih _ h.2]
def YG:Value->Value->Bool
 |.int .i64 a,.int .i64 b=>decide (a=b)
 |.int .u64 a,.int .u64 b=>decide (a=b)
 |.float .f64 a,.float .f64 b=>gb a b
 |.slice none 0 0,.slice none 0 0=>true
 |_,_=>false
theorem N_(a b:Value)(h:YG a b=true):a=b:=by
 unfold YG at h;split at h
 .rw [of_decide_eq_true h]
 .rw [of_decide_eq_true h]
 .rw [bB h]
 .rfl
 .cases h
def Ua:Nat->D->D->Bool
 |_,.lit a,.lit b=>YG a b
 |n+1,.sl s r,.sl t q=>gb s t&&uo (uo (Ua n)) r q
 |_,_,_=>false
theorem Oa:∀n a b,Ua n a b=true->a=b:=by
 intro n;induction n with
 |zero=>
  intro a b h;unfold Ua at h;split at h
  .rw [N_ _ _ h]
  .rename_i h2;exact absurd h2 (by omega)
  .cases h
 |succ n ih=>
  intro a b h;unfold Ua at h;split at h
  .rw [N_ _ _ h]
  .rename_i h2;obtain rfl:=Nat.succ.inj h2;rw[ak]at h;rw[bB h.1,uU (uU ih) _ _ h.2]
  .cases h
def VF:A->A->Bool
 |.d a,.d b=>Ua 9 a b
 |.agg l,.agg m=>uo (Ua 9) l m
 |_,_=>false
theorem Tl(a b:A)(h:VF a b=true):a=b:=by
 unfold VF at h;split at h
 .rw [Oa _ _ _ h]
 .rw [uU (Oa 9) _ _ h]
 .cases h
abbrev TE:Type:=Nat×List A×List R×List T
def Cq(ex:Ev.Call):List TE->Ev.Call
 |[]=>ex
 |(g,bl,rs,outs)::r=>fun f al=>bif gb f g&&uo VF al bl then some (rs,outs)else Cq ex r f al
theorem Qu{P:Program}{ex:Ev.Call}{e:TE}{l:List TE}(he:Go.Ev.xw P e.1 e.2.1 e.2.2.1 e.2.2.2)(hl:fg P (Cq ex l)):fg P (Cq ex (e::l)):=by obtain⟨g,bl,r0,o0⟩:=e;intro f al rs outs h;simp only[Cq]at h;cases hc:gb f g&&uo VF al bl with|true=>rw[hc,cond_true]at h;rw[ak]at hc;obtain rfl:=bB hc.1;obtain rfl:=uU Tl _ _ hc.2;obtain⟨rfl,rfl⟩:=Prod.mk.inj (aa h);exact he|false=>rw[hc,cond_false]at h;exact hl f al rs outs h
def Xm:xp:=fun f=>([9,36,47,48,49,50,51,59,63,64,67,74,75,76,99,101,102,104,118,119,120,121,123,124,125,126,127,128,129,130,131,134,135,158,161,165,173,175,178,180,181,182,183,184,185,186,187,188,189,211,212,213,214,215,216,217,219,220,223,224,226,227,232,234,235,236,237,240,241,242,243,257,258,259,260,261,262,263,265,266,270,272,273,274,275,277,278,279,280,283,286,287,288,289,290,291,292,293,294,295,296,297,299,300,301,302,303,304,305,306,307,308,309,310,311,312,313,314,315,316,317,318,319,320,322,323,324,325,326,327,331,333,334,337,340,342].contains f,(bV [(12,[true]),(13,[true]),(15,[true]),(29,[true]),(30,[true]),(61,[true]),(66,[true]),(68,[true]),(109,[true]),(11,[true]),(24,[true]),(27,[true]),(28,[true]),(57,[true]),(58,[true]),(60,[true]),(62,[true]),(65,[true]),(70,[true]),(71,[true]),(72,[true]),(110,[true]),(112,[true]),(113,[true]),(114,[true]),(115,[true]),(116,[true]),(133,[true]),(172,[true]),(212,[true]),(220,[true]),(234,[true]),(237,[true]),(238,[true]),(259,[true]),(263,[true]),(272,[true]),(274,[true]),(286,[true]),(287,[true]),(288,[true]),(290,[true]),(291,[true]),(292,[true]),(293,[true]),(296,[true]),(297,[true]),(303,[true]),(304,[true]),(305,[true]),(307,[true]),(308,[true]),(309,[true]),(310,[true]),(311,[true]),(312,[true]),(313,[true]),(315,[true]),(316,[true]),(318,[true]),(319,[true]),(326,[true]),(328,[true]),(329,[false,false,true]),(330,[false,false,false,false,true]),(331,[true]),(334,[true]),(335,[false,false,true]),(336,[false,false,false,false,true]),(337,[true]),(338,[false,false,true]),(339,[false,false,false,false,true]),(341,[false,false,false,true]),(342,[true]),(343,[false,false,false,true]),(344,[false,false,false,true])] f).getD [])
def YZ(f:Nat):xp:=fun g=>if g=1000000002 then(f=122,[])else if g=1000000000 then(f=52,[])else Xm g
def Y7(f:Nat):List Nat:=if f=162 then[8]else[]
def J0(l:List TE)(e:TE):Prop:=Ms Tryz.prog YZ Y7 (Cq D5 l) 200 e.1 e.2.1=some (e.2.2.1,e.2.2.2)
theorem th{l:List TE}{e:TE}(hl:fg Tryz.prog (Cq D5 l))(h:J0 l e):fg Tryz.prog (Cq D5 (e::l)):=Qu (IN S5 hl 200 _ _ _ _ h) hl
def nI(n:Int):D:=.lit (.int .i64 n)
def nF(n:Nat):D:=.lit (.float .f64 n)
def O5:D:=(.sl 6 [[nI 0,nI 0,nI 1,nI 0,nI 1,nI 2],[nI 1,nI 1,nI 2,nI 0,nI 1,nI 2],[nI 0,nI 1,nI 2,nI 1,nI 1,nI 2]])
def VB:D:=(.sl 1 [[nF 4607182418800017408],[nF 4607182418800017408],[nF 4607182418800017408]])
def VA:D:=(.sl 1 [[nF 4607182418800017408],[nF 4607182418800017408],[nF 4621819117588971520]])
def O4:D:=(.sl 2 [[nI 2,nI 7],[nI 0,nI 7]])
def Zw:TE:=(162,[(.agg [nI 3,O5,O4]),(.d VB),(.d (nI 2))],[(.c (.sl 1 [[nF 4607182418800017408],[nF 4607182418800017408],[nF 0]]))],[])
def Zv:TE:=(162,[(.agg [nI 3,O5,O4]),(.d VB),(.d (nI 0))],[(.c (.sl 1 [[nF 0],[nF 4607182418800017408],[nF 4607182418800017408]]))],[])
def Zu:TE:=(162,[(.agg [nI 3,O5,O4]),(.d VA),(.d (nI 2))],[(.c (.sl 1 [[nF 4611686018427387904],[nF 4607182418800017408],[nF 0]]))],[])
def Zt:TE:=(162,[(.agg [nI 3,O5,O4]),(.d VA),(.d (nI 0))],[(.c (.sl 1 [[nF 0],[nF 4607182418800017408],[nF 4611686018427387904]]))],[])
def Zs:TE:=(163,[(.agg [nI 3,O5,O4]),(.d VB),(.d (nI 2))],[(.c (.sl 1 [[nI 1],[nI 1],[nI 0]]))],[])
def Zr:TE:=(163,[(.agg [nI 3,O5,O4]),(.d VB),(.d (nI 0))],[(.c (.sl 1 [[nI 0],[nI 1],[nI 1]]))],[])
def Zq:TE:=(163,[(.agg [nI 3,O5,O4]),(.d VA),(.d (nI 2))],[(.c (.sl 1 [[nI 2],[nI 1],[nI 0]]))],[])
def Zp:TE:=(163,[(.agg [nI 3,O5,O4]),(.d VA),(.d (nI 0))],[(.c (.sl 1 [[nI 0],[nI 1],[nI 2]]))],[])
def Zo:TE:=(22,[(.agg [nI 3,O5,O4,(.sl 1 [[(.sl 1 [[(.lit (.int .u64 (4607182418800017408)))],[(.lit (.int .u64 (4607182418800017408)))],[(.lit (.int .u64 (4607182418800017408)))]])],[(.sl 1 [[(.lit (.int .u64 (4607182418800017408)))],[(.lit (.int .u64 (4607182418800017408)))],[(.lit (.int .u64 (4621819117588971520)))]])]]),(.sl 1 [[nI 0],[nI 5],[nI (-7)]]),nI 100,nI 8,nI 20,nI 10,nI 2,nI 5])],[(.c (.sl 1 [[(.sl 1 [[(.sl 1 [[nI 1],[nI 7]])],[(.sl 1 [[nI 1],[nI 0]])],[(.sl 1 [[nI 7],[nI 1]])]])],[(.sl 1 [[(.sl 1 [[nI 0],[nI 7]])],[(.sl 1 [[nI 1],[nI 0]])],[(.sl 1 [[nI 7],[nI 0]])]])]])),(.c (.d (nI 0)))],[])
def Zn:TE:=(22,[(.agg [nI 1,(.lit (.slice none 0 0)),(.lit (.slice none 0 0)),(.sl 1 [[(.lit (.slice none 0 0))],[(.lit (.slice none 0 0))]]),(.sl 1 [[nI 0]]),nI 0,nI 0,nI 0,nI 0,nI 0,nI 1])],[(.c (.sl 1 [[(.sl 1 [[(.lit (.slice none 0 0))]])],[(.sl 1 [[(.lit (.slice none 0 0))]])]])),(.c (.d (nI 0)))],[])
def VY:TE:=(117,[(.agg [nI 3,O5,O4]),(.d (.sl 1 [[(.sl 1 [[nI 1],[nI 7]])],[(.sl 1 [[nI 1],[nI 0]])],[(.sl 1 [[nI 7],[nI 1]])]])),(.d (.sl 1 [[(.sl 1 [[nI 0],[nI 7]])],[(.sl 1 [[nI 1],[nI 0]])],[(.sl 1 [[nI 7],[nI 0]])]])),(.d (nI 1)),(.d (nI 42)),(.d (nI 10))],[(.agg [(.d (.sl 4 [[nI 0,nI 0,nI 0,nI 2],[nI 2,nI 1,nI 0,nI 2]])),(.sl 3 [[nI 2,nI 60,(.sl 1 [[nI 0],[nI 2]])]]),(.d (nI 42)),(.d (nI 6)),(.d (nI 12)),(.d (nI 102))]),(.c (.d (nI 0)))],[])
def VX:TE:=(117,[(.agg [nI 1,(.lit (.slice none 0 0)),(.lit (.slice none 0 0))]),(.d (.sl 1 [[(.lit (.slice none 0 0))]])),(.d (.sl 1 [[(.lit (.slice none 0 0))]])),(.d (nI 0)),(.d (nI 2)),(.d (nI 0))],[(.agg [(.d (.lit (.slice none 0 0))),(.d (.lit (.slice none 0 0))),(.d (nI 0)),(.d (nI 0)),(.d (nI 0)),(.d (nI 0))]),(.c (.d (nI 7)))],[])
def VU:List TE:=Zw::[]
def VT:List TE:=Zv::VU
def VS:List TE:=Zu::VT
def VR:List TE:=Zt::VS
def VQ:List TE:=Zs::VR
def VP:List TE:=Zr::VQ
def VO:List TE:=Zq::VP
def VN:List TE:=Zp::VO
def VM:List TE:=Zo::VN
def VL:List TE:=Zn::VM
def R4:List TE:=VY::VL
def Uh:List TE:=VX::R4
theorem Zm:fg Tryz.prog (Cq D5 VU):=th (l:=[]) Te (by unfold J0;kernel_rfl)
theorem Zl:fg Tryz.prog (Cq D5 VT):=th (l:=VU) Zm (by unfold J0;kernel_rfl)
theorem Zk:fg Tryz.prog (Cq D5 VS):=th (l:=VT) Zl (by unfold J0;kernel_rfl)
theorem Zj:fg Tryz.prog (Cq D5 VR):=th (l:=VS) Zk (by unfold J0;kernel_rfl)
theorem Zi:fg Tryz.prog (Cq D5 VQ):=th (l:=VR) Zj (by unfold J0;kernel_rfl)
theorem Zh:fg Tryz.prog (Cq D5 VP):=th (l:=VQ) Zi (by unfold J0;kernel_rfl)
theorem Zg:fg Tryz.prog (Cq D5 VO):=th (l:=VP) Zh (by unfold J0;kernel_rfl)
theorem Zf:fg Tryz.prog (Cq D5 VN):=th (l:=VO) Zg (by unfold J0;kernel_rfl)
theorem Ze:fg Tryz.prog (Cq D5 VM):=th (l:=VN) Zf (by unfold J0;kernel_rfl)
theorem Zd:fg Tryz.prog (Cq D5 VL):=th (l:=VM) Ze (by unfold J0;kernel_rfl)
theorem VW:fg Tryz.prog (Cq D5 R4):=th (l:=VL) Zd (by unfold J0;kernel_rfl)
theorem VV:fg Tryz.prog (Cq D5 Uh):=th (l:=R4) VW (by unfold J0;kernel_rfl)
def uf:Option Bool:=some true
theorem x7:uf=some true:=rfl
theorem OK:bw Tryz.prog 9 ⟨[],[([.x .b],[])],true,[],fun _=>some true⟩:=Mo (sg:=YZ) (cu:=Y7) (ex:=Cq D5 Uh) (d:=200) S5 VV (by kernel_rfl)
end Go.Proofs.YtoekkpmeeclpeaaGreat.S
