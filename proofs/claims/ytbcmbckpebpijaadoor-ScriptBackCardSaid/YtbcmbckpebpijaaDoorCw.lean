/- Words, steps that may be told, their lines. Conditions: as stated. -/
import Derived.Test.YtbcmbckpebpijaaDoorCn
open Bool renaming and_eq_true->ae,eq_iff_iff->hZ,or_eq_true->cV
open List renaming append_nil->aW
open Option renaming bind_some->af
open Go.Ev Go
namespace Go.Proofs.YtbcmbckpebpijaaDoor.C
abbrev S3:Type:=Int×Int×Int
def Ef:List (List UInt8):=[[116,105,99,107],[116,117,114,110],[116,105,109,101,114],[117,112,100,97,116,101],[100,101,108,105,118,101,114],[100,114,111,112],[116,119,105,99,101],[105,110,106,101,99,116],[104,111,112],[99,114,97,115,104],[115,116,97,114,116]]
def o7(k:Int):List UInt8:=Ef.getD (k-1).toNat [63]
def hI(k:Int):Bool:=k==2||k==8||k==10||k==11
def hN(k:Int):Bool:=k !=3&&k !=10&&k !=11
def ml(k:Int):List UInt8:=(bif hI k then[73]else[])++(bif hN k then[78]else[])
theorem tD{k:Int}(h:1<=k/\k<=11):k=1\/k=2\/k=3\/k=4\/k=5\/k=6\/k=7\/k=8\/k=9\/k=10\/k=11:=by omega
theorem rT{k:Int}(h:1<=k/\k<=11):gj k=some (B (o7 k),B (ml k)):=by rcases tD h with rfl|rfl|rfl|rfl|rfl|rfl|rfl|rfl|rfl|rfl|rfl<;>rfl
theorem vR{k:Int}(h:¬(1<=k/\k<=11)):gj k=some (B [63],B []):=by
 have e:∀n:Int,1<=n->n<=11->(k==n)=false:=fun n h1 h2=>by rw[beq_eq_false_iff_ne];omega
 unfold gj;rw[e 1 (by omega) (by omega),e 2 (by omega) (by omega),e 3 (by omega) (by omega),e 4 (by omega) (by omega),e 5 (by omega) (by omega),e 6 (by omega) (by omega),e 7 (by omega) (by omega),e 8 (by omega) (by omega),e 9 (by omega) (by omega),e 10 (by omega) (by omega),e 11 (by omega) (by omega)];rfl
theorem Ct{k:Int}(h:1<=k/\k<=11):gL k=some (B (o7 k)):=by unfold gL;rw[rT h];rfl
def gG(s:S3):Prop:=(1<=s.1/\s.1<=11)/\(-1<=s.2.1/\s.2.1<=15)/\(-1000<=s.2.2/\s.2.2<=1048576)/\(hI s.1=true\/s.2.1=0)/\(hN s.1=true\/s.2.2=0)
instance(s:S3):Decidable (gG s):=by unfold gG;infer_instance
theorem KR{k:Int}(h:1<=k/\k<=11):jE (B (ml k)) (⟨#[73]⟩:ByteArray)=some (hI k):=by rcases tD h with rfl|rfl|rfl|rfl|rfl|rfl|rfl|rfl|rfl|rfl|rfl<;>rfl
theorem KQ{k:Int}(h:1<=k/\k<=11):jE (B (ml k)) (⟨#[78]⟩:ByteArray)=some (hN k):=by rcases tD h with rfl|rfl|rfl|rfl|rfl|rfl|rfl|rfl|rfl|rfl|rfl<;>rfl
theorem Jq{k:Int}(h:1<=k/\k<=11):((B (o7 k)).toList==(⟨#[63]⟩:ByteArray).toList)=false:=by rw[show(⟨#[63]⟩:ByteArray)=B [63]from rfl,xk];rcases tD h with rfl|rfl|rfl|rfl|rfl|rfl|rfl|rfl|rfl|rfl|rfl<;>rfl
theorem tj(s:S3):jo s=some (decide (gG s)):=by
 obtain⟨k,i,n⟩:=s;unfold jo;show(gj k).bind _=_;by_cases hk:1<=k/\k<=11
 case neg=>
  rw[vR hk,show decide (gG (k,i,n))=false from decide_eq_false fun h=>hk h.1];have e0:((B [63]).toList==(⟨#[63]⟩:ByteArray).toList)=true:=by simp
  simp only[af,e0,Bool.true_or,cond_true]
 rw[rT hk];simp only[af];rw[Jq hk];show(bif((((false||decide (i< -1))||decide (i>15))||decide (n< -1000))||decide (n>1048576))then some false else _)=_;by_cases hr:(-1<=i/\i<=15)/\(-1000<=n/\n<=1048576)
 case neg=>rw[show((((false||decide (i< -1))||decide (i>15))||decide (n< -1000))||decide (n>1048576))=true by simp;omega,cond_true,show decide (gG (k,i,n))=false from decide_eq_false fun h=>hr ⟨h.2.1,h.2.2.1⟩]
 rw[show((((false||decide (i< -1))||decide (i>15))||decide (n< -1000))||decide (n>1048576))=false by simp;omega,cond_false,KR hk,KQ hk];show((bif i==0 then bif n==0 then some true else(some (hN k)).bind fun r3=>some r3 else(some (hI k)).bind fun r4=>bif r4 then bif n==0 then some true else(some (hN k)).bind fun r5=>some r5 else some false:Option Bool).bind fun b6=>some b6)=_;have e:decide (gG (k,i,n))=((hI k||i==0)&&(hN k||n==0)):=by rw[hZ];simp only[decide_eq_true_eq,ae,cV,beq_iff_eq];exact⟨fun h=>h.2.2.2,fun h=>⟨hk,hr.1,hr.2,h⟩⟩
 rw[e];cases hi:(i==0)<;>cases hn:(n==0)<;>cases hI k<;>cases hN k<;>rfl
theorem lm(s:S3):jz s=some (decide (gG s)):=by
 obtain⟨k,i,n⟩:=s;unfold jz;show(bif((((((decide (k<1))||(decide (k>11)))||(decide (i<(-1))))||(decide (i>15)))||(decide (n<(-1000))))||(decide (n>1048576)))then(some false)else _)=_;by_cases hr:(1<=k/\k<=11)/\(-1<=i/\i<=15)/\(-1000<=n/\n<=1048576)
 case neg=>rw[show((((((decide (k<1))||(decide (k>11)))||(decide (i<(-1))))||(decide (i>15)))||(decide (n<(-1000))))||(decide (n>1048576)))=true by simp;omega,cond_true,show decide (gG (k,i,n))=false from decide_eq_false fun h=>hr ⟨h.1,h.2.1,h.2.2.1⟩]
 rw[show((((((decide (k<1))||(decide (k>11)))||(decide (i<(-1))))||(decide (i>15)))||(decide (n<(-1000))))||(decide (n>1048576)))=false by simp;omega,cond_false];show(bif((!hI k)&&(i !=0))then some false else some (hN k||n==0))=_;have e:decide (gG (k,i,n))=((hI k||i==0)&&(hN k||n==0)):=by rw[hZ];simp only[decide_eq_true_eq,ae,cV,beq_iff_eq];exact⟨fun h=>h.2.2.2,fun h=>⟨hr.1,hr.2.1,hr.2.2,h⟩⟩
 rw[e];unfold bne;cases hi:(i==0)<;>cases hn:(n==0)<;>cases hI k<;>cases hN k<;>rfl
def f_(s:S3):List UInt8:=o7 s.1++((bif hI s.1 then 32::Lib.itoa s.2.1 else[])++(bif hN s.1 then 32::Lib.itoa s.2.2 else[]))
theorem vP(k:Int):(o7 k).length<=7:=by
 unfold o7;rw[List.getD_eq_getElem?_getD];cases h:Ef[(k-1).toNat]?with
 |none=>decide
 |some w=>
  have:=List.mem_of_getElem? h;revert w;intro w _ hw;have:∀w∈Ef,w.length<=7:=by decide
  exact this w hw
theorem tC{s:S3}(h:gG s):(f_ s).length<=40:=by obtain⟨_,h2,h3,_⟩:=h;have h4:=vP s.1;have h5:=mE (n:=s.2.1) (by omega) (by omega);have h6:=mE (n:=s.2.2) (by omega) (by omega);unfold f_;simp only[List.length_append];cases hI s.1<;>cases hN s.1<;>simp<;>omega
theorem oS{s:S3}(h:gG s){acc hs:List UInt8}{j:Nat}{c:UInt8}(hj:hs[j]?=some c)(ha:acc.length<=100)(hs2:hs.length<=100:=by decide):
  fQ s (B hs) (B acc,(j:Int))=some (.inl (B (acc++32::Lib.itoa (if c=73 then s.2.1 else s.2.2)),((j+1:Nat):Int))):=by
 obtain⟨_,h2,h3,_⟩:=h;obtain⟨hlt,_⟩:=List.getElem?_eq_some_iff.1 hj;have hv:-1000000000<=(if c=73 then s.2.1 else s.2.2)/\(if c=73 then s.2.1 else s.2.2)<=1000000000:=by split<;>omega
 have hl:=mE hv.1 hv.2;simp only[fQ];rw[decide_eq_true (by rw[eR];omega),cond_true,zy hj];simp only[af]
 have e:(bif(c.toNat:Int)==73 then some (az.I s)else some (az.N s):Option Int)=some (if c=73 then s.2.1 else s.2.2):=by
  by_cases hc:c=73
  .subst hc;rfl
  .rw [if_neg hc,show((c.toNat:Int)==73)=false by rw[beq_eq_false_iff_ne];intro e;exact hc (UInt8.toNat_inj.1 (by rw[show(73:UInt8).toNat=73 from rfl];omega))];rfl
 rw[e];simp only[af];rw[FJ (by omega) (by omega)];simp only[af];rw[show(⟨#[32]⟩:ByteArray)=B [32]from rfl,mO (by simp;omega)];simp only[af];rw[mO (by simp;omega),rS (by omega)];rfl
theorem qh{s:S3}{acc hs:List UInt8}{j:Nat}(hj:hs.length<=j):fQ s (B hs) (B acc,(j:Int))=some (.inr (B acc)):=by simp only[fQ];rw[decide_eq_false (by rw[eR];omega),cond_false]
theorem rZ{s:S3}(h:gG s):dH s=some (B (f_ s)):=by
 have h0:=h;have hw:=vP s.1;unfold dH;rw[tj s,decide_eq_true h];simp only[af,Bool.not_true,cond_false];rw[rT h.1];simp only[af];have h2:=h.2.1;have hl:=mE (n:=s.2.1) (by omega) (by omega)
 have key:dP (fQ s (B (ml s.1))) (B (o7 s.1),((0:Nat):Int))=some (B (f_ s)):=by
  unfold f_ ml;cases hI s.1<;>cases hN s.1
  .simp only[cond_false,aW];exact eF (qh (by simp))
  .simp only[cond_false,cond_true,List.nil_append];exact(gf (oS h (c:=78) rfl (by omega))).trans (eF (qh (by simp)))
  .simp only[cond_false,cond_true,aW];exact(gf (oS h (c:=73) rfl (by omega))).trans (eF (qh (by simp)))
  .simp only[cond_true];rw[<-List.append_assoc];exact(gf (oS h (c:=73) rfl (by omega))).trans ((gf (oS h (c:=78) rfl (by simp;omega))).trans (eF (qh (by simp))))
 have key:dP (fQ s (B (ml s.1))) (B (o7 s.1),(0:Int))=some (B (f_ s)):=key;rw[key];rfl
end Go.Proofs.YtbcmbckpebpijaaDoor.C
