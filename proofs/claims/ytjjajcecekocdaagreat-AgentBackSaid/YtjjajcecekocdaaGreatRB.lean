/- AgentBack: undone to the first one, the table is as it was. Conditions: as stated. -/
import Derived.Test.YtjjajcecekocdaaGreatRT
import Derived.Test.YtjjajcecekocdaaGreatAb
open Bool renaming not_true->dC
open Option renaming bind_some->ah
open Go.Ev Go
namespace Go.Proofs.YtjjajcecekocdaaGreat.A
theorem aaC{now:Int}{a a':Ag}{L:List aZ}(h:wy now a L a'):Is a'=Is a:=by induction h with|It _=>rfl|Jw _ _ _ _ _ ih=>exact ih|@AE a a' rd xM l w q L _ _ _ _ _ _ ih=>rw[ih];show(((a.done.l++[(rd,a.bU)]).head?.map (·.2)).getD q)=(a.done.l.head?.map (·.2)).getD a.bU;cases a.done.l<;>rfl
theorem aaX{a:Ag}{x:aB}{d:List aB}(hd:a.done.l=d++[x])(hl:(a.Nv x.2 d).done.l=d):Is (a.Nv x.2 d)=Is a:=by unfold Is;rw[hl,hd];cases d<;>rfl
theorem aaW{a:Ag}{rd:Int}{L:List aZ}{e:Int}{a':Ag}(h:E4 a rd L e a'):Is a'=Is a/\a'.u=a.u/\a'.sw=a.sw:=by cases h with|all h0 hd ht hs ha hk e1 e2 e3 e4 e5 hL=>refine⟨?_,e5,e1⟩;unfold Is;rw[hd];exact ht|no _ _ _ _=>exact⟨rfl,rfl,rfl⟩|RM _ hd _ hl=>exact⟨aaX hd hl,rfl,rfl⟩|oA _ _=>exact⟨rfl,rfl,rfl⟩
theorem aaO(a:Ag)(m:ad):Is (gE a m).2=Is a/\(gE a m).2.u=a.u/\(gE a m).2.sw=a.sw:=by
 unfold gE;split
 .exact ⟨rfl,rfl,rfl⟩
 split
 .exact ⟨rfl,rfl,rfl⟩
 split
 .exact ⟨rfl,rfl,rfl⟩
 split<;>exact⟨rfl,rfl,rfl⟩
theorem Nb(a:Ag)(now:Int)(m:ad):Is (x5 a now m).2=Is a/\(x5 a now m).2.u=a.u/\(x5 a now m).2.sw=a.sw:=by
 unfold x5;split
 .exact ⟨rfl,rfl,rfl⟩
 split
 .exact ⟨rfl,rfl,rfl⟩
 split
 .exact ⟨rfl,rfl,rfl⟩
 split
 .exact ⟨rfl,rfl,rfl⟩
 split<;>exact⟨rfl,rfl,rfl⟩
theorem aaZ{a:Ag}{now:Int}{m:ad}{L:List aZ}{e:Int}{a':Ag}(hd:QI a now m L e a'):(a'.u=a.u/\Is a'=Is a\/a'.u≠a.u/\Is a'=a.bU)/\a'.sw=a.sw:=by
 have hup:((a.lh (ad.U m)).u=a.u/\Is (a.lh (ad.U m))=Is a\/(a.lh (ad.U m)).u≠a.u/\Is (a.lh (ad.U m))=a.bU)/\(a.lh (ad.U m)).sw=a.sw:=by
  unfold Ag.lh;split
  .rename_i h;exact⟨.inr ⟨by show ad.U m≠a.u;omega,rfl⟩,rfl⟩
  .exact ⟨.inl ⟨rfl,rfl⟩,rfl⟩
 have comb:∀b:Ag,b.u=(a.lh (ad.U m)).u->Is b=Is (a.lh (ad.U m))->b.sw=(a.lh (ad.U m)).sw->(b.u=a.u/\Is b=Is a\/b.u≠a.u/\Is b=a.bU)/\b.sw=a.sw:=fun b h1 h2 h3=>by rw[h1,h2,h3];exact hup
 cases hd with|old _=>exact⟨.inl ⟨rfl,rfl⟩,rfl⟩|Qa _ _=>obtain⟨s1,s2,s3⟩:=aaO (a.lh (ad.U m)) m;exact comb _ s2 s1 s3|Zm _ _=>obtain⟨s1,s2,s3⟩:=Nb (a.lh (ad.U m)) now m;exact comb _ s2 s1 s3|To _ _ hu=>obtain⟨s1,s2,s3⟩:=aaW hu;exact comb _ s2 s1 s3|MV _ _ _=>exact comb _ rfl rfl rfl
theorem aaS{a:Ag}{d:aE}{x:ad}{ok:Bool}{L:List aZ}{a':Ag}(hp:S_ a d x ok L a')(hs:a.up=true->∀k v,bV a.cq k=some v->aE.Kc d<v):
  (a'.u=a.u/\Is a'=Is a\/a'.u≠a.u/\Is a'=a.bU)/\a'.sw=a.sw:=by
 cases hp with
 |Vu hk hh=>
  cases hh with
  |off _=>exact⟨.inl ⟨rfl,rfl⟩,rfl⟩
  |QX ho _ _ hd=>obtain⟨e1,_,_,_,e5,_⟩:=EF hd;exact⟨.inl ⟨e5,aaC hd⟩,e1⟩
  |JJ ho _ _ hd _ hm=>
   unfold mo at ho;have hup:a.up=true:=by simp only[Bool.and_eq_true]at ho;exact ho.1
   obtain⟨rfl,rfl⟩:=Bm (hs hup) hd;exact aaZ hm
 |Ph _ hd=>
  rcases hd with⟨_,hd⟩|⟨_,rfl,rfl⟩
  .obtain ⟨e1,_,_,_,e5,_⟩:=EF hd;exact⟨.inl ⟨e5,aaC hd⟩,e1⟩
  .exact ⟨.inl ⟨rfl,rfl⟩,rfl⟩
 |Qy _=>split<;>exact⟨.inl ⟨rfl,rfl⟩,rfl⟩
 |Hb _=>exact⟨.inl ⟨rfl,rfl⟩,rfl⟩
 |no _=>exact⟨.inl ⟨rfl,rfl⟩,rfl⟩
theorem aaP{sw u:Int}(hs:0<=sw/\sw<8)(hu:1<=u/\u<=65535):jD (⟨5,sw,u,(-1),0,0,0,0,0,Sl.nil⟩:ad)=some true:=by
 have e1:rC 5=some 24:=rfl;have e2:mW (⟨5,sw,u,(-1),0,0,0,0,0,Sl.nil⟩:ad)=some (⟨5,sw,u,(-1),0,0,0,0,0,Sl.nil⟩:ad):=rfl;have e3:pT (⟨5,sw,u,(-1),0,0,0,0,0,Sl.nil⟩:ad) (⟨5,sw,u,(-1),0,0,0,0,0,Sl.nil⟩:ad)=some true:=by rw[Hh _ _ (by show(0:Nat)<9223372036854775808;decide) (fun m hm=>by have hm:m∈([]:List ai):=hm;simp at hm),iC ⟨⟨⟨⟨⟨⟨⟨⟨⟨rfl,rfl⟩,rfl⟩,rfl⟩,rfl⟩,rfl⟩,rfl⟩,rfl⟩,rfl⟩,rfl⟩]
 obtain⟨b,hb⟩:=Ff (Sl.nil:Sl ai) (by decide) (fun m hm=>by simp[Sl.l]at hm);have hb0:cT (Sl.nil:Sl ai)=some false:=by unfold cT eE;rw[ku (b:=.inr ()) (by rfl)];rfl
 unfold jD;rw[show rC (ad.bh (⟨5,sw,u,(-1),0,0,0,0,0,Sl.nil⟩:ad))=some 24 from e1];simp only[ah,L4];rw[show((24:Int)==0)=false from rfl,cond_false,show tt (0<=sw/\sw<=7)=true from iC (by omega)];simp only[dC,cond_false];rw[e2];simp only[ah];rw[e3];simp only[ah,dC,cond_false]
 rw[show tt ((0:Int)<=0/\(0:Int)<=1125899906842624)=true from iC (by omega),show tt ((-1125899906842624:Int)<=0/\(0:Int)<=1125899906842624)=true from iC (by omega),show tt ((0:Int)<=0/\(0:Int)<=65535)=true from iC (by omega),show tt (1<=u/\u<=65535)=true from iC hu,
  show tt ((0:Int)<=0/\(0:Int)<=255)=true from iC (by omega),show(oe .i64 24 8 !=0)=true by rw[fU];decide,show(oe .i64 24 16 !=0)=true by rw[fU];decide,show(oe .i64 24 32 !=0)=false by rw[fU];decide]
 have hl:(bif(((5:Int)==5)||((5:Int)==7))||((5:Int)==8)then(some (-1))else some 0:Option Int)=some (-1):=rfl;rw[hl];simp only[ah,dC,cond_false,cond_true];rw[show tt ((-1:Int)<=-1/\(-1:Int)<=7)=true from iC (by omega)];simp only[dC,cond_false,ah];rw[hb0];rfl
end Go.Proofs.YtjjajcecekocdaaGreat.A
