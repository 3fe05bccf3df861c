/- ArchiveMoved: the statement 'ArchiveMovedSaid', closed by the law that the walk shows. No condition. -/
import Derived.Test.YtjnoobmaedgooaaGreatZMvD
set_option linter.unusedSimpArgs false
set_option linter.unusedVariables false
section
set_option maxRecDepth 100000
namespace Go.Proofs.YtjnoobmaedgooaaGreat.Arch
open Go Go.Av Go.Proofs Go.Proofs.YtjnoobmaedgooaaGreat.C Go.Proofs.YtjnoobmaedgooaaGreat.Desk Go.Proofs.YtjnoobmaedgooaaGreat.Batch
def blX:AC->AC
 | .block _ c=>c
 |c=>c
def thA:AC->AC
 | .cond _ a _=>a
 |c=>c
def elA:AC->AC
 | .cond _ _ b=>b
 |c=>c
def fq:AC:=tlA (tlA (tlA c64))
def gE:AC:=blX (tlA fq)
def ly:AC:=thA (tlA gE)
def el1:AC:=elA (tlA gE)
def kq:AC:=thA (tlA el1)
def el2:AC:=elA (tlA el1)
def kr:AC:=thA (tlA el2)
def elD:AC:=elA (tlA el2)
theorem Fe:c64= .seq (hdA c64) (.seq (hdA (tlA c64)) (.seq (hdA (tlA (tlA c64))) fq)):=rfl
theorem wW:fq= .seq (hdA fq) (.block 0 (.seq (hdA gE) (.cond (.t 28) ly (.seq (hdA el1) (.cond (.t 54) kq (.seq (hdA el2) (.cond (.t 93) kr elD))))))):=rfl
structure kY(L:List Pr)(h:H)(bt:List (Bk × Nat))(q:List Pc)(J:Nat):Prop where
 row:∃k,h.objs 3=some (.cells [bV bt k,.mp 2])/\(bt≠[]->5<=k/\k<h.n/\∃cs,h.objs k=some (.cells cs)/\aw cs (dX bt))
 mp:h.objs 2=some (.map (fp q))
 o0:h.objs 0=some (.cells [.sl 2 (prs L) .any])
 o1:h.objs 1=some (.cells [.sl 3 [] (.exact 0)])
 o4:h.objs 4=some (.cells [.ptr 3 0])
 hn:5<=h.n
 tk:∀x∈bt,x.2∈h.toks
 tm:∀x∈bt,x.2<h.m
 nd:(bt.map Prod.snd).Nodup
 len:bt.length<=J
 vers:∀x∈bt,x.1.l.length<=J
 pcs:∀p∈q,0<=p.n/\p.n<=J/\p.s.length<=J*140737488355328
structure Mid(L:List Pr)(F:Nat->Option Av.Obj)(n:Nat)(toks:List Nat)(m:Nat)(bt:List (Bk × Nat))(q:List Pc)(J k:Nat)(p:Pr)(key:Ky):Prop where
 hk:bt≠[]->5<=k/\k<n
 hn:5<=n
 row:F 3=some (.cells [bV bt k,.mp 2])
 cs:bt≠[]->F k=some (.cells (dX bt))
 mp:F 2=some (.map (fp q))
 o0:F 0=some (.cells [.sl 2 (prs L) .any])
 o1:F 1=some (.cells [.sl 3 [] (.exact 0)])
 o4:F 4=some (.cells [.ptr 3 0])
 P:F n=some (.cells [.str p.k,.str p.v])
 K:F (n+1)=some (.cells [.int .i64 key.k,.str key.b,.str key.o,.sl 1 (ints key.ns) .any])
 tk:∀x∈bt,x.2∈toks
 tm:∀x∈bt,x.2<m
 nd:(bt.map Prod.snd).Nodup
 len:bt.length<=J
 vers:∀x∈bt,x.1.l.length<=J
 pcs:∀p∈q,0<=p.n/\p.n<=J/\p.s.length<=J*140737488355328
 hJ:J<=5000
def QA(L:List Pr)(J:Nat)(R:Option SS):aC->St->Prop:=λe s'=>match R with
 |none=>e= .panic v4/\s'.h.objs 1=some (.cells [.sl 3 [] (.exact 0)])
 |some S=>e= .normal/\∃bt',bt'.map Prod.fst=S.1/\kY L s'.h bt' S.2 (J+1)
theorem Ay(bt:List (Bk × Nat))(x:Bk × Nat):dX (bt++[x])=dX bt++mE x:=by simp[dX]
theorem aw.IM:∀(A:List AV){a b:List AV},aw a b->aw (A++a) (A++b)
 |[],_,_,h=>h
 |x::A,_,_,h=>aw.cons (ar.refl _) (aw.IM A h)
theorem sD{q:List Pc}{J:Nat}(h:∀p∈q,0<=p.n/\p.n<=J/\p.s.length<=J*140737488355328):∀p∈q,0<=p.n/\p.n<=((J+1:Nat):Int)/\p.s.length<=(J+1)*140737488355328:=λp hp=>by
 obtain ⟨a,b,c⟩:=h p hp;exact ⟨a,aa,JT c (Kt _ (LD J))⟩
set_option maxHeartbeats 2000000 in
theorem GR{L:List Pr}{F:Nat->Option Av.Obj}{n:Nat}{toks:List Nat}{m:Nat}{bt:List (Bk × Nat)}{q:List Pc}{J k:Nat}{p:Pr}{key:Ky}(M:Mid L F n toks m bt q J k p key)(hk1:key.k=1):
  Wp Tryz.prog 161 ly ⟨tm [(0,.ptr 3 0),(3,.ptr n 0),(4,.ptr (n+1) 0)],⟨F,n+2,toks,m⟩⟩ (QA L J (jF (bt.map Prod.fst,q) key p.v)):=by
 have hR:jF (bt.map Prod.fst,q) key p.v=if p5 p.v=true then some (bt.map Prod.fst++[⟨key.b,stV p.v,[]⟩],q) else none:=by
  unfold jF;rw[JC hk1]
 rw[hR];have cut:ly= .seq (hdA ly) (.seq (hdA (tlA ly)) (tlA (tlA ly))):=rfl;rw[cut];generalize hT:tlA (tlA ly)=T;unfold ly gE fq c64 zz;simp only[hdA,tlA,blX,thA];have cs:=um p.v;have fP:=M.P;have fK:=M.K;have f3:=M.row;have hst:stR p.v=if p5 p.v=true then 0 else 4:=rfl
 refine Wp.bf (xAd fP) ?_;refine an.bE xA2 xAb (cs) ?_;refine an.evF xAc ?_;refine an.nil ?_;cases hb:p5 p.v with
 |false=>
  rw[hb] at hst;rw[Jr af] at hst |-;rw[hst];refine Wp.di xAc xAb fR (trivial) ?_;exact ⟨rfl,M.o1⟩
 |true=>
  rw[hb] at hst;rw[JC rfl] at hst |-;rw[hst];refine Wp.bf xAc ?_;refine an.bE xA2 xAb (kp) ?_;refine an.nil ?_;rw[<-hT];unfold ly gE fq c64 zz;simp only[hdA,tlA,blX,thA];have hn:=M.hn;refine Wp.le (aJ.tok _ _) ?_;simp only;have n3:¬(3=n+2):=by omega
  have n4:¬(4=n+2):=by omega
  have n0:¬(0=n+2):=by omega
  have n1:¬(1=n+2):=by omega
  have n2:¬(2=n+2):=by omega
  have nn:¬(n+1=n+2):=by omega
  by_cases ho:bt=[]
  ·subst ho;have hv:bV [] k= .sl 3 [] (.exact 0):=rfl;rw[hv] at f3;refine Wp.reg ?_;refine aq.part 11 (xAe (cj4 f3 fK n3 nn)) ?_;simp only[Ka,Kz,K5];refine aq.opT xA2 (by simp only[jj,go_sem,reduceIte,Nat.reduceEqDiff,Nat.reduceAdd,bx,List.all_cons,List.all_nil,List.length_cons,List.length_nil,Nat.reduceMul,Nat.reduceLeDiff,Nat.reduceLT,Nat.zero_lt_succ,JI,Jw,JO,K3];exact rfl) rfl ?_;refine aq.evR (xAe (cj4 f3 n3 @Jp.{0} @Jx.{0})) ?_;refine aq.nil ⟨by simp[aZ,aR,apart,aO,n3],?_⟩;have m3:¬(n+2=3):=by omega
   refine ⟨rfl,[(⟨key.b,stV p.v,[]⟩,m)],rfl,⟨n+2,by simp[upd,bV],λ_=>⟨aa,by simp only;omega,_,by simp only[upd,m3,Js,Jw];exact rfl,?_⟩⟩,by simp only[upd,n2,Js,Nat.reduceEqDiff,reduceIte];exact M.mp,by simp only[upd,n0,Js,Nat.reduceEqDiff,reduceIte];exact M.o0,by simp only[upd,n1,Js,Nat.reduceEqDiff,reduceIte];exact M.o1,by simp only[upd,n4,Js,Nat.reduceEqDiff,reduceIte];exact M.o4,by simp only;omega,by simp,by simp,by simp,by simp,by simp,sD M.pcs⟩;exact aw.cons (ar.refl _) (aw.cons (ar.refl _) (aw.cons (ar.eL rfl) aw.nil))
  ·have hv:bV bt k= .tsl 3 k 0 bt.length none:=by unfold bV;rw[Jr ho]
   rw[hv] at f3;obtain ⟨y1,y2⟩:=M.hk ho;have fk:=M.cs ho;have x3:¬(3=k):=by omega
   have x7:¬(k=n+2):=by omega
   have x8:¬(n+1=k):=by omega
   have hcl:=fO bt;have hlen:=M.len;have hJ:=M.hJ;have r1:(bt.length+1)*48<=140737488355328:=by omega
   have r2:bt.length+1<4611686018427387904:=by omega
   refine Wp.reg ?_;refine aq.part 11 (xAe (cj4 f3 fK n3 nn)) ?_;simp only[Ka,Kz,K5];refine aq.opK xA2 (by simp only[lI,go_sem,reduceIte,Nat.reduceEqDiff,Nat.reduceAdd,bx,List.all_cons,List.all_nil,List.length_cons,List.length_nil,Nat.reduceMul,Nat.reduceLeDiff,Nat.reduceLT,x7,fk,hcl,r1,r2,Nat.zero_lt_succ,JI,Jw,JO,K3];exact rfl) rfl ?_;refine aq.evR (xAe (cj5 f3 n3 x3 @Jp.{0} @Jx.{0})) ?_;refine aq.nil ⟨by simp[aZ,aR,apart,aO,n3,x3],?_⟩;have m3:¬(n+2=3):=by omega
   have k0:¬(0=k):=by omega
   have k1:¬(1=k):=by omega
   have k2:¬(2=k):=by omega
   have k4:¬(4=k):=by omega
   refine ⟨rfl,bt++[(⟨key.b,stV p.v,[]⟩,m)],by simp,⟨n+2,by simp[upd,bV],λ_=>⟨aa,by simp only;omega,_,by simp only[upd,m3,Js,Jw];exact rfl,?_⟩⟩,by simp only[upd,n2,k2,Js,Nat.reduceEqDiff,reduceIte];exact M.mp,by simp only[upd,n0,k0,Js,Nat.reduceEqDiff,reduceIte];exact M.o0,by simp only[upd,n1,k1,Js,Nat.reduceEqDiff,reduceIte];exact M.o1,by simp only[upd,n4,k4,Js,Nat.reduceEqDiff,reduceIte];exact M.o4,by simp only;omega,?_,?_,?_,by simp;omega,?_,sD M.pcs⟩
   ·rw[Ay];exact aw.IM _ (aw.cons (ar.refl _) (aw.cons (ar.refl _) (aw.cons (ar.eL rfl) aw.nil)))
   ·intro x hx;rcases JW.1 hx with hx|hx
    ·exact List.mem_cons_of_mem _ (M.tk x hx)
    ·simp only[Jz] at hx;subst hx;exact List.mem_cons_self
   ·intro x hx;rcases JW.1 hx with hx|hx
    ·have:=M.tm x hx;simp only;omega
    ·simp only[Jz] at hx;subst hx;exact J8 _
   ·rw[KC];refine List.nodup_append.2 ⟨M.nd,by simp,λa ha b hb=>?_⟩;simp only[JM,J4,Jz] at hb;subst hb;obtain ⟨x,hx,rfl⟩:=JF.1 ha;have:=M.tm x hx;omega
   ·intro x hx;rcases JW.1 hx with hx|hx
    ·have:=M.vers x hx;omega
    ·simp only[Jz] at hx;subst hx;simp
theorem yp{J:Nat}{b o:List UInt8}{id:Int}:∀{q:List Pc},(∀p∈q,0<=p.n/\p.n<=J/\p.s.length<=J*140737488355328)->0<=(cD q b o id).2/\(cD q b o id).2<=J/\(cD q b o id).1.length<=J*140737488355328
 |[],_=>⟨KY _,Lx _,JJ _⟩
 |p::q,h=>by
  simp only[cD];split
  ·exact h p af
  ·exact yp λx hx=>h x (by simp[hx])
set_option maxHeartbeats 4000000 in
theorem GS{L:List Pr}{F:Nat->Option Av.Obj}{n:Nat}{toks:List Nat}{m:Nat}{bt:List (Bk × Nat)}{q:List Pc}{J k:Nat}{p:Pr}{key:Ky}(M:Mid L F n toks m bt q J k p key)(hk3:key.k=3)(hok:key.ok)(hpv:p.v.length<=140737488355328):
  Wp Tryz.prog 161 kq ⟨tm [(0,.ptr 3 0),(3,.ptr n 0),(4,.ptr (n+1) 0)],⟨F,n+2,toks,m⟩⟩ (QA L J (jF (bt.map Prod.fst,q) key p.v)):=by
 have hnl:key.ns.length=2:=by
  have:=hok.n;rw[hk3] at this;have e:fT 3=2:=rfl;rw[e] at this;omega
 obtain ⟨v0,v1,hns⟩:∃v0 v1,key.ns=[v0,v1]:=by
  match hh:key.ns,hnl with
  |[a,b],_=>exact ⟨a,b,rfl⟩
 have hR:jF (bt.map Prod.fst,q) key p.v=if v1=(cD q key.b key.o v0).2 then some (bt.map Prod.fst,iT q key.b key.o v0 ((cD q key.b key.o v0).1++p.v) ((cD q key.b key.o v0).2+1)) else none:=by
  unfold jF;rw[Jr (by rw[hk3];decide),JC hk3,hns];rfl
 rw[hR];obtain ⟨c0,c1,s0⟩:=yp (b:=key.b) (o:=key.o) (id:=v0) M.pcs;have hf:dD [.str,.str,.int] [.str key.b,.str key.o,.int .i64 v0] (fp q)=some (il q key.b key.o v0):=wT key.b key.o v0 q;have hl:cT (.agg [.str [],.int .i64 0]) false (il q key.b key.o v0)= .agg [.str (cD q key.b key.o v0).1,.int .i64 (cD q key.b key.o v0).2]:=wU key.b key.o v0 q;have hp:oK (fp q) [.str key.b,.str key.o,.int .i64 v0] (.agg [.str ((cD q key.b key.o v0).1++p.v),.int .i64 ((cD q key.b key.o v0).2+1)]) (il q key.b key.o v0)=fp (iT q key.b key.o v0 ((cD q key.b key.o v0).1++p.v) ((cD q key.b key.o v0).2+1)):=FW key.b key.o v0 _ _ q;have hJ:=M.hJ;have hadd:(cD q key.b key.o v0).1.length+p.v.length<9223372036854775808:=by
  have:=Kt 140737488355328 hJ;omega
 have e1:IntKind.i64.wrap ((cD q key.b key.o v0).2+1)=(cD q key.b key.o v0).2+1:=IntWalk.i64_in _ aa;have sl:((cD q key.b key.o v0).1++p.v).length<=(J+1)*140737488355328:=by
  rw[Ju,Kr,KK];omega
 have pin:∀x∈iT q key.b key.o v0 ((cD q key.b key.o v0).1++p.v) ((cD q key.b key.o v0).2+1),0<=x.n/\x.n<=((J+1:Nat):Int)/\x.s.length<=(J+1)*140737488355328:=λx hx=>by
  rcases mC hx with rfl|hx
  ·exact ⟨by simp only;omega,by simp only;omega,sl⟩
  ·exact sD M.pcs x hx
 generalize (cD q key.b key.o v0).1=s at*
 generalize (cD q key.b key.o v0).2=c at*
 generalize iT q key.b key.o v0 (s++p.v) (c+1)=q' at*
 generalize il q key.b key.o v0=R at*
 simp only[go_sem,reduceIte,Nat.reduceEqDiff,Nat.reduceAdd,bx] at hl hp;have cut:kq= .seq (hdA kq) (.seq (hdA (tlA kq)) (.seq (hdA (tlA (tlA kq))) (tlA (tlA (tlA kq))))):=rfl;rw[cut];generalize hT:tlA (tlA (tlA kq))=T;unfold kq el1 gE fq c64 zz;simp only[hdA,tlA,blX,thA,elA];have fP:=M.P;have fK:=M.K;have f3:=M.row;have f2:=M.mp;have hi0:ints key.ns=[.int .i64 v0,.int .i64 v1]:=by rw[hns];rfl
 rw[hi0] at fK;have hn:=M.hn;have n3:¬(3=n+2):=by omega
 have n4:¬(4=n+2):=by omega
 have n0:¬(0=n+2):=by omega
 have n1:¬(1=n+2):=by omega
 have n2:¬(2=n+2):=by omega
 have nn:¬(n+1=n+2):=by omega
 have np:¬(n=n+2):=by omega
 have o3:¬(3=n+2+1):=by omega
 have o4:¬(4=n+2+1):=by omega
 have o0:¬(0=n+2+1):=by omega
 have o1:¬(1=n+2+1):=by omega
 have o2:¬(2=n+2+1):=by omega
 have on:¬(n+1=n+2+1):=by omega
 have op:¬(n=n+2+1):=by omega
 have oq:¬(n+2=n+2+1):=by omega
 have z0:(0:Int)<((2:Nat):Int):=by decide
 have z1:(1:Int)<((2:Nat):Int):=by decide
 have z2:(0:Int)<=1:=by decide
 have t1:Int.toNat 1=1:=rfl;refine Wp.bM (xAd (jD fK n3 nn z0 @Jp.{0} @Jx.{0} Int.toNat_zero @J6.{0} @KY @JI)) ?_;refine aq.nil ⟨by simp[aZ,aR,apart,aO,nn],?_⟩;refine Wp.bM (xAd (cj7 f3 f2 n3 n2 hf hl oq)) ?_;refine aq.nil ⟨by simp[aZ,aR,apart,aO,n3,o3,o2,oq] <;>omega,?_⟩;by_cases hc:v1=c
 ·have d1:decide (v1=c)=true:=Jt hc;rw[JC hc];refine Wp.bM (xAd (bF fK nn on oq z1 z2 t1 d1 @Jp.{0} @Jx.{0} @KS.{0} (cj2 @J6.{0} @JI))) ?_;refine aq.bE xA2 xAb (kp) ?_;refine aq.evR xA1 ?_;refine aq.nil ⟨by simp[aZ,aR,apart,aO,on],?_⟩;rw[<-hT];unfold kq el1 gE fq c64 zz;simp only[hdA,tlA,blX,thA,elA];refine Wp.fB (xAd (bF f3 f2 n3 n2 o3 o2 oq np @op fP hf (cj3 hp hadd e1))) ?_;refine aq.nil ⟨by simp[aZ,aR,apart,aO,n3,o3,o2,oq,n2,np,op] <;>omega,?_⟩;refine ⟨rfl,bt,rfl,⟨k,by simp only[upd,n3,o3,Js,Nat.reduceEqDiff,reduceIte];exact f3,λho=>?_⟩,by simp only[upd,Jw,hp],by simp only[upd,n0,o0,Js,Nat.reduceEqDiff,reduceIte];exact M.o0,by simp only[upd,n1,o1,Js,Nat.reduceEqDiff,reduceIte];exact M.o1,by simp only[upd,n4,o4,Js,Nat.reduceEqDiff,reduceIte];exact M.o4,by simp only;omega,M.tk,M.tm,M.nd,Nat.le_succ_of_le M.len,λx hx=>Nat.le_succ_of_le (M.vers x hx),pin⟩;obtain ⟨y1,y2⟩:=M.hk ho;have k2:¬(k=2):=by omega
  have k3:¬(k=n+2):=by omega
  have k4:¬(k=n+2+1):=by omega
  exact ⟨y1,by simp only;omega,_,by simp only[upd,k2,k3,k4,Js];exact M.cs ho,aw.refl _⟩
 ·have d1:decide (v1=c)=false:=Jn hc;rw[Jr hc];refine Wp.di (xAd (bF fK nn on oq z1 z2 t1 d1 @Jp.{0} @Jx.{0} @KS.{0} (cj2 @J6.{0} @JI))) xAb fR (⟨by simp[aR,apart,aO,on],rfl⟩) ?_;exact ⟨rfl,by simp only[upd,n1,o1,Js];exact M.o1⟩
theorem Dl(bt:List (Bk × Nat))(i:Nat)(h:i<bt.length):(dX bt)[i*3+2]? =some (.sl 8 (vss (bt.getD i default).1.l) (.own (bt.getD i default).2)):=by
 have hl:(dX (bt.take i)).length=i*3:=by rw[fO,JU,KB aa]
 rw[oF bt i h,KO aa,hl,show i*3+2 - i*3=2 by omega];rfl
theorem Az(bt:List (Bk × Nat))(i:Nat)(h:i<bt.length):(dX bt).take (i*3+2)=dX (bt.take i)++[.str (bt.getD i default).1.n,.int .i64 (bt.getD i default).1.st]:=by
 have hl:(dX (bt.take i)).length=i*3:=by rw[fO,JU,KB aa]
 rw[oF bt i h,List.take_append,hl,show i*3+2 - i*3=2 by omega,Kq aa];rfl
theorem AA(bt:List (Bk × Nat))(i:Nat)(h:i<bt.length):(dX bt).drop (i*3+2+1)=dX (bt.drop (i+1)):=by
 have hl:(dX (bt.take i)).length=i*3:=by rw[fO,JU,KB aa]
 rw[oF bt i h,List.drop_append,hl,show i*3+2+1 - i*3=3 by omega,List.drop_of_length_le aa];rfl
theorem Dm(bt:List (Bk × Nat))(i:Nat)(h:i<bt.length)(y:Bk × Nat):dX (bt.set i y)=dX (bt.take i)++(mE y++dX (bt.drop (i+1))):=by
 unfold dX;rw[List.set_eq_take_append_cons_drop,JC h,List.flatMap_append,Kw]
theorem AB{l:List Nat}(h:l.Nodup){i a:Nat}(ha:a∉l):(l.set i a).Nodup:=by
 refine Ks.2 λj k hj hk hjk=>?_;rw[List.getElem_set,List.getElem_set];have hp:=Ks.1 h;simp only[List.length_set] at hj hk;split
 ·split
  ·omega
  ·exact λe=>ha (e▸KG _)
 ·split
  ·exact λe=>ha (e▸KG _)
  ·exact hp j k hj hk hjk
theorem uD{bt:List (Bk × Nat)}(h:(bt.map Prod.snd).Nodup){i:Nat}(hi:i<bt.length){y x:Bk × Nat}(hx:x∈bt.set i y):x=y\/(x∈bt/\x.2≠(bt.getD i default).2):=by
 obtain ⟨j,hj,rfl⟩:=Lf.1 hx;simp only[List.length_set] at hj;rw[List.getElem_set];split
 ·exact .inl rfl
 ·rename_i hij;refine .inr ⟨KG _,?_⟩;have e:bt.getD i default=bt[i]:=by simp[List.getD,Jm hi]
  rw[e];have hp:=Ks.1 h;intro e2;rcases Nat.lt_or_gt_of_ne hij with h1|h1
  ·exact hp i j (by simpa using hi) (by simpa using hj) h1 (by simpa using e2.symm)
  ·exact hp j i (by simpa using hj) (by simpa using hi) h1 (by simpa using e2)
theorem qb{e:aC}(h:e= .normal):gx e:=by subst h;trivial
set_option maxHeartbeats 8000000 in
theorem GU{L:List Pr}{F:Nat->Option Av.Obj}{n:Nat}{toks:List Nat}{m:Nat}{bt:List (Bk × Nat)}{q:List Pc}{J k:Nat}{p:Pr}{key:Ky}(M:Mid L F n toks m bt q J k p key)(hk2:key.k=2)(hok:key.ok)(hpv:p.v.length<=140737488355328):
  Wp Tryz.prog 161 kr ⟨tm [(0,.ptr 3 0),(3,.ptr n 0),(4,.ptr (n+1) 0)],⟨F,n+2,toks,m⟩⟩ (QA L J (jF (bt.map Prod.fst,q) key p.v)):=by
 have hnl:key.ns.length=1:=by
  have:=hok.n;rw[hk2] at this;have e:fT 2=1:=rfl;rw[e] at this;omega
 obtain ⟨v0,hns⟩:∃v0,key.ns=[v0]:=List.length_eq_one_iff.1 hnl;have hR:jF (bt.map Prod.fst,q) key p.v=if hdB p.v=true then (if eU ((bt.map Prod.fst).map Bk.n) key.b=true then some (qa (bt.map Prod.fst) (gI ((bt.map Prod.fst).map Bk.n) key.b) (uB key (hdO p.v) (cD q key.b key.o v0).1),iU q key.b key.o v0) else none) else none:=by
  unfold jF;rw[Jr (by rw[hk2];decide),Jr (by rw[hk2];decide),JC hk2,hns];rfl
 rw[hR];have hvo:uB key (hdO p.v) (cD q key.b key.o v0).1=⟨key.o,v0,(hdO p.v).sz,(hdO p.v).re,(hdO p.v).im,(hdO p.v).g,(hdO p.v).u,(cD q key.b key.o v0).1⟩:=by
  unfold uB;rw[hns];rfl
 rw[hvo];have hf:dD [.str,.str,.int] [.str key.b,.str key.o,.int .i64 v0] (fp q)=some (il q key.b key.o v0):=wT key.b key.o v0 q;have hl:cT (.agg [.str [],.int .i64 0]) false (il q key.b key.o v0)= .agg [.str (cD q key.b key.o v0).1,.int .i64 (cD q key.b key.o v0).2]:=wU key.b key.o v0 q;have hd:oJ (fp q) (il q key.b key.o v0)=fp (iU q key.b key.o v0):=FX key.b key.o v0 q;have pin:∀x∈iU q key.b key.o v0,0<=x.n/\x.n<=((J+1:Nat):Int)/\x.s.length<=(J+1)*140737488355328:=λx hx=>sD M.pcs x (mD hx);generalize (cD q key.b key.o v0).1=s at*
 generalize (cD q key.b key.o v0).2=c at*
 generalize iU q key.b key.o v0=q' at*
 generalize il q key.b key.o v0=R at*
 simp only[go_sem,reduceIte,Nat.reduceEqDiff,Nat.reduceAdd,bx] at hl hd;have ch:=wP p.v hpv;have hhe:hdE p.v=if hdB p.v=true then 0 else 4:=rfl
 unfold yf lj at ch;have dE:decide (hdE p.v=0)=hdB p.v:=by
  rw[hhe];cases hdB p.v<;>decide
 generalize hdE p.v=he at*
 generalize hdO p.v=hd' at*
 obtain ⟨hsz,hre,him,hg,hu⟩:=hd';simp only at ch |-;have hlen:=M.len;have hJ:=M.hJ;have cut:kr= .seq (hdA kr) (.seq (hdA (tlA kr)) (.seq (hdA (tlA (tlA kr))) (tlA (tlA (tlA kr))))):=rfl;rw[cut];generalize hT:tlA (tlA (tlA kr))=T;unfold kr el2 el1 gE fq c64 zz;simp only[hdA,tlA,blX,thA,elA];have fP:=M.P;have fK:=M.K;have f3:=M.row;have f2:=M.mp;have hi0:ints key.ns=[.int .i64 v0]:=by rw[hns];rfl
 rw[hi0] at fK;have hn:=M.hn;have n3:¬(3=n+2):=by omega
 have n4:¬(4=n+2):=by omega
 have n0:¬(0=n+2):=by omega
 have n1:¬(1=n+2):=by omega
 have n2:¬(2=n+2):=by omega
 have nn:¬(n+1=n+2):=by omega
 have np:¬(n=n+2):=by omega
 have o3:¬(3=n+2+1):=by omega
 have o4:¬(4=n+2+1):=by omega
 have o0:¬(0=n+2+1):=by omega
 have o1:¬(1=n+2+1):=by omega
 have o2:¬(2=n+2+1):=by omega
 have on:¬(n+1=n+2+1):=by omega
 have op:¬(n=n+2+1):=by omega
 have oq:¬(n+2=n+2+1):=by omega
 have z0:(0:Int)<((1:Nat):Int):=by decide
 refine Wp.bf (xAd (cj2 fP np)) ?_;refine an.bE xA2 xAb (ch) ?_;refine an.evF xAc ?_;refine an.nil ?_;by_cases ho:bt=[]
 ·have hv:bV bt k= .sl 3 [] (.exact 0):=by rw[ho];rfl
  rw[hv] at f3;have ht0:eU ((bt.map Prod.fst).map Bk.n) key.b=false:=by rw[ho];rfl
  have ca:=F4 (H0 (n+2+1) m) bt k key.b (λx=>absurd ho x) aa;rw[hv,ht0] at ca;rw[ht0];generalize gI ((bt.map Prod.fst).map Bk.n) key.b=bp at*
  refine Wp.bM (xAd (cj4 f3 fK n3 nn)) ?_;refine aq.gP xA2 xAb (ca) (bu _) ?_;refine aq.evR xA1 ?_;refine aq.nil ⟨by simp[aZ,aR,apart,aO],?_⟩;cases hb:hdB p.v with
  |false=>
   rw[hb] at dE;rw[Jr af];refine Wp.di (xAd dE) xAb fR (trivial) ?_;exact ⟨rfl,by simp only[upd,n1,Js];exact M.o1⟩
  |true=>
   rw[hb] at dE;rw[JC rfl,Jr af];refine Wp.di (xAd dE) xAb fR (trivial) ?_;exact ⟨rfl,by simp only[upd,n1,Js];exact M.o1⟩
 ·have hv:bV bt k= .tsl 3 k 0 bt.length none:=by unfold bV;rw[Jr ho]
  rw[hv] at f3;obtain ⟨y1,y2⟩:=M.hk ho;have fk:=M.cs ho;have ca:=F4 (.only (upd av k (some (.cells (dX bt)))) [] (n+2+1) m) bt k key.b (λ_=>by simp[H.only,upd]) aa;rw[hv] at ca;have hbpl:eU ((bt.map Prod.fst).map Bk.n) key.b=true->gI ((bt.map Prod.fst).map Bk.n) key.b<bt.length:=by
   intro h;unfold eU at h;simp only[Jv,JE,KL] at h;exact h.1
  generalize hbt:eU ((bt.map Prod.fst).map Bk.n) key.b=bh at*
  generalize hbp:gI ((bt.map Prod.fst).map Bk.n) key.b=i at*
  have k3:¬(3=k):=by omega
  have kn2:¬(k=n+2):=by omega
  have kn3:¬(k=n+2+1):=by omega
  have k2:¬(k=2):=by omega
  have k3':¬(k=3):=by omega
  refine Wp.bM (xAd (cj4 f3 fK n3 nn)) ?_;refine aq.gP xA2 xAb (ca) (eJ _ (by simp only[upd,kn2,Js];exact fk)) ?_;refine aq.evR xA1 ?_;refine aq.nil ⟨by simp[aZ,aR,apart,aO],?_⟩;cases hb:hdB p.v with
  |false=>
   rw[hb] at dE;rw[Jr af];refine Wp.di (xAd dE) xAb fR (trivial) ?_;exact ⟨rfl,by simp only[upd,n1,Js];exact M.o1⟩
  |true=>
  rw[hb] at dE;rw[JC rfl];cases bh with
  |false=>
   rw[Jr af];refine Wp.di (xAd dE) xAb fR (trivial) ?_;exact ⟨rfl,by simp only[upd,n1,Js];exact M.o1⟩
  |true=>
  rw[JC rfl];have hi:=hbpl rfl;refine Wp.bf (xAd dE) ?_;refine an.bE xA2 xAb (kp) ?_;refine an.nil ?_;rw[<-hT];unfold kr el2 el1 gE fq c64 zz;simp only[hdA,tlA,blX,thA,elA];refine Wp.bM (xAd (jD fK n3 nn z0 @Jp.{0} @Jx.{0} Int.toNat_zero @J6.{0} @KY @JI)) ?_;refine aq.nil ⟨by simp[aZ,aR,apart,aO,on,nn],?_⟩;have p1:(0:Int)<=(i:Int):=by omega
  have p2:(i:Int)<(bt.length:Int):=by omega
  refine Wp.bf (xAd (cj7 f3 n3 o3 p1 p2 @Jq @JI)) ?_;refine an.nil ?_;have hcl:=fO bt;have hC2:=Dl bt i hi;have hTk:=Az bt i hi;have hDr:=AA bt i hi;have hset:=Dm bt i hi (⟨(bt.getD i default).1.n,(bt.getD i default).1.st,(bt.getD i default).1.l++[⟨key.o,v0,hsz,hre,him,hg,hu,s⟩]⟩,m);have hmem:bt.getD i default∈bt:=by
   have e:bt.getD i default=bt[i]:=by simp[List.getD,Jm hi]
   rw[e];exact KG hi
  have htk:=M.tk _ hmem;have htm:=M.tm _ hmem;have hvl:=M.vers _ hmem;have hfst:(bt.set i (⟨(bt.getD i default).1.n,(bt.getD i default).1.st,(bt.getD i default).1.l++[⟨key.o,v0,hsz,hre,him,hg,hu,s⟩]⟩,m)).map Prod.fst=qa (bt.map Prod.fst) i ⟨key.o,v0,hsz,hre,him,hg,hu,s⟩:=by
   unfold qa;have e:(bt.map Prod.fst).getD i default=(bt.getD i default).1:=by simp[List.getD,Jm hi]
   rw[e,List.map_set]
  have hms:=λ{y x:Bk × Nat} (hx:x∈bt.set i y)=>uD M.nd hi hx;rw[<-hfst];generalize bt.getD i default=bb at*
  generalize dX bt=cs at*
  obtain ⟨⟨bn,bst,bl⟩,tk⟩:=bb;simp only at hC2 hTk hset htk htm hvl hms |-;have lv:=fE bl;have e6:(bl.length+1)*72<=140737488355328:=by omega
  have e7:bl.length+1<4611686018427387904:=by omega
  have y2:i*3+2+1<=cs.length:=by omega
  have kk:¬(n+2+1=k):=by omega
  have kk2:¬(2=k):=by omega
  have kk3:¬(n+2=k):=by omega
  refine Wp.bM (xAd (bF f3 f2 fK fk n3 n2 o3 o2 on nn oq (bF kn2 kn3 hC2 hTk hDr lv e6 e7 y2 htk hf (cj4 hl @Jp.{0} @Jx.{0} @JI)))) ?_;refine aq.nil ⟨by simp[aZ,aR,apart,aO,n3,o3,o2,oq,n2,on,nn] <;>omega,?_⟩;refine Wp.fB (xAd (bF f3 f2 n3 n2 o3 o2 k3 kk kk2 kk3 oq (cj2 hf hd))) ?_;refine aq.nil ⟨by simp[aZ,aR,apart,aO,n3,o3,o2,oq,n2,on,nn] <;>omega,?_⟩;have hvs:bV (bt.set i (⟨bn,bst,bl++[⟨key.o,v0,hsz,hre,him,hg,hu,s⟩]⟩,m)) k= .tsl 3 k 0 bt.length none:=by
   unfold bV;rw[Jr (by simpa using ho),List.length_set]
  have k0:¬(0=k):=by omega
  have k1:¬(1=k):=by omega
  have k4:¬(4=k):=by omega
  refine ⟨rfl,_,rfl,⟨k,by simp only[upd,n3,o3,k3,Js,Nat.reduceEqDiff,reduceIte];rw[hvs];exact f3,λ_=>⟨y1,by simp only;omega,_,by simp only[upd,k2,Jw,Js];exact rfl,?_⟩⟩,by simp only[upd,Jw],by simp only[upd,n0,o0,k0,Js,Nat.reduceEqDiff,reduceIte];exact M.o0,by simp only[upd,n1,o1,k1,Js,Nat.reduceEqDiff,reduceIte];exact M.o1,by simp only[upd,n4,o4,k4,Js,Nat.reduceEqDiff,reduceIte];exact M.o4,by simp only;omega,?_,?_,?_,by rw[List.length_set];omega,?_,pin⟩
  ·rw[hset];simp[mE,vss,dG];exact aw.refl _
  ·intro x hx;rcases hms hx with rfl|⟨h1,h2⟩
   ·exact List.mem_cons_self
   ·refine List.mem_cons_of_mem _ (Ku.2 ⟨M.tk x h1,by simpa using h2⟩)
  ·intro x hx;rcases hms hx with rfl|⟨h1,h2⟩
   ·exact J8 _
   ·have:=M.tm x h1;simp only;omega
  ·rw[List.map_set];refine AB M.nd λhm=>?_;obtain ⟨x,hx,e⟩:=JF.1 hm;have:=M.tm x hx;omega
  ·intro x hx;rcases hms hx with rfl|⟨h1,h2⟩
   ·simp only[Ju,List.length_cons,List.length_nil];omega
   ·have:=M.vers x h1;omega
theorem qc{L:List Pr}{J:Nat}{R:Option SS}{e:aC}{s':St}(h:QA L J R e s'):aC.inBlock 0 (QA L J R) e s':=by
 cases R with
 |none=>
  have h':=h;obtain ⟨h1,-⟩:=h';subst h1;exact h
 |some S=>
  have h':=h;obtain ⟨h1,-⟩:=h';subst h1;exact h
theorem Dn{L:List Pr}{F:Nat->Option Av.Obj}{n:Nat}{toks:List Nat}{m:Nat}{bt:List (Bk × Nat)}{q:List Pc}{J k:Nat}{p:Pr}{key:Ky}(M:Mid L F n toks m bt q J k p key)(hok:key.ok)(hpv:p.v.length<=140737488355328):
  Wp Tryz.prog 161 fq ⟨tm [(0,.ptr 3 0),(3,.ptr n 0),(4,.ptr (n+1) 0)],⟨F,n+2,toks,m⟩⟩ (QA L J (jF (bt.map Prod.fst,q) key p.v)):=by
 have WB:=λhk=>GR M (key:=key) hk;have WC:=λhk=>GS M hk hok hpv;have WV:=λhk=>GU M hk hok hpv;have hk:=hok.k;rw[wW];generalize hB:ly=B at*
 generalize hC:kq=C at*
 generalize hV:kr=V at*
 generalize hD:elD=D at*
 unfold el2 el1 gE fq c64 zz;simp only[hdA,tlA,blX,thA,elA];have fK:=M.K;by_cases h1:key.k=1
 ·have d1:decide (key.k=1)=true:=Jt h1;refine rf0 (cj2 fK d1) ?_;refine Wp.mono (Wp.le (aJ.of (bc ?_) (OLe.bX _) (λx hx=>hx) (Jl _) (Jl _)) (WB h1)) (λe s' h=>qc h);exact xSb
 have d1:decide (key.k=1)=false:=Jn h1;by_cases h3:key.k=3
 ·have d3:decide (key.k=3)=true:=Jt h3;refine rf0 (cj3 fK d1 d3) ?_;refine Wp.mono (Wp.le (aJ.of (bc ?_) (OLe.bX _) (λx hx=>hx) (Jl _) (Jl _)) (WC h3)) (λe s' h=>qc h);exact xSb
 have d3:decide (key.k=3)=false:=Jn h3;by_cases h2:key.k=2
 ·have d2:decide (key.k=2)=true:=Jt h2;refine rf0 (cj4 fK d1 d3 d2) ?_;refine Wp.mono (Wp.le (aJ.of (bc ?_) (OLe.bX _) (λx hx=>hx) (Jl _) (Jl _)) (WV h2)) (λe s' h=>qc h);exact xSb
 have d2:decide (key.k=2)=false:=Jn h2;have hR:jF (bt.map Prod.fst,q) key p.v=none:=by
  unfold jF;rw[Jr h1,Jr h3,Jr h2]
 rw[hR];refine rf0 (cj4 fK d1 d3 d2) ?_;rw[<-hD];unfold elD el2 el1 gE fq c64 zz;simp only[hdA,tlA,blX,thA,elA];refine Wp.r6 xAc xAb fR (trivial) ?_;exact ⟨rfl,M.o1⟩
theorem nk{F:Nat->Option Av.Obj}{k:Nat}{cs cs':List AV}(h:F k=some (.cells cs))(hs:aw cs cs'):OLe F (upd F k (some (.cells cs'))):=λj o' hj=>by
 simp only[upd] at hj;split at hj
 ·rename_i e;subst e;cases hj;exact ⟨_,h,hs⟩
 ·exact ⟨o',hj,dP.refl _⟩
set_option maxHeartbeats 2000000 in
theorem F5(L:List Pr)(h:H)(bt:List (Bk × Nat))(q:List Pc)(J:Nat)(hJ:J<=5000)(I:kY L h bt q J)(p:Pr)(hpk:p.k.length<=140737488355328)(hpv:p.v.length<=140737488355328):
  Wp Tryz.prog 161 c64 ⟨fL [.ptr 3 0,.agg [.str p.k,.str p.v]],h⟩ (QA L J (jv (bt.map Prod.fst,q) p)):=by
 obtain ⟨F,n,toks,m⟩:=h;obtain ⟨k,f3,hrow⟩:=I.row;have f2:=I.mp;have f0:=I.o0;have f1:=I.o1;have f4:=I.o4;have hn:=I.hn;have htk:=I.tk;have htm:=I.tm;simp only at f3 hrow f2 f0 f1 f4 hn htk htm;obtain ⟨F',hle,g3,g2,g0,g1,g4,gk⟩:∃F',OLe F F'/\F' 3=some (.cells [bV bt k,.mp 2])/\F' 2=some (.map (fp q))/\F' 0=some (.cells [.sl 2 (prs L) .any])/\F' 1=some (.cells [.sl 3 [] (.exact 0)])/\F' 4=some (.cells [.ptr 3 0])/\(bt≠[]->5<=k/\k<n/\F' k=some (.cells (dX bt))):=by
  by_cases ho:bt=[]
  ·exact ⟨F,OLe.bX _,f3,f2,f0,f1,f4,λx=>absurd ho x⟩
  ·obtain ⟨a,b,cs,c,d⟩:=hrow ho;refine ⟨upd F k (some (.cells (dX bt))),nk c d,?_,?_,?_,?_,?_,λ_=>⟨a,b,by simp[upd]⟩⟩;all_goals
    simp only[upd];rw[Jr aa];assumption
 refine Wp.le (aJ.of (λ_=>ar.refl _) hle (λx hx=>hx) (Jl _) (Jl _)) ?_;have W:=λ(key:Ky) (M:Mid L (upd (upd (upd F' n (some (.cells [.str p.k,.str p.v]))) (n+1) (some (.cells [.int .i64 0,.str [],.str [],.sl 1 [] (.exact 0)]))) (n+1) (some (.cells [.int .i64 key.k,.str key.b,.str key.o,.sl 1 (ints key.ns) .any]))) n toks m bt q J k p key) hok=>Dn M hok hpv;have n3:¬(3=n):=by omega
 have n4:¬(4=n):=by omega
 have n0:¬(0=n):=by omega
 have n1:¬(1=n):=by omega
 have n2:¬(2=n):=by omega
 have m3:¬(3=n+1):=by omega
 have m4:¬(4=n+1):=by omega
 have m0:¬(0=n+1):=by omega
 have m1:¬(1=n+1):=by omega
 have m2:¬(2=n+1):=by omega
 have nn:¬(n=n+1):=by omega
 have cp:=EP p.k hpk;have hpe:wK p.k=if eR p.k then 0 else 4:=rfl
 have hS:jv (bt.map Prod.fst,q) p=if eR p.k=true then jF (bt.map Prod.fst,q) (bo p.k) p.v else none:=rfl
 rw[hS,Fe];generalize hT:fq=T at*
 unfold c64 zz;simp only[hdA,tlA];cases hb:eR p.k with
 |false=>
  rw[hb] at hpe;rw[Jr af] at hpe |-;rw[hpe] at cp;unfold eY at cp;refine Wp.bf xAc ?_;refine an.nil ?_;refine Wp.bf xAc ?_;refine an.bE xA2 xAb (cp) ?_;refine an.evF (xAd nn) ?_;refine an.nil ?_;refine Wp.di (xAd nn) xAb fR (trivial) ?_;exact ⟨rfl,by simp only[upd,n1,m1,Js];exact g1⟩
 |true=>
  rw[hb] at hpe;rw[JC rfl] at hpe |-;rw[hpe] at cp;have hok:=(wQ hb).1;have W2:=W (bo p.k);unfold eY at cp;generalize bo p.k=key at*
  refine Wp.bf xAc ?_;refine an.nil ?_;refine Wp.bf xAc ?_;refine an.bE xA2 xAb (cp) ?_;refine an.evF (xAd nn) ?_;refine an.nil ?_;refine Wp.bf (xAd nn) ?_;refine an.bE xA2 xAb (kp) ?_;refine an.nil ?_;refine Wp.le (aJ.of (bc ?_) (OLe.bX _) (λx hx=>hx) (Jl _) (Jl _)) (W2 ?_ hok)
  ·exact xSb
  ·refine ⟨λho=>⟨(gk ho).1,(gk ho).2.1⟩,hn,?_,λho=>?_,?_,?_,?_,?_,?_,?_,htk,htm,I.nd,I.len,I.vers,I.pcs,hJ⟩
   ·simp only[upd,n3,m3,Js];exact g3
   ·obtain ⟨a,b,c⟩:=gk ho;have e1:¬(k=n):=by omega
    have e2:¬(k=n+1):=by omega
    simp only[upd,e1,e2,Js];exact c
   ·simp only[upd,n2,m2,Js];exact g2
   ·simp only[upd,n0,m0,Js];exact g0
   ·simp only[upd,n1,m1,Js];exact g1
   ·simp only[upd,n4,m4,Js];exact g4
   ·simp only[upd,nn,Js,Jw]
   ·simp only[upd,Jw]
theorem Dp{L:List Pr}{h:H}{bt:List (Bk × Nat)}{q:List Pc}{J:Nat}(hJ:J<=5000)(I:kY L h bt q J){p:Pr}(hpk:p.k.length<=140737488355328)(hpv:p.v.length<=140737488355328){S:SS}(hS:jv (bt.map Prod.fst,q) p=some S):
  ∃r h',aS Tryz.prog 64 [.ptr 3 0,.agg [.str p.k,.str p.v]] h r h'/\(h.n<=h'.n/\h.m<=h'.m)/\∃bt',bt'.map Prod.fst=S.1/\kY L h' bt' S.2 (J+1):=by
 have W:=F5 L h bt q J hJ I p hpk hpv;rw[hS] at W;exact aU.xA (Q:=λ_ h'=>∃bt',bt'.map Prod.fst=S.1/\kY L h' bt' S.2 (J+1)) f64 af (W.mono λe s' hq=>⟨qb hq.1,_,rfl,hq.2⟩)
theorem yq{L:List Pr}{h:H}{bt:List (Bk × Nat)}{q:List Pc}{J:Nat}(hJ:J<=5000)(I:kY L h bt q J){p:Pr}(hpk:p.k.length<=140737488355328)(hpv:p.v.length<=140737488355328)(hS:jv (bt.map Prod.fst,q) p=none):
  ∃h',fh Tryz.prog 64 [.ptr 3 0,.agg [.str p.k,.str p.v]] h v4 h'/\(h.n<=h'.n/\h.m<=h'.m)/\h'.objs 1=some (.cells [.sl 3 [] (.exact 0)]):=by
 have W:=F5 L h bt q J hJ I p hpk hpv;rw[hS] at W;obtain ⟨v,h',a,b,rfl,c⟩:=aU.FJ (Q:=λv h'=>v=v4/\h'.objs 1=some (.cells [.sl 3 [] (.exact 0)])) f64 af (W.mono λe s' hq=>⟨_,hq.1,rfl,hq.2⟩);exact ⟨h',a,b,c⟩
theorem Ff:aH Tryz.prog 148 [.int .u64 0] (.int .i64 0):=by
 refine f148.aG af (by simp[aD,aP]) rfl ?_;unfold HA zz;refine rn0 KQ ?_;refine aK ?_;exact ar.refl _
theorem GV:aH Tryz.prog 95 [.int .u64 0] (.int .i64 0):=by
 refine f95.aG af (by simp[aD,aP]) rfl ?_;unfold c95 zz;refine rn1 KQ Ff ?_;refine aK ?_;exact ar.refl _
theorem IN(g:AV)(hg:aP g=true):aH Tryz.prog 139 [.sl 2 [] .any,.int .i64 0,.int .i64 0,g] (.tup []):=by
 refine f139.aG af (by simp[aD,aP,bw,hg]) rfl ?_;unfold Hz zz;refine rn0 KQ ?_;refine Wp.gQ [1,2] xA6 (λj:Nat=>[(8,.int .i64 1)]) (λj=>j=0) (λj=>j) 0 rfl ?_ ?_
 ·exact xSb
 rintro j hj;refine rn0 KQ ?_;exact ⟨trivial,_,rfl,ar.refl _⟩
theorem IP(g:AV)(hg:aP g=true):aH Tryz.prog 94 [.sl 2 [] .any,.int .i64 0,.int .i64 0,.int .i64 0,g] (.tup []):=by
 refine f94.aG af (by simp[aD,aP,bw,hg]) rfl ?_;have c1:=IN g hg;unfold c94 zz;refine rn0 KQ ?_;refine Wp.gQ [0,1,2,3,4] xA6 (λj:Nat=>[]) (λj=>j=0) (λj=>j) 0 rfl ?_ ?_
 ·trivial
 rintro j hj;refine rn1 KQ c1 ?_;exact Wp.ret ⟨trivial,_,rfl,ar.refl _⟩
theorem Fg:aH Tryz.prog 45 [.sl 2 [] .any,.clo (.func 46) [] []] (.tup []):=by
 refine f45.aG af (by simp[aD,aP,bw]) rfl ?_;have c1:=IP (.clo (.func 46) [] []) rfl;unfold c45 zz;refine rn2 KQ GV c1 ?_;exact ⟨trivial,_,rfl,ar.refl _⟩
def nq(o:List Pr):Av.Obj:= .cells (o.flatMap encA)
def rV(o:List Pr)(k:Nat):AV:=if o=[] then .sl 2 [] (.exact 0) else .tsl 2 k 0 o.length none
def rO(o:List Pr)(k:Nat)(f:Nat->Option Av.Obj):Nat->Option Av.Obj:=upd (if o=[] then f else upd f k (some (nq o))) 1 (some (.cells [rV o k]))
theorem Dq(o:List Pr)(k:Nat)(f:Nat->Option Av.Obj):rO o k f 1=some (.cells [rV o k]):=by simp[rO,upd]
theorem Dr{o:List Pr}{k:Nat}{f:Nat->Option Av.Obj}(h:o≠[])(hk:k≠1):rO o k f k=some (nq o):=by simp[rO,upd,h,hk]
theorem jx{o:List Pr}{k j:Nat}{f:Nat->Option Av.Obj}(h1:j≠1)(h2:o≠[]->j≠k):rO o k f j=f j:=by
 unfold rO;by_cases ho:o=[]
 ·simp[upd,ho,h1]
 ·simp[upd,ho,h1,h2 ho]
theorem Dt{o:List Pr}{k:Nat}{g f:Nat->Option Av.Obj}(h1:g 1=some (.cells [rV o k]))(h2:o≠[]->g k=some (nq o))(h3:OLe g f):OLe g (rO o k f):=by
 intro j p hp;unfold rO at hp;simp only[upd] at hp;split at hp
 ·rename_i e;subst e;cases hp;exact ⟨_,h1,dP.refl _⟩
 ·split at hp
  ·exact h3 j p hp
  ·rename_i ho;simp only[upd] at hp;split at hp
   ·rename_i e;subst e;cases hp;exact ⟨_,h2 ho,dP.refl _⟩
   ·exact h3 j p hp
theorem uE(o:List Pr)(p:Pr):o.flatMap encA++([.agg [.str p.k,.str p.v]]:List AV).flatMap cellsOf=(o++[p]).flatMap encA:=by simp[encA,cellsOf]
theorem wX(o:List Pr):(o.flatMap encA).length=o.length*2:=eC o
theorem OLe.one{g:Nat->Option Av.Obj}{L:Nat}{A:Av.Obj}(h:g L=some A):OLe g (upd av L (some A)):=by
 intro j p hp;simp only[upd,av] at hp;split at hp
 ·rename_i e;subst e;cases hp;exact ⟨_,h,dP.refl _⟩
 ·cases hp
theorem sE{o:List Pr}{k L:Nat}{A B:Option Av.Obj}(h1:L≠1)(h2:o≠[]->k≠L):upd (rO o k (upd av L A)) L B=rO o k (upd av L B):=by
 funext j;unfold rO;by_cases ho:o=[]
 ·simp only[ho,Jw,upd];by_cases a:j=L
  ·subst a;simp[h1]
  ·simp[a]
 ·simp only[ho,Js,upd];by_cases a:j=L
  ·subst a;simp[h1,LO (h2 ho)]
  ·simp[a]
theorem GW{o:List Pr}{k L:Nat}{A:Option Av.Obj}(h1:L≠1)(h2:o≠[]->k≠L):(λj=>if j=L then none else rO o k (upd av L A) j)=rO o k av:=by
 funext j;unfold rO;by_cases a:j=L
 ·subst a;by_cases ho:o=[]
  ·simp[upd,ho,h1,av]
  ·simp[upd,ho,h1,LO (h2 ho),av]
 ·by_cases ho:o=[]
  ·simp[upd,ho,a]
  ·simp[upd,ho,a]
theorem Du(L:Nat):upd (av:Nat->Option Av.Obj) L none=av:=by
 funext j;simp[upd,av]
theorem GX{o:List Pr}{k L:Nat}{B:Option Av.Obj}(h1:L≠1)(h2:o≠[]->k≠L):upd (rO o k av) L B=rO o k (upd av L B):=by
 have:=sE (o:=o) (k:=k) (L:=L) (A:=none) (B:=B) h1 h2
 rwa [Du] at this
def nZ(R:List (List Ch))(j:Nat):List Pr:=(R.take j).flatten.map eh
def hIn(o:List Pr)(k L:Nat)(lp:Av.Obj)(n m:Nat):H:=⟨rO o k (upd av L (some lp)),n,[],m⟩
set_option maxHeartbeats 4000000 in
theorem yr(m:List Bk)(hf:Few m)(hF:imB m=true->(aI m).length<=100000){Q:AV->H->Prop}
  (q1:∀h,(if imB m=true then aF (aI m) else [])=[]->Q (.tup [.sl 2 [] (.exact 0),.int .i64 (imE m)]) h)
  (q2:imB m=true->∀k h,h.objs k=some (.cells ((aF (aI m)).flatMap encA))->h.toks=[]->k<h.n->Q (.tup [.tsl 2 k 0 (aF (aI m)).length none,.int .i64 0]) h):
  ∃r h',aS Tryz.prog 13 [bD m] (H0 0 0) r h'/\Q r h':=by
 refine f13.dF af ?_;unfold c13;have h1:=oz m hf;have len:=gC m;unfold imE at*
 cases hm:imB m with
 |false=>
  rw[hm] at h1 q1;simp only[Jy,Js,true_implies] at h1 q1;unfold bD at*
  refine rZ h1 ?_;refine aK ?_;exact q1 _
 |true=>
  rw[hm] at h1 q1;simp only[Jw] at h1 q1
  replace q2:=q2 hm
  unfold bD at*
  obtain ⟨hl,hok⟩:=xW hm
  replace hF:=hF hm
  refine rf1 @len h1 ?_;refine Wp.le (s':=⟨tm [(5,.ptr 1 0),(17,.sl 3 (bks m) .any),(18,.int .i64 m.length),(19,.int .i64 0)],⟨rO [] 0 av,2,[],0⟩⟩) (aJ.of (bc ?_) (Dt ?_ (λh=>absurd rfl h) (OLe.none _)) (λa ha=>ha) (Jl _) (Jl _)) ?_
  ·exact xSb
  ·simp[upd,rV]
  refine Wp.eX [5,17,18] xA7 (λb:Nat × Nat × Nat × Nat=>[(19,.int .i64 (b.1:Nat))]) (λb=>⟨rO (aI (m.take b.1)) b.2.1 av,b.2.2.1,[],b.2.2.2⟩)
   (λb=>b.1<=m.length/\2<=b.2.2.1/\(aI (m.take b.1)≠[]->b.2.1<b.2.2.1/\b.2.1≠1)) (λb=>m.length - b.1) (0,0,2,0) ⟨JJ _,Jl _,λh=>absurd rfl h⟩ rfl ?_ ?_
  ·exact xSb
  rintro ⟨j,k,n,mm⟩ ⟨hj,hn2,hk⟩;simp only at hj hn2 hk;by_cases hc:j<m.length
  ·obtain ⟨g1,g2,g3,e1⟩:=gf hc (JT hl ah);have hat:=iP m j .any hc;have hb:=hok j hc;have hfe:=hf.at j;have hsn:=wy m j hc;have hle:=Cw m (j+1);rw[hsn,Ju] at hle;have c1:=Ct (m.getD j default);have hTH:=CT (m.getD j default) hb hfe;have hFB:gV (m.getD j default)=(cK (m.getD j default)).flatten.map eh:=rfl;rw[hFB] at hsn hle;generalize cK (m.getD j default)=R at*
   generalize hP0:aI (m.take j)=P0 at*
   generalize m.getD j default=b at*
   clear hFB;obtain ⟨nm,st,vl⟩:=b;unfold iO at hat c1;have n1:¬(1=n):=by omega
   refine rf1 (cj6 g1 g2 g3 @len hat @Jq) c1 ?_;refine Wp.le (s':=⟨tm [(5,.ptr 1 0),(17,.sl 3 (bks m) .any),(18,.int .i64 m.length),(19,.int .i64 j),(24,.clo (.func 91) [] [.ref [.str nm,.int .i64 st,.sl 8 (vss vl) .any]])],⟨rO P0 k av,n+1,[],mm⟩⟩) (aJ.of (bc ?_) ?_ (λa ha=>ha) (Jl _) (Jl _)) ?_
   ·exact xSb
   ·intro a u hu;have hne:a≠n:=by
     rintro rfl;rw[jx aa (λh=>by have:=(hk h).1;omega)] at hu;cases hu
    exact ⟨u,by simp only[upd,hne,Js];exact hu,dP.refl _⟩
   generalize hL:n+1=L at*
   have hkL:P0≠[]->k<L/\k≠1:=λh=>⟨by have:=(hk h).1;omega,(hk h).2⟩;have hL1:L≠1:=by omega
   have hL2:1<L:=by omega
   clear hk;refine Wp.Hm (fi:=91) (first:=[]) (caps:=[.ref [.str nm,.int .i64 st,.sl 8 (vss vl) .any]]) (by simp only[go_sem,reduceIte,Nat.reduceEqDiff]) (Tryz.func91) rfl (JL (by kernel_rfl)) (jx hL1 (λh=>by show L≠k;have:=(hkL h).1;omega)) λasg body a1 a2 a3 a4=>?_;generalize hT:tm [(5,AV.ptr 1 0),(17,.sl 3 (bks m) .any),(18,.int .i64 m.length),(19,.int .i64 j),(24,.clo (.func 91) [] [.ref [.str nm,.int .i64 st,.sl 8 (vss vl) .any]])]=tt at*
   have t5:tt 5= .ptr 1 0:=by rw[<-hT];rfl
   refine (hTH L (λi h=>∃k' n' m',h=hIn (P0++nZ R i) k' L (.loop 45 tt [25] asg body .ready none) n' m'/\L<n'/\(P0++nZ R i≠[]->k'<n'/\k'≠1/\k'≠L)) (λ_=>False) ?_ ?_ ?_ _ ?_).mono ?_
   ·rintro i h ⟨k',n',m',rfl,q1,q2⟩;refine ⟨λa ha=>?_,λt ht=>by cases ht⟩;have ha:n'<=a:=ha;show rO _ _ _ a=none;rw[jx aa (λh=>by have:=(q2 h).1;omega)];have:a≠L:=by omega
    simp[upd,this,av]
   ·rintro i h n2 m2 ⟨k',n',m',rfl,q1,q2⟩ hn hm;have hn:n'<=n2:=hn;exact ⟨k',n2,m2,rfl,aa,λh=>⟨by have:=(q2 h).1;omega,(q2 h).2⟩⟩
   ·rintro i h t m2 hi ⟨k',n',m',rfl,q1,q2⟩ ht1 ht2;have hob:rO (P0++nZ R i) k' (upd av L (some (Av.Obj.loop 45 tt [25] asg body .ready none))) L=some (.loop 45 tt [25] asg body .ready none):=by
     rw[jx hL1 (λh=>LO (q2 h).2.2)];simp[upd]
    refine vG (t:=tt) (ps:=[25]) hob a1 a2 a3 a4 rfl af ?_;refine Wp.tg (by simp only[go_sem,reduceIte,Nat.reduceEqDiff,mn];exact rfl) ag ⟨rfl,tt,hob,?_⟩;clear hob;simp only[hIn];rw[sE hL1 (λh=>(q2 h).2.2)];have hsr:=Aj R i hi;have hlr:=Ez R (i+1);rw[hsr,Ju] at hlr;have hr1:nZ R i=(R.take i).flatten.map eh:=rfl;have hr2:nZ R (i+1)=nZ R i++(R.getD i []).map eh:=hsr;rw[hr2];have cl:=dp (R.getD i []);generalize R.getD i []=r at*
    have hb2:(P0++nZ R i).length+r.length<=100000:=by
     have q1:r.length=(r.map eh).length:=(KL _).symm;rw[Ju,q1,hr1];exact JT aa hF
    rw[<-K7];generalize P0++nZ R i=P1 at*
    clear hr1 hr2 hsr hlr ht1;refine rf0 (cj2 cl t5) ?_;refine Wp.le (s':=⟨tm [(5,.ptr 1 0),(26,.sl 3 (chs r) .any),(27,.int .i64 r.length),(28,.int .i64 0)],⟨rO P1 k' (upd av L (some (Av.Obj.loop 45 tt [25] asg body .busy none))),n',[],m2⟩⟩) (aJ.of (bc ?_) (OLe.bX _) (λa ha=>by cases ha) (Jl _) (Jl _)) ?_
    ·simp only[aN,go_sem,reduceIte,Nat.reduceEqDiff,Nat.reduceAdd,bx,t5];and_intros<;>first|exact trivial|exact ar.refl _|exact ar.any _|exact ar.cap|(refine ar.int ?_;omega)
    generalize hbz:Av.Obj.loop 45 tt [25] asg body .busy none=bz at*
    refine Wp.eX [5,26,27] xA7 (λb:Nat × Nat × Nat=>[(28,.int .i64 (b.1:Nat))]) (λb=>⟨rO (P1++(r.take b.1).map eh) b.2.1 (upd av L (some bz)),b.2.2,[],m2⟩)
     (λb=>b.1<=r.length/\L<b.2.2/\(P1++(r.take b.1).map eh≠[]->b.2.1<b.2.2/\b.2.1≠1/\b.2.1≠L)) (λb=>r.length - b.1) (0,k',n') ⟨JJ _,q1,by simpa using q2⟩ af ?_ ?_
    ·exact xSb
    rintro ⟨i2,k2,n2⟩ ⟨hi2,hn3,hk2⟩;simp only at hi2 hn3 hk2;by_cases hci:i2<r.length
    ·obtain ⟨i1,i3,i4,i5⟩:=gf hci (JT (JT (Nat.le_add_left _ _) hb2) ah);have hai:=tL r i2 .any hci;have hsi:=pU eh r i2 hci;have hPn:(P1++(r.take i2).map eh).length<=100000:=by
      rw[Ju,KL,JU];omega
     have hsn2:P1++(r.take (i2+1)).map eh=(P1++(r.take i2).map eh)++[eh (r.getD i2 default)]:=by rw[hsi,K7]
     generalize r.getD i2 default=c at*
     generalize P1++(r.take i2).map eh=P at*
     clear hsi;obtain ⟨ck,cv,cd⟩:=c;unfold pz at hai;have x1:¬(1=n2):=by omega
     have x2:¬(1=n2+1):=by omega
     have x3:¬(n2=n2+1):=by omega
     have x4:¬(L=n2):=by omega
     have x5:¬(L=n2+1):=by omega
     have x6:¬(L=1):=hL1;have hF1:=Dq P k2 (upd av L (some bz));have hFL:rO P k2 (upd av L (some bz)) L=some bz:=by
      rw[jx hL1 (λh=>LO (hk2 h).2.2)];simp[upd]
     by_cases ho:P=[]
     ·subst ho;have hv:rV [] k2= .sl 2 [] (.exact 0):=rfl;rw[hv] at hF1;generalize rO [] k2 (upd av L (some bz))=F at*
      refine rf0 (cj6 i1 i3 i4 cl hai @Jq) ?_;refine Wp.BF ?_;refine an.op1 ae (by simp only[go_sem,reduceIte,Nat.reduceEqDiff,Nat.reduceAdd,bx,ax,Jw,Js,Nat.reduceMul,Nat.reduceLeDiff,x1,hF1];exact rfl) ?_;simp only[bH];refine an.op1 ae (by simp only[go_sem,reduceIte,Nat.reduceEqDiff,Nat.reduceAdd,bx,ax,Jw,Js,Nat.reduceMul,Nat.reduceLeDiff,x1,hF1];exact rfl) ?_;simp only[bH];refine an.op1 ae (by simp only[go_sem,reduceIte,Nat.reduceEqDiff,Nat.reduceAdd,bx,ax,Jw,Js,Nat.reduceMul,Nat.reduceLeDiff,x1,hF1];exact rfl) ?_;simp only[bH];refine an.op1 ae (by simp only[go_sem,reduceIte,Nat.reduceEqDiff,Nat.reduceAdd,bx,ax,Jw,Js,Nat.reduceMul,Nat.reduceLeDiff,x1,hF1];exact rfl) ?_;simp only[bH];refine an.op1 ae (by simp only[go_sem,reduceIte,Nat.reduceEqDiff,Nat.reduceAdd,bx,ax,Jw,Js,Nat.reduceMul,Nat.reduceLeDiff,x1,hF1];exact rfl) ?_;simp only[bH];refine an.op1 ae (by simp only[go_sem,reduceIte,Nat.reduceEqDiff,Nat.reduceAdd,bx,ax,Jw,Js,Nat.reduceMul,Nat.reduceLeDiff,x1,hF1];exact rfl) ?_;simp only[bH];refine an.op1 ae (by simp only[go_sem,reduceIte,Nat.reduceEqDiff,Nat.reduceAdd,bx,ax,Jw,Js,Nat.reduceMul,Nat.reduceLeDiff,x1,hF1];exact rfl) ?_;simp only[bH];refine an.opT ae (by simp only[jj,go_sem,reduceIte,Nat.reduceEqDiff,Nat.reduceAdd,bx,List.all_cons,List.all_nil,List.length_cons,List.length_nil,Nat.reduceMul,Nat.reduceLeDiff,Nat.reduceLT,Nat.zero_lt_succ,JI,Jw,JO,K3];exact rfl) ?_;simp only[bH];refine an.evF (xAd (cj4 x1 x2 x3 hF1)) ?_;refine fC ?_;refine ⟨(i2+1,n2+1,n2+2),⟨hci,by show L<n2+2;omega,λ_=>⟨by show n2+1<n2+2;omega,by show n2+1≠1;omega,by show n2+1≠L;omega⟩⟩,K9 hci (J8 _),?_⟩;rw[hsn2];refine aJ.of (bc ?_) (Dt ?_ (λ_=>?_) (OLe.one ?_)) (λ_ h=>h) (Jl _) (Jl _)
      ·exact dU i5
      ·simp[upd,rV,eh]
      ·simp only[upd];rw[Jr (show ¬(n2+1=1) by omega),JC trivial];simp[nq,encA,eh,cellsOf]
      ·simp only[upd,x4,x5,x6,Js];exact hFL
     ·have hv:rV P k2= .tsl 2 k2 0 P.length none:=by rw[rV,Jr ho]
      obtain ⟨y1,y2,y3⟩:=hk2 ho;have hFk:=Dr (f:=upd av L (some bz)) ho y2;rw[hv] at hF1;generalize rO P k2 (upd av L (some bz))=F at*
      have x7:¬(k2=n2):=by omega
      have x8:¬(k2=1):=y2;have x9:¬(1=k2):=LO y2;have x10:¬(L=k2):=LO y3;have hcl:=wX P;have r1:(P.length+1)*32<=140737488355328:=JT (Kt _ (Nat.succ_le_succ hPn)) ah;have r2:P.length+1<4611686018427387904:=by omega
      have hcs:=uE P ⟨ck,cv⟩;simp only at hcs;refine rf0 (cj6 i1 i3 i4 cl hai @Jq) ?_;refine Wp.BF ?_;refine an.evF (xAd (cj2 x1 hF1)) ?_;refine an.opK ae (by simp only[lI,go_sem,reduceIte,Nat.reduceEqDiff,Nat.reduceAdd,bx,List.all_cons,List.all_nil,List.length_cons,List.length_nil,x7,hFk,nq,hcl,r1,r2,JI,Jw,Js,JO,K3,hcs];exact rfl) ?_;simp only[bH];refine an.evF (xAd (cj5 x1 x2 x3 x9 hF1)) ?_;refine fC ?_;refine ⟨(i2+1,n2+1,n2+2),⟨hci,by show L<n2+2;omega,λ_=>⟨by show n2+1<n2+2;omega,by show n2+1≠1;omega,by show n2+1≠L;omega⟩⟩,K9 hci (J8 _),?_⟩;rw[hsn2];refine aJ.of (bc ?_) (Dt ?_ (λ_=>?_) (OLe.one ?_)) (λ_ h=>h) (Jl _) (Jl _)
      ·exact dU i5
      ·have:P++[eh ⟨ck,cv,cd⟩]≠[]:=by simp
       simp[upd,rV,this]
      ·simp only[upd];rw[Jr (show ¬(n2+1=1) by omega),JC trivial];simp[nq,eh]
      ·simp only[upd,x4,x5,x6,x10,Js];exact hFL
    ·have hi3:i2=r.length:=by omega
     subst hi3;have ig:=kf r.length;rw[J1] at hk2 |-;refine rf0 ig ?_;simp only[aC.inBlock];refine ⟨tt,true,.ready,none,?_,.normal,λ_ _=> .inl ⟨rfl,k2,n2,m2,?_,hn3,hk2⟩⟩
     ·show rO _ _ _ L=_;rw[jx hL1 (λh=>LO (hk2 h).2.2),<-hbz];simp[upd]
     ·simp only[hIn];rw[sE hL1 (λh=>(hk2 h).2.2)]
   ·exact ⟨k,L+1,mm,by simp only[hIn,nZ,List.take_zero,List.flatten_nil,J4,JY];rw[GX hL1 (λh=>by have:=(hkL h).1;omega)],aa,by simpa [nZ] using λh=>⟨by have:=(hkL h).1;omega,(hkL h).2,by have:=(hkL h).1;omega⟩⟩
   ·rintro r h' ⟨rfl,⟨k',n',m',rfl,q1,q2⟩|hx⟩
    case inr=>exact absurd hx (λh=>h)
    have hall:nZ R R.length=R.flatten.map eh:=by unfold nZ;rw[J1]
    rw[hall,<-hsn] at q2 |-;refine ⟨tt,.ready,none,.normal,?_,by simp,.none,?_⟩
    ·show rO _ _ _ L=_;rw[jx hL1 (λh=>LO (q2 h).2.2)];simp[upd]
    ·simp only[hIn];rw[GW hL1 (λh=>(q2 h).2.2)];simp only[aC.inBlock,aC.andThen];rw[<-hT];refine rf0 e1 ?_;refine ⟨(j+1,k',n',m'),⟨hc,by show 2<=n';omega,λh=>⟨(q2 h).1,(q2 h).2.1⟩⟩,K9 hc (J8 _),?_⟩;refine aJ.tm ?_;exact xSb
  ·have hj2:j=m.length:=by omega
   subst hj2;have g1:=kf m.length;rw[J1] at hk |-;have hF1:=Dq (aI m) k av;by_cases ho:aI m=[]
   ·have hv:rV (aI m) k= .sl 2 [] (.exact 0):=by rw[rV,JC ho]
    have he:aF (aI m)=[]:=by rw[ho];rfl
    rw[hv] at hF1;generalize rO (aI m) k av=F at*
    rw[he] at q1;refine rf1 (cj2 g1 hF1) Fg ?_;refine aK ?_;exact q1 _ rfl
   ·have hv:rV (aI m) k= .tsl 2 k 0 (aI m).length none:=by rw[rV,Jr ho]
    obtain ⟨y1,y2⟩:=hk ho;have hFk:=Dr (f:=av) ho y2;rw[hv] at hF1;obtain ⟨p1,p2⟩:=pW (fo hm) (pY hm);have hsort:=Gw (aI m) (aF (aI m)) (Lh.2 ho) aa p1 (CD (fo hm)) (wB (fo hm)) (gW _) p2 (id:=k) (h:=⟨rO (aI m) k av,n,[],mm⟩) hFk rfl;have x9:¬(1=k):=LO y2;generalize rO (aI m) k av=F at*
    refine rf0 (cj2 g1 hF1) ?_;refine an.gP (h':=⟨upd F k (some (.cells ((aF (aI m)).flatMap encA))),n,[],mm⟩) ae xA4 ⟨Jl _,Jl _⟩ hsort ?_;refine an.evF xAc ?_;refine rf0 (cj2 x9 hF1) ?_;refine aK ?_;rw[<-p1];exact q2 k _ (by simp[upd]) rfl y1
theorem iV(m:List Bk)(hf:Few m)(hF:imB m=true->(aI m).length<=100000):aH Tryz.prog 13 [bD m] (.tup [.sl 2 (prs (if imB m=true then aF (aI m) else [])) .any,.int .i64 (imE m)]):=by
 obtain ⟨r,h',hc,u⟩:=yr m hf hF (Q:=λq h=>UpK h q (.tup [.sl 2 (prs (if imB m=true then aF (aI m) else [])) .any,.int .i64 (imE m)])) (λh e=>by
  rw[e];exact .inl (ar.tup (aw.cons ar.cap (aw.refl _)))) (λhm k h e _ _=>by
  have hE:imE m=0:=by unfold imE;rw[JC hm]
  rw[JC hm,hE];refine .inr ⟨(aF (aI m)).map encA,k,2,[.int .i64 0],by rw[KL],λx hx=>?_,?_,?_⟩
  ·obtain ⟨p,-,rfl⟩:=JF.1 hx;rfl
  ·simpa [List.flatMap] using e
  ·refine ar.of_eq ?_;simp[prs,dv,encA])
 exact (hc.upK u).tl (cm _ (by simp[aD,cJ])) (ar.refl _) (dA _ (by simp[aP,aD,bw,jW]))
def uF:AV:= .tup [.agg [.sl 3 [] .any],.int .i64 4]
theorem cI(l:List Pr)(j:Nat)(d:AV)(h:j<l.length):(prs l).getD j d= .agg [.str (l.getD j default).k,.str (l.getD j default).v]:=by
 simp[prs,dv,List.getD,Jm h]
theorem Fh(a b:List Pr)(ha:a.length<=1000000)(hb:b.length<=1000000):aH Tryz.prog 65 [.sl 2 (prs a) .any,.sl 2 (prs b) .any] (.bool (decide (a=b))):=by
 refine f65.aG af (by simp[aD,aP,bw,jW]) rfl ?_;unfold c65 zz;have lea:=bm a;have leb:=bm b;by_cases hlen:a.length=b.length
 ·have e0:decide (((a.length:Nat):Int)=((b.length:Nat):Int))=true:=Jt aa;refine rn0 (cj4 lea leb e0 @Kb) ?_;refine Wp.gQ [0,1,12] xA6 (λj:Nat=>[(13,.int .i64 (j:Nat))]) (λj=>j<=a.length/\a.take j=b.take j) (λj=>a.length - j) 0 ⟨JJ _,rfl⟩ ?_ ?_
  ·exact xSb
  rintro j ⟨hj,hpre⟩;by_cases hc:j<a.length
  ·obtain ⟨g1,g2,g3,e1⟩:=gf hc (JT ha ah);have g4:(j:Int)<(b.length:Int):=by omega
   have hat:=cI a j .any hc;have hbt:=cI b j .any aa;have ea:a.getD j default=a[j]:=by simp[List.getD,Jm hc]
   have eb:b.getD j default=b[j]:=by simp[List.getD,Jm (show j<b.length by omega)]
   by_cases hp:a.getD j default=b.getD j default
   ·have hnext:a.take (j+1)=b.take (j+1):=by
     rw[JV hc,JV (show j<b.length by omega),hpre,<-ea,<-eb,hp]
    rw[<-hp] at hbt;generalize a.getD j default=p at*
    refine rn0 (bF g1 g2 g3 g4 lea leb hat hbt @Jq @KH.{0} @bne_self_eq_false.{0} (cj4 @JO @K3 @JK.{0,0} @Kb)) ?_;refine ⟨j+1,⟨aa,hnext⟩,K9 hc (J8 _),?_⟩;exact Gg e1
   ·have hne:decide (a=b)=false:=Jn λh=>hp (by rw[h]);rw[hne];generalize a.getD j default=p at*
    generalize b.getD j default=q at*
    have dpq:(decide (p.k=q.k)&&decide (p.v=q.v))=false:=by
     rw[Bool.and_eq_false_iff];by_cases h1:p.k=q.k
     ·refine .inr (Jn λh2=>hp ?_);obtain ⟨pk,pv⟩:=p;obtain ⟨qk,qv⟩:=q;simp only at h1 h2;rw[h1,h2]
     ·exact .inl (Jn h1)
    refine rn0 (bF g1 g2 g3 g4 lea leb hat hbt dpq @Jq @JK.{0,0} @Kf) ?_;refine aK ?_;exact ar.refl _
  ·have hj2:j=a.length:=by omega
   subst hj2;have g1:=kf a.length;have he:decide (a=b)=true:=by
    rw[J1,hlen,J1] at hpre;exact Jt hpre
   rw[he];refine rn0 (cj2 g1 lea) ?_;refine aK ?_;exact ar.refl _
 ·have e0:decide (((a.length:Nat):Int)=((b.length:Nat):Int))=false:=Jn aa;have hne:decide (a=b)=false:=Jn λh=>hlen (by rw[h]);rw[hne];refine rn0 (cj4 lea leb e0 @Kf) ?_;refine aK ?_;exact ar.refl _
def qp(b:Bk):List AV:=[.str b.n,.int .i64 b.st,.sl 8 (vss b.l) .any]
theorem Dv(m:List Bk):(m.map qp).map AV.agg=bks m:=by
 rw[List.map_map];rfl
def qq(L:List Pr):List Bk:=match jG L L.length with
 |some S=>S.1
 |none=>[]
def gF(L:List Pr):Bool:=match jG L L.length with
 |some S=>decide (S.2=[])&&(decide (imE S.1=0)&&decide ((if imB S.1=true then aF (aI S.1) else [])=L))
 |none=>false
def QM(L:List Pr):aC->St->Prop:=λe s'=>if gF L=true then e= .normal/\s'.h.objs 3=some (.cells [.sl 3 (bks (qq L)) .any,.mp 2])/\s'.h.objs 1=some (.cells [.sl 3 [] (.exact 0)])/\s'.h.objs 4=some (.cells [.ptr 3 0]) else e= .panic v4/\s'.h.objs 1=some (.cells [.sl 3 [] (.exact 0)])
theorem nr{L:List Pr}(h:gF L=false){s':St}(h1:s'.h.objs 1=some (.cells [.sl 3 [] (.exact 0)])):QM L (.panic v4) s':=by
 unfold QM;rw[h,Jr af];exact ⟨rfl,h1⟩
theorem uG{L:List Pr}{j:Nat}(h:jG L j=none):∀k,jG L (j+k)=none
 |0=>h
 |k+1=>by
  have:=uG h k;rw[show j+(k+1)=(j+k)+1 by omega];simp only[jG];rw[this];rfl
theorem Dw{L:List Pr}{j:Nat}(hj:j<=L.length)(h:jG L j=none):gF L=false:=by
 have:=uG h (L.length - j);rw[show j+(L.length - j)=L.length by omega] at this;unfold gF;rw[this]
theorem Fi(m:List Bk)(v:Vs):∀i,i<m.length->((qa m i v).map λb=>b.l.length).sum=(m.map λb=>b.l.length).sum+1:=by
 unfold qa;induction m with
 |nil=>intro i hi;simp at hi
 |cons b m ih=>
  intro i hi;cases i with
  |zero=>simp[List.getD];omega
  |succ i=>
   have:=ih i (by simpa using hi);simp only[List.set_cons_succ,JM,List.sum_cons];have e:(b::m).getD (i+1) default=m.getD i default:=by simp[List.getD]
   rw[e,this];omega
theorem AD{S S':SS}{p:Pr}(h:jv S p=some S'):S'.1.length+(S'.1.map λb=>b.l.length).sum<=S.1.length+(S.1.map λb=>b.l.length).sum+1:=by
 unfold jv at h;split at h
 ·unfold jF at h;split at h
  ·split at h
   ·cases h;simp;omega
   ·cases h
  ·split at h
   ·split at h
    ·cases h;simp only;omega
    ·cases h
   ·split at h
    ·split at h
     ·split at h
      ·rename_i ht;cases h;have hi:gI (S.1.map Bk.n) (bo p.k).b<S.1.length:=by
        unfold eU at ht;simp only[Jv,JE,KL] at ht;exact ht.1
       have hl:∀v,(qa S.1 (gI (S.1.map Bk.n) (bo p.k).b) v).length=S.1.length:=λv=>by simp[qa]
       simp only;rw[Fi _ _ _ hi,hl];omega
      ·cases h
     ·cases h
    ·cases h
 ·cases h
theorem rH(L:List Pr):∀(j:Nat){S:SS},jG L j=some S->S.1.length+(S.1.map λb=>b.l.length).sum<=j
 |0,S,h=>by cases h;simp
 |j+1,S,h=>by
  simp only[jG] at h;obtain ⟨S0,h0,h1⟩:=J2.1 h;have:=rH L j h0;split at h1
  ·have:=AD h1;omega
  ·cases h1
theorem qd{m:List Bk}(h:imB m=true):(aI m).length<=m.length+17*(m.map λb=>b.l.length).sum:=by
 have key:∀b∈m,(gV b).length<=1+17*b.l.length:=λb hx=>by
  have ho:=nR h hx;have e:(gV b).length=1+((b.l.map (fm b.n)).flatten).length:=by
   unfold gV cK;rw[KL,List.flatten_cons,Ju];rfl
  rw[e];have hv:∀l:List Vs,(∀v∈l,v.okV=true)->((l.map (fm b.n)).flatten).length<=17*l.length:=by
   intro l;induction l with
   |nil=>intro _;simp
   |cons v l ih=>
    intro hv;have h1:=ih λu hu=>hv u (by simp[hu]);have h2:=sr (pT (hv v af)).2;have h3:(fm b.n v).length=eQ v.b+1:=by simp[fm]
    simp only[JM,List.flatten_cons,Ju,List.length_cons,h3];omega
  have:=hv b.l λv hv=>CC ho hv;omega
 clear h;induction m with
 |nil=>simp[aI]
 |cons b m ih=>
  have h1:=ih λu hu=>key u (by simp[hu]);have h2:=key b af;unfold aI at*
  simp only[JM,List.flatten_cons,Ju,List.length_cons,List.sum_cons];omega
theorem kY.ext{L:List Pr}{F F':Nat->Option Av.Obj}{n n':Nat}{toks:List Nat}{m:Nat}{bt:List (Bk × Nat)}{q:List Pc}{J:Nat}(I:kY L ⟨F,n,toks,m⟩ bt q J)(hF:∀a,a<n->F' a=F a)(hn:n<=n'):kY L ⟨F',n',toks,m⟩ bt q J:=by
 obtain ⟨k,f3,hrow⟩:=I.row;have h5:=I.hn;simp only at h5;refine ⟨⟨k,(hF 3 aa).trans f3,λho=>?_⟩,(hF 2 aa).trans I.mp,(hF 0 aa).trans I.o0,(hF 1 aa).trans I.o1,(hF 4 aa).trans I.o4,by simp only;omega,I.tk,I.tm,I.nd,I.len,I.vers,I.pcs⟩;obtain ⟨a,b,cs,c,d⟩:=hrow ho;simp only at b;exact ⟨a,by simp only;omega,cs,(hF k b).trans c,d⟩
theorem qe:∀bt:List (Bk × Nat),aw (dX bt) (((bt.map Prod.fst).map qp).flatten)
 |[]=>aw.nil
 |x::bt=>by
  have ih:=qe bt;have e1:dX (x::bt)= .str x.1.n:: .int .i64 x.1.st:: .sl 8 (vss x.1.l) (.own x.2)::dX bt:=rfl;have e2:(((x::bt).map Prod.fst).map qp).flatten= .str x.1.n:: .int .i64 x.1.st:: .sl 8 (vss x.1.l) .any::((bt.map Prod.fst).map qp).flatten:=rfl;rw[e1,e2];exact aw.cons (ar.refl _) (aw.cons (ar.refl _) (aw.cons ar.cap ih))
def ku:AC:=tlA c63
theorem Fj{L:List Pr}{h:H}{bt:List (Bk × Nat)}{q:List Pc}{J:Nat}(I:kY L h bt q J)(N:Nat):∃h',aJ ⟨tm [(0,.ptr 0 0),(1,.ptr 4 0)],h⟩ ⟨tm [(0,.ptr 0 0),(1,.ptr 4 0)],h'⟩/\h'.objs 3=some (.cells [.sl 3 (bks (bt.map Prod.fst)) .any,.mp 2])/\h'.objs 2=some (.map (fp q))/\h'.objs 0=some (.cells [.sl 2 (prs L) .any])/\h'.objs 1=some (.cells [.sl 3 [] (.exact 0)])/\h'.objs 4=some (.cells [.ptr 3 0]):=by
 obtain ⟨F,n,toks,m⟩:=h;obtain ⟨k,f3,hrow⟩:=I.row;have f2:=I.mp;have f0:=I.o0;have f1:=I.o1;have f4:=I.o4;simp only at f3 hrow f2 f0 f1 f4;by_cases ho:bt=[]
 ·subst ho;have hv:bV [] k= .sl 3 [] (.exact 0):=rfl;rw[hv] at f3;refine ⟨⟨upd F 3 (some (.cells [.sl 3 [] .any,.mp 2])),n,toks,m⟩,aJ.of (λ_=>ar.refl _) (nk f3 (aw.cons ar.cap (aw.cons (ar.refl _) aw.nil))) (λx hx=>hx) (Jl _) (Jl _),by simp[upd,bks],?_,?_,?_,?_⟩;all_goals
   simp only[upd];rw[Jr ah];assumption
 ·have hv:bV bt k= .tsl 3 k 0 bt.length none:=by unfold bV;rw[Jr ho]
  rw[hv] at f3;obtain ⟨a,b,cs,c,d⟩:=hrow ho;have hrl:((bt.map Prod.fst).map qp).length=bt.length:=by simp
  have hr3:∀x∈(bt.map Prod.fst).map qp,x.length=3:=λx hx=>by
   obtain ⟨b,-,rfl⟩:=JF.1 hx;rfl
  have hsub:aw cs (((bt.map Prod.fst).map qp).flatten):=λG w v h=>qe bt G w v (d G w v h);have s1:aJ ⟨tm [(0,.ptr 0 0),(1,.ptr 4 0)],⟨F,n,toks,m⟩⟩ ⟨tm [(0,.ptr 0 0),(1,.ptr 4 0)],⟨upd F k (some (.cells (((bt.map Prod.fst).map qp).flatten))),n,toks,m⟩⟩:=aJ.of (λ_=>ar.refl _) (nk c hsub) (λx hx=>hx) (Jl _) (Jl _);have k3:¬(3=k):=by omega
  have s2:=aJ.Hp (tm [(0,.ptr 0 0),(1,.ptr 4 0)]) ⟨upd F k (some (.cells (((bt.map Prod.fst).map qp).flatten))),n,toks,m⟩ k 3 (rows:=(bt.map Prod.fst).map qp) (sz:=3) (c:=none) (rest:=[.mp 2]) hr3 k3 (by simp only[upd,Jw]) (by rw[hrl];simp only[upd,k3,Js];exact f3);rw[Dv] at s2;have k0:¬(0=k):=by omega
  have k1:¬(1=k):=by omega
  have k2:¬(2=k):=by omega
  have k4:¬(4=k):=by omega
  refine ⟨_,aJ.trans s1 (aJ.trans s2 (aJ.of (bc ?_) (OLe.bX _) (λx hx=>hx) (Jl _) (Jl _))),by simp only[upd,Jw],?_,?_,?_,?_⟩
  ·simp only[aN,go_sem,reduceIte,Nat.reduceEqDiff,Nat.reduceAdd,bx,unT,JE,k0,k4];and_intros<;>first|exact trivial|exact ar.refl _|exact ar.any _|exact ar.refl _|(refine ar.int ?_;omega)
  ·simp only[upd,H.drop,k2,decide_false,Js,Jy,Nat.reduceEqDiff,reduceIte];exact f2
  ·simp only[upd,H.drop,k0,decide_false,Js,Jy,Nat.reduceEqDiff,reduceIte];exact f0
  ·simp only[upd,H.drop,k1,decide_false,Js,Jy,Nat.reduceEqDiff,reduceIte];exact f1
  ·simp only[upd,H.drop,k4,decide_false,Js,Jy,Nat.reduceEqDiff,reduceIte];exact f4
set_option maxHeartbeats 2000000 in
theorem Dx{L:List Pr}(hl:L.length<=4000){h:H}{bt:List (Bk × Nat)}{q:List Pc}(I:kY L h bt q L.length)(hR:jG L L.length=some (bt.map Prod.fst,q)):
  Wp Tryz.prog 54 ku ⟨tm [(0,.ptr 0 0),(1,.ptr 4 0)],h⟩ (QM L):=by
 obtain ⟨h',hle,f3,f2,f0,f1,f4⟩:=Fj I 54;refine Wp.le hle ?_;have hS:qq L=bt.map Prod.fst:=by unfold qq;rw[hR]
 have hO:gF L=(decide (q=[])&&(decide (imE (bt.map Prod.fst)=0)&&decide ((if imB (bt.map Prod.fst)=true then aF (aI (bt.map Prod.fst)) else [])=L))):=by unfold gF;rw[hR]
 have hcnt:=rH L _ hR;have hfew:Few (bt.map Prod.fst):=λb hb=>by
  obtain ⟨x,hx,rfl⟩:=JF.1 hb;have:=I.vers x hx;omega
 have hbd:imB (bt.map Prod.fst)=true->(aI (bt.map Prod.fst)).length<=100000:=λhb=>by
  have:=qd hb;simp only at hcnt;omega
 have cp:=iV (bt.map Prod.fst) hfew hbd;have hsl:(if imB (bt.map Prod.fst)=true then aF (aI (bt.map Prod.fst)) else []).length<=1000000:=by
  split
  ·rename_i hb;have:=EA (aI (bt.map Prod.fst));have:=hbd hb;omega
  ·simp
 have ce:=Fh (if imB (bt.map Prod.fst)=true then aF (aI (bt.map Prod.fst)) else []) L hsl aa;have hen:bD (bt.map Prod.fst)= .agg [.sl 3 (bks (bt.map Prod.fst)) .any]:=rfl;rw[hen] at cp;have hq:=Dc q;have dq:decide ((((fp q).length:Nat):Int)=0)=decide (q=[]):=by
  rw[hq,decide_eq_decide,<-Ld];omega
 clear hR I hbd hfew hcnt hle;generalize hm:bt.map Prod.fst=mm at*
 generalize (if imB mm=true then aF (aI mm) else [])=again at*
 have cut:ku= .seq (hdA ku) (.seq (hdA (tlA ku)) (tlA (tlA ku))):=rfl;rw[cut];unfold ku c63 zz;simp only[hdA,tlA];cases hqe:decide (q=[]) with
 |false=>
  rw[hqe] at dq;rw[hqe,Kp] at hO;refine Wp.di (xAd (cj4 f4 f3 f2 dq)) xAb fR (trivial) ?_;exact nr hO f1
 |true=>
 rw[hqe] at dq;rw[hqe,Ko] at hO;refine Wp.bf (xAd (cj4 f4 f3 f2 dq)) ?_;refine an.bE xA2 xAb (kp) ?_;refine an.nil ?_;refine Wp.bf (xAd (cj2 f4 f3)) ?_;refine an.bE xA2 xAb (cp) ?_;refine an.evF xAc ?_;refine an.nil ?_;cases hde:decide (imE mm=0) with
 |false=>
  rw[hde,Kp] at hO;refine Wp.r6 (xAd hde) xAb fR (trivial) ?_;exact nr hO f1
 |true=>
 rw[hde,Ko] at hO;cases hdg:decide (again=L) with
 |false=>
  rw[hdg] at hO ce;refine Wp.Hn (bU.eval (log:=[]) (dJ (by simp only[go_sem,reduceIte,Nat.reduceEqDiff,Nat.reduceAdd,bx,ax,Jw,Js,hde,f0];exact rfl)) (bU.step (x:= .bool false) (λops i o ho hit=>nV.ql (N:=54) (full:=false) (.inl (bu _)) (gu ho hit xA2 rfl xAb (ce _ _))) (bU.eval (log:=[]) (dJ (by simp only[go_sem,reduceIte,Nat.reduceEqDiff,Nat.reduceAdd,bx,ax,Jw,Js,hde];exact rfl)) (bU.here λops i o ho hit=>tx.of (bu _) (jS ho hit rfl rfl xAb (fR _ _)))))) ?_;exact nr hO f1
 |true=>
  rw[hdg] at hO ce;refine Wp.ec (xAd (cj2 hde f0)) ?_;refine an.bE xA2 xAb (ce) ?_;refine an.evF xAc ?_;refine an.bE xA2 xAb (kp) ?_;refine an.nil ?_;unfold QM;rw[hO,JC rfl,hS];exact ⟨rfl,f3,f1,f4⟩
theorem Dy{L:List Pr}{j:Nat}{S:SS}(h:jG L j=some S):jG L (j+1)=if (decide (j=0)||Op.bytesLess (L.getD (j - 1) default).k (L.getD j default).k)=true then jv S (L.getD j default) else none:=by
 simp only[jG];rw[h];rfl
set_option maxHeartbeats 4000000 in
theorem GY(L:List Pr)(hl:L.length<=4000)(hks:∀p∈L,p.k.length<=140737488355328)(hvs:∀p∈L,p.v.length<=140737488355328)(h:H)(I0:kY L h [] [] 0):
  Wp Tryz.prog 54 c63 ⟨fL [.ptr 0 0,.ptr 4 0],h⟩ (QM L):=by
 have cut:c63= .seq (hdA c63) ku:=rfl;rw[cut];have WR:=λ{h:H} {bt:List (Bk × Nat)} {q:List Pc} (I:kY L h bt q L.length) hR=>Dx hl I hR;generalize ku=R63 at*
 unfold c63 zz;simp only[hdA];have lp:=bm L;have f0:=I0.o0;refine rf0 (cj2 f0 lp) ?_;refine Wp.eX [0,1,6,7] xA7 (λj:Nat × H=>[(8,.int .i64 (j.1:Nat))]) (λj=>j.2) (λj=>j.1<=L.length/\∃bt q,jG L j.1=some (bt.map Prod.fst,q)/\kY L j.2 bt q j.1) (λj=>L.length - j.1) (0,h) ⟨JJ _,[],[],rfl,I0⟩ rfl ?_ ?_
 ·exact xSb
 rintro ⟨j,h1⟩ ⟨hj,bt,q,hrun,I⟩;simp only at hj hrun I;by_cases hc:j<L.length
 ·obtain ⟨g1,g2,g3,e1⟩:=gf hc aa;have hat:=cI L j .any hc;have hget:L.getD j default=L[j]:=by simp[List.getD,Jm hc]
  have hmem:L.getD j default∈L:=by rw[hget];exact KG hc
  have hpk:=hks _ hmem;have hpv:=hvs _ hmem;have hstep:=Dy hrun;obtain ⟨F,n,toks,m⟩:=h1;have hn:=I.hn;have g0:=I.o0;have g4:=I.o4;simp only at hn g0 g4;have n0:¬(0=n):=by omega
  have n4:¬(4=n):=by omega
  have bad:jG L (j+1)=none->gF L=false:=λhb=>Dw aa hb;have hprev:j≠0->(prs L).getD (j - 1) .any= .agg [.str (L.getD (j - 1) default).k,.str (L.getD (j - 1) default).v]:=λh0=>cI L (j - 1) .any aa;generalize L.getD j default=p at*
  generalize L.getD (j - 1) default=p0 at*
  have I2:∀o o':Av.Obj,kY L ⟨upd (upd F n (some o)) n (some o'),n+1,toks,m⟩ bt q j:=λo o'=>I.ext (λa ha=>by
   have:a≠n:=by omega
   simp only[upd,Jr this]) (LD _)
  refine Wp.bf (xAd (cj2 g1 lp)) ?_;refine an.nil ?_;refine Wp.seq ?_;refine Wp.cond_true (by simp only[go_sem,reduceIte,Nat.reduceEqDiff,Nat.reduceAdd,bx,g1,lp]) ?_;refine Wp.skip ?_;refine Wp.seq (Wp.block ?_);refine Wp.bf (xAd (cj5 g2 g3 lp hat @Jq)) ?_;refine an.nil ?_;have key:∀(b:Bool),b=(decide (j=0)||Op.bytesLess p0.k p.k)->True:=λ_ _=>trivial;by_cases h0:j=0
  ·have d0:decide ((j:Int)=0)=true:=Jt aa;have hcond:(decide (j=0)||Op.bytesLess p0.k p.k)=true:=by simp[h0]
   rw[JC hcond] at hstep;refine Wp.bM (xAd d0) ?_;refine aq.bE xA2 xAb (kp) ?_;refine aq.evR xA1 ?_;refine aq.nil ⟨by simp[aZ,aR,apart,aO],?_⟩;cases hS:jv (bt.map Prod.fst,q) p with
   |none=>
    rw[hS] at hstep;obtain ⟨h2,cB,hnm,ho1⟩:=yq aa (I2 (.cells [.str [],.str []]) (.cells [.str p.k,.str p.v])) hpk hpv hS;refine Wp.tz (by simp only[go_sem,reduceIte,Nat.reduceEqDiff,Nat.reduceAdd,bx,ax,Jw,Js,g4,n4];exact rfl) xAb hnm cB ?_;exact nr (bad hstep) ho1
   |some S=>
    rw[hS] at hstep;obtain ⟨r,h2,cB,hnm,bt2,hfst,I3⟩:=Dp aa (I2 (.cells [.str [],.str []]) (.cells [.str p.k,.str p.v])) hpk hpv hS;refine Wp.ec (xAd (cj2 g4 n4)) ?_;refine an.gP xA2 xAb hnm (cB) ?_;refine an.nil ?_;refine Wp.ec (xAd e1) ?_;refine an.nil ?_;refine ⟨(j+1,h2),⟨by simp only;omega,bt2,S.2,by simp only;rw[hstep,hfst],I3⟩,by simp only;omega,?_⟩;refine aJ.of (bc ?_) (OLe.bX _) (λx hx=>hx) (Jl _) (Jl _);exact dU e1
  ·have d0:decide ((j:Int)=0)=false:=Jn aa;have ej:IntKind.i64.wrap ((j:Int) - 1)=((j - 1:Nat):Int):=by rw[IntWalk.i64_in _ aa];omega
   have p1:(0:Int)<=((j - 1:Nat):Int):=by omega
   have p2:((j - 1:Nat):Int)<(L.length:Int):=by omega
   have hat2:=hprev h0;have hz:decide (j=0)=false:=Jn h0;rw[hz,LJ] at hstep;cases hb:Op.bytesLess p0.k p.k with
   |false=>
    rw[hb,Jr af] at hstep;refine Wp.di (xAd (jD d0 g0 n0 ej p1 p2 lp hat2 hb @Jq)) xAb fR (⟨by simp[aR,apart,aO],rfl⟩) ?_;exact nr (bad hstep) (I2 (.cells [.str [],.str []]) (.cells [.str p.k,.str p.v])).o1
   |true=>
    rw[hb,JC rfl] at hstep;refine Wp.bM (xAd (jD d0 g0 n0 ej p1 p2 lp hat2 hb @Jq)) ?_;refine aq.bE xA2 xAb (kp) ?_;refine aq.evR xA1 ?_;refine aq.nil ⟨by simp[aZ,aR,apart,aO],?_⟩;cases hS:jv (bt.map Prod.fst,q) p with
    |none=>
     rw[hS] at hstep;obtain ⟨h2,cB,hnm,ho1⟩:=yq aa (I2 (.cells [.str [],.str []]) (.cells [.str p.k,.str p.v])) hpk hpv hS;refine Wp.tz (by simp only[go_sem,reduceIte,Nat.reduceEqDiff,Nat.reduceAdd,bx,ax,Jw,Js,g4,n4];exact rfl) xAb hnm cB ?_;exact nr (bad hstep) ho1
    |some S=>
     rw[hS] at hstep;obtain ⟨r,h2,cB,hnm,bt2,hfst,I3⟩:=Dp aa (I2 (.cells [.str [],.str []]) (.cells [.str p.k,.str p.v])) hpk hpv hS;refine Wp.ec (xAd (cj2 g4 n4)) ?_;refine an.gP xA2 xAb hnm (cB) ?_;refine an.nil ?_;refine Wp.ec (xAd e1) ?_;refine an.nil ?_;refine ⟨(j+1,h2),⟨by simp only;omega,bt2,S.2,by simp only;rw[hstep,hfst],I3⟩,by simp only;omega,?_⟩;refine aJ.of (bc ?_) (OLe.bX _) (λx hx=>hx) (Jl _) (Jl _);exact dU e1
 ·have hj2:j=L.length:=by omega
  subst hj2;have ig:=kf L.length;refine Wp.bf (xAd (cj2 ig lp)) ?_;refine an.nil ?_;refine Wp.seq ?_;refine Wp.cond_false (by simp only[go_sem,reduceIte,Nat.reduceEqDiff,Nat.reduceAdd,bx,ig]) ?_;refine Wp.exit ?_;show Wp Tryz.prog 54 R63 _ _;refine Wp.le (aJ.of (bc ?_) (OLe.bX _) (λx hx=>hx) (Jl _) (Jl _)) (WR I hrun);exact xSb
def jy(L:List Pr):AV:=if gF L=true then .tup [bD (qq L),.int .i64 0] else uF
theorem sF{α:Type}(f:Nat->α)(i:Nat)(a b:α):upd (upd f i a) i b=upd f i b:=by
 funext j;simp only[upd];split<;>rfl
def h63(L:List Pr):H:=⟨upd (upd (upd (upd (upd av 0 (some (.cells [.sl 2 (prs L) .any]))) 1 (some (.cells [.sl 3 [] (.exact 0)]))) 2 (some (.map []))) 3 (some (.cells [.sl 3 [] (.exact 0),.mp 2]))) 4 (some (.cells [.ptr 3 0])),5,[],0⟩
theorem IQ(L:List Pr):kY L (h63 L) [] [] 0:=by
 unfold h63;exact ⟨⟨5,by simp[upd,bV],λh=>absurd rfl h⟩,by simp[upd,fp],by simp[upd],by simp[upd],by simp[upd],by simp,by simp,by simp,by simp,by simp,by simp,by simp⟩
theorem IS(L:List Pr)(hl:L.length<=4000)(hks:∀p∈L,p.k.length<=140737488355328)(hvs:∀p∈L,p.v.length<=140737488355328):
  ∃h',aS Tryz.prog 54 [.clo (.func 63) [] [.ptr 0 0,.ptr 4 0]] (h63 L) (.int .i64 (if gF L=true then 0 else 4)) h'/\((h63 L).n<=h'.n/\(h63 L).m<=h'.m)/\h'.objs 1=some (.cells [.sl 3 [] (.exact 0)])/\
   (gF L=true->h'.objs 3=some (.cells [.sl 3 (bks (qq L)) .any,.mp 2])/\h'.objs 4=some (.cells [.ptr 3 0])):=by
 have W:=GY L hl hks hvs (h63 L) (IQ L);unfold QM at W;cases ho:gF L with
 |true=>
  rw[ho] at W;simp only[Jw] at W;obtain ⟨r,h',a,b,c,d,e⟩:=aU.xA (Q:=λ_ h'=>h'.objs 3=some (.cells [.sl 3 (bks (qq L)) .any,.mp 2])/\h'.objs 1=some (.cells [.sl 3 [] (.exact 0)])/\h'.objs 4=some (.cells [.ptr 3 0])) f63 af (W.mono λe s' hq=>⟨qb hq.1,_,rfl,hq.2⟩);exact ⟨h',GQ rfl rfl ah a,b,d,λ_=>⟨c,e⟩⟩
 |false=>
  rw[ho] at W;simp only[Jy,Js] at W;obtain ⟨v,h',a,b,rfl,c⟩:=aU.FJ (Q:=λv h'=>v=v4/\h'.objs 1=some (.cells [.sl 3 [] (.exact 0)])) f63 af (W.mono λe s' hq=>⟨_,hq.1,rfl,hq.2⟩);exact ⟨h',Fc rfl rfl ah a,b,c,λh=>by cases h⟩
theorem Fk(L:List Pr)(hl:L.length<=4000)(hks:∀p∈L,p.k.length<=140737488355328)(hvs:∀p∈L,p.v.length<=140737488355328):
  aH Tryz.prog 20 [.sl 2 (prs L) .any] (jy L):=by
 have hpure:aP (jy L)=true:=by
  unfold jy;split
  ·simp[aP,aD,bw,bD,Av.bA (λb=>jq b),bks]
  ·rfl
 refine f20.D7 af (by simp[aD,aP,bw,jW]) hpure ?_;unfold c20 zz;obtain ⟨h',cB,hnm,f1,fok⟩:=IS L hl hks hvs;refine Wp.bf xAc ?_;refine an.nil ?_;refine Wp.bf xAc ?_;refine an.nil ?_;refine Wp.le (s':=⟨tm [(1,.ptr 0 0),(2,.ptr 1 0),(4,.ptr 4 0)],h63 L⟩) (aJ.of (bc ?_) (by rw[sF];exact OLe.bX _) (λx hx=>hx) (Jl _) (Jl _)) ?_
 ·exact xSb
 refine Wp.bf xAc ?_;refine an.gP xA2 xAb hnm (cB) ?_;cases ho:gF L with
 |false=>
  have hI:jy L=uF:=by unfold jy;rw[Jr (by rw[ho];simp)]
  rw[hI];simp only[Jy,Js];refine an.evF xAc ?_;refine an.nil ?_;refine rf0 f1 ?_;refine Wp.ret ⟨trivial,_,rfl,.inl ?_⟩;exact ar.tup (aw.cons (ar.agg (aw.cons ar.cap aw.nil)) (aw.cons (ar.refl _) aw.nil))
 |true=>
  have hI:jy L= .tup [bD (qq L),.int .i64 0]:=by unfold jy;rw[JC ho]
  obtain ⟨f3,f4⟩:=fok ho;rw[hI];simp only[Jw];refine an.evF xAc ?_;refine an.nil ?_;refine rf0 (cj3 f1 f3 f4) ?_;refine Wp.ret ⟨trivial,_,rfl,.inl ?_⟩;exact ar.refl _
def nn(B:List UInt8)(a w:Nat):Option (Nat × Nat):=if a+w<=B.length then some (val ((B.drop a).take w),a+w) else none
structure Ext(h h':H):Prop where
 o:∀j,j<h.n->j≠3->h'.objs j=h.objs j
 n:h.n<=h'.n
 m:h.m<=h'.m
 t:∀t∈h.toks,t∈h'.toks
 ok:HOk h'
structure Jj(hr:H)(L:Nat)(lp:Av.Obj)(nm:List UInt8)(st:Int)(l:List Vs)(h:H):Prop where
 e:Ext hr h
 x:∃tk,h.objs hr.n=some (.cells [.str nm,.int .i64 st,.sl 8 (vss l) (.own tk)])/\tk∈h.toks/\hr.m<=tk
 lp:h.objs L=some lp
 n:L<h.n
abbrev o1A:Av.Obj:= .cells [.sl 3 [] (.exact 0)]
structure Jk(B:List UInt8)(L:Nat)(lp:Av.Obj)(bs:List Bk)(h:H):Prop where
 o0:h.objs 0=some (.cells [.sl 1 (az B) .any])
 o1:h.objs 1=some o1A
 o2:∃tk,h.objs 2=some (.cells [.sl 3 (bks bs) (.own tk)])/\tk∈h.toks
 o4:h.objs 4=some (.cells [.ptr 3 0])
 lp:h.objs L=some lp
 n:L<h.n
def qt:List Bk:=[⟨[97,98,99],0,[]⟩]
def nt:List UInt8:=[2,98,0,1,2,97,98,99,0,1]
theorem Fm:imB qt=true:=by decide+kernel
theorem yt:imB []=true:=by decide+kernel
theorem Fo:aF (aI qt)=[⟨nt,[48]⟩]:=by kernel_rfl
theorem Fp:ud []=[65,82,67,72,0,0,72,255,240,159]:=by kernel_rfl
theorem IT:aH Tryz.prog 35 [] (bD qt):=by
 refine f35.aG af (by simp[aD]) (by simp[cJ]) ?_;unfold c35 zz;refine rn0 KQ ?_;refine aK ?_;exact ar.agg (aw.cons (ar.sl ⟨ar.agg (aw.cons (ar.refl _) (aw.cons (ar.refl _) (aw.cons ar.cap aw.nil))),trivial⟩) aw.nil)
theorem Fq:Few qt:=λb hb=>by simp[qt] at hb;subst hb;simp
theorem rI:aH Tryz.prog 13 [bD qt] (.tup [.sl 2 (prs [⟨nt,[48]⟩]) .any,.int .i64 0]):=by
 have h:=iV qt Fq (λ_=>by decide+kernel);unfold imE at h;rw[Fm,JC rfl,JC rfl,Fo] at h;exact h
theorem AE:aH Tryz.prog 13 [.agg [.sl 3 [] .any]] (.tup [.sl 2 [] .any,.int .i64 0]):=by
 have h:=iV [] (λb hb=>by cases hb) (λ_=>by decide+kernel);unfold imE at h;rw[yt,JC rfl,JC rfl] at h;exact h
theorem AF:aH Tryz.prog 11 [.agg [.sl 3 [] .any]] (.tup [.sl 1 (az [65,82,67,72,0,0,72,255,240,159]) .any,.int .i64 0]):=by
 have h:=Eu [] (λb hb=>by cases hb) af;unfold imE at h;rw[yt,JC rfl,Fp] at h;exact h
theorem wY:aH Tryz.prog 23 [.agg [.sl 3 [] .any],bD qt] (.tup [.sl 3 (chs [⟨nt,[48],false⟩]) .any,.int .i64 0]):=by
 refine f23.aG af (by simp[aD,aP,bw,cJ]) rfl ?_;unfold c23 zz;have c1:=rI;have c2:=tM [] [⟨nt,[48]⟩] af af;have e:dB [] [⟨nt,[48]⟩]=[⟨nt,[48],false⟩]:=by kernel_rfl
 rw[e] at c2;have hn:prs []=[]:=rfl;rw[hn] at c2;unfold bD at*
 generalize bks qt=b at*
 generalize prs [⟨nt,[48]⟩]=x at*
 generalize chs [⟨nt,[48],false⟩]=y at*
 refine rn3 KQ AE c1 c2 ?_;refine aK ?_;exact ar.refl _
set_option maxHeartbeats 4000000 in
theorem cX:aH Tryz.prog 10 [] (.bool true):=by
 refine f10.aG af (by simp[aD]) rfl ?_;unfold c10 zz;try dsimp only
 have hsub:ar (.agg [.sl 3 [] (.exact 0)]) (.agg [.sl 3 [] .any]):=ar.agg (aw.cons ar.cap aw.nil);have c3:=IT;have c4:=rI;have c5:=wY;have hp:prs [⟨nt,[48]⟩]=[.agg [.str nt,.str [48]]]:=rfl;have hc:chs [⟨nt,[48],false⟩]=[.agg [.str nt,.str [48],.bool false]]:=rfl;rw[hp] at c4;rw[hc] at c5;generalize bD qt=b at*
 generalize nt=k at*
 have c2:=AF;have lO:(az [65,82,67,72,0,0,72,255,240,159]).length=10:=rfl;have tO:(az [65,82,67,72,0,0,72,255,240,159]).take 6=az [65,82,67,72,0,0]:=rfl;generalize az [65,82,67,72,0,0,72,255,240,159]=O at*
 have d10:decide (((10:Nat):Int)=10)=true:=rfl;have d1:decide (((1:Nat):Int)=1)=true:=rfl;have le6:(6:Int)<=((10:Nat):Int):=by decide
 have n6:(6:Int).toNat=6:=rfl;refine rn4 KQ c2 c3 c4 c5 ?_;refine Wp.reg ?_;refine aq.part 5 (xAe (cj2 lO d10)) ?_;simp only[Ka,Kz,K5];refine aq.part 1 (by simp only[go_sem,reduceIte,Nat.reduceEqDiff,Nat.reduceAdd,bx,lO,tO,le6,n6,Int.reduceLE,JI,Kz];exact rfl) ?_;simp only[Ka,Kz,K5];refine aq.part 1 (xAe (cj2 @cR @JK.{0,0})) ?_;simp only[Ka,Kz,K5];refine aq.part 2 (xAe (cj2 @KH.{0} @JO)) ?_;simp only[Ka,Kz,K5];refine aq.part 6 (by simp only[go_sem,reduceIte,Nat.reduceEqDiff,Nat.reduceAdd,bx,d10,d1,KH,JO,List.length_cons,List.length_nil,JG,J6,Int.toNat_zero,Int.reduceLT,Int.reduceLE,JI];exact rfl) ?_;simp only[Ka,Kz,K5];refine aq.part 6 (by simp only[go_sem,reduceIte,Nat.reduceEqDiff,Nat.reduceAdd,bx,d10,d1,KH,JO,List.length_cons,List.length_nil,JG,J6,Int.toNat_zero,Int.reduceLT,Int.reduceLE,JI];exact rfl) ?_;simp only[Ka,Kz,K5];refine aq.part 6 (by simp only[go_sem,reduceIte,Nat.reduceEqDiff,Nat.reduceAdd,bx,d10,d1,KH,JO,List.length_cons,List.length_nil,JG,J6,Int.toNat_zero,Int.reduceLT,Int.reduceLE,JI];exact rfl) ?_;simp only[Ka,Kz,K5];refine aq.part 6 (by simp only[go_sem,reduceIte,Nat.reduceEqDiff,Nat.reduceAdd,bx,d10,d1,KH,JO,List.length_cons,List.length_nil,JG,J6,Int.toNat_zero,Int.reduceLT,Int.reduceLE,JI];exact rfl) ?_;simp only[Ka,Kz,K5];refine aq.part 4 (by simp only[go_sem,reduceIte,Nat.reduceEqDiff,Nat.reduceAdd,bx,d10,d1,KH,JO,List.length_cons,List.length_nil,JG,J6,Int.toNat_zero,Int.reduceLT,Int.reduceLE,JI];exact rfl) ?_;simp only[Ka,Kz,K5];refine aq.part 4 (by simp only[go_sem,reduceIte,Nat.reduceEqDiff,Nat.reduceAdd,bx,d10,d1,KH,JO,List.length_cons,List.length_nil,JG,J6,Int.toNat_zero,Int.reduceLT,Int.reduceLE,JI];exact rfl) ?_;simp only[Ka,Kz,K5];refine aq.part 4 (by simp only[go_sem,reduceIte,Nat.reduceEqDiff,Nat.reduceAdd,bx,d10,d1,KH,JO,List.length_cons,List.length_nil,JG,J6,Int.toNat_zero,Int.reduceLT,Int.reduceLE,JI];exact rfl) ?_;simp only[Ka,Kz,K5];refine aq.part 5 (xAe (cj2 @KH.{0} @JO)) ?_;simp only[Ka,Kz,K5];refine aq.nil ⟨by simp[aZ,aR,apart,aO],?_⟩;exact Wp.ret ⟨trivial,_,rfl,ar.refl _⟩
def gJ(m:List Bk):Nat:=(m.map λb=>b.l.length).sum
theorem Dz(m:List Bk)(j:Nat)(h:j<m.length):gJ (m.take (j+1))=gJ (m.take j)+(m.getD j default).l.length:=by
 unfold gJ;rw[pU _ m j h];simp
theorem GZ(m:List Bk)(j:Nat):gJ (m.take j)<=gJ m:=by
 have h:gJ m=gJ (m.take j)+gJ (m.drop j):=by unfold gJ;rw[<-List.sum_append,<-KC,Kj]
 omega
def sG(m:List Bk):Bool:=decide (m.length+gJ m<=60)
theorem yu(m:List Bk)(hl:m.length<=35184372088832)(hv:∀b∈m,b.l.length<=35184372088832):aH Tryz.prog 9 [bD m] (.bool (sG m)):=by
 refine f9.aG af (by simp[aD,cJ]) rfl ?_;unfold c9 bD zz;have len:=gC m;refine rn0 @len ?_;refine Wp.gQ [1] xA6 (λj:Nat=>[(3,.int .i64 ((m.length+gJ (m.take j):Nat):Int)),(4,.int .i64 (j:Nat))]) (λj=>j<=m.length/\m.length+gJ (m.take j)<=60+35184372088832/\(j≠0->m.length<=60)) (λj=>m.length - j) 0 ⟨JJ _,by simp[gJ];omega,λh=>absurd rfl h⟩ ?_ ?_
 ·exact dU (cj5 @gJ.eq_1 @KX.{0} @J4.{0,0} @List.sum_nil.{0} @Nat.add_zero)
 rintro j ⟨hj,hs,hn⟩;by_cases hc:j<m.length
 ·have g1:decide ((j:Int)<(m.length:Int))=true:=Jt aa;by_cases h60:m.length+gJ (m.take j)<=60
  ·have g2:(0:Int)<=(j:Int):=by omega
   have g3:(j:Int)<(m.length:Int):=by omega
   have d1:decide (((m.length+gJ (m.take j):Nat):Int)<=60)=true:=Jt aa;have hat:=iP m j .any hc;have hsn:=Dz m j hc;have hbl:(m.getD j default).l.length<=35184372088832:=hv _ (by rw[Av.gS hc];exact KG hc);generalize m.getD j default=b at*
   have vl:=fE b.l;have w1:IntKind.i64.wrap (((m.length+gJ (m.take j):Nat):Int)+((b.l.length:Nat):Int))=((m.length+gJ (m.take j)+b.l.length:Nat):Int):=by rw[IntWalk.i64_in _ aa];omega
   have w2:IntKind.i64.wrap ((j:Int)+1)=((j+1:Nat):Int):=by rw[IntWalk.i64_in _ aa];omega
   unfold iO at hat;refine rn0 (jD g1 g2 g3 @len hat d1 vl w1 w2 @Jq) ?_;refine ⟨j+1,⟨hc,aa,λ_=>by omega⟩,K9 hc (J8 _),?_⟩;rw[hsn,<-KI];exact xSu
  ·have d1:decide (((m.length+gJ (m.take j):Nat):Int)<=60)=false:=Jn aa;have hfw:sG m=false:=Jn (by have:=GZ m j;omega);refine rn0 (cj3 g1 @len d1) ?_;refine aK ?_;rw[hfw];exact ar.refl _
 ·have hj2:j=m.length:=by omega
  subst hj2;have g1:=kf m.length;rw[J1] at hs |-;have hfw:decide (((m.length+gJ m:Nat):Int)<=60)=sG m:=by unfold sG;rw[decide_eq_decide];omega
  refine rn0 (cj3 g1 @len hfw) ?_;refine aK ?_;exact ar.refl _
theorem G4{l:List Nat}{x:Nat}(h:x∈l):x<=l.sum:=by
 induction l with
 |nil=>cases h
 |cons a l ih=>
  simp only[List.sum_cons];rcases JB.1 h with rfl|h
  ·omega
  ·have:=ih h;omega
theorem AG{m:List Bk}(h:imB m=true):jy (aF (aI m))= .tup [bD m,.int .i64 0]:=by
 have r:=Aw h;unfold jy;have h1:qq (aF (aI m))=m:=by unfold qq;rw[r]
 have h2:gF (aF (aI m))=true:=by
  unfold gF;rw[r];simp[imE,h]
 rw[h1,h2,JC rfl]
def lpA:AC->AC
 | .loop c=>c
 |c=>c
def blA:AC->AC
 | .block _ c=>c
 |c=>c
theorem laid:laidOutB Tryz.prog=true:=by kernel_rfl
theorem IU:mapsRowed Tryz.prog=true:=by kernel_rfl
theorem full:∀t e,t<Tryz.prog.types.size->Tryz.prog.underlying t=some (.slice e)->0<Tryz.prog.cellsOf e:=slices_full_of Tryz.prog (by kernel_rfl)
theorem own:ownKnob Tryz.prog.godebug=none:=by kernel_rfl
theorem Jh{H:Type}:po (H:=H) Rows.uptoBulk Rows.uptoBulkAll:=
 ⟨λl=>by simp[Rows.uptoBulk],λk n=>by simp[Rows.uptoBulk],λb=>by simp[Rows.uptoBulk],by simp[Rows.uptoBulk],λa b=>by simp[Rows.uptoBulk],λa=>by simp[Rows.uptoBulk],by simp[Rows.uptoBulkAll],λd l=>by simp[Rows.uptoBulkAll]⟩
theorem wZ{α:Type}{t:TypeId}{k:Nat}{enc:α->AV}{Q:α->Prop}(h1:∀cs,Fits Tryz.prog k t cs->∃x,ey Tryz.prog t cs=enc x/\Q x):∀{ys:List AV},(∀y∈ys,∃cs,Fits Tryz.prog k t cs/\y=ey Tryz.prog t cs)->∃l:List α,ys=l.map enc/\∀x∈l,Q x
 |[],_=>⟨[],rfl,by simp⟩
 |y::ys,h=>by
  obtain ⟨l,rfl,hl⟩:=wZ h1 (ys:=ys) (λz hz=>h z (by simp[hz]));obtain ⟨cs,g1,g2⟩:=h y af;obtain ⟨x,e,q⟩:=h1 cs g1;refine ⟨x::l,by simp[g2,e],λz hz=>?_⟩;rcases JB.1 hz with rfl|hz
  ·exact q
  ·exact hl z hz
theorem yv{n b:Nat}(hb:4<=b)(h:n*b<=reachBytes):n<=35184372088832:=by
 have:n*4<=n*b:=Nat.mul_le_mul_left n hb;have e:reachBytes=140737488351232:=rfl;omega
def IV(v:Vs):Prop:=v.o.length<=reachBytes/\v.b.length<=reachBytes/\v.id<9223372036854775808
theorem Fs{k:Nat}{cs:List AV}(h:Fits Tryz.prog (k+4) 88 cs):∃v:Vs,ey Tryz.prog 88 cs=dG v/\IV v:=by
 have hw:∀cs,ey Tryz.prog 88 cs= .agg cs:=λcs=>by
  unfold ey;rw[JC (by kernel_rfl)]
 rw[hw];unfold Fits at h;rw[Tryz.underlying88] at h;obtain ⟨xss,rfl,h⟩:=h;cases h with|cons h0 h=>cases h with|cons h1 h=>cases h with|cons h2 h=>cases h with|cons h3 h=>
 cases h;unfold Fits at h0 h1 h2 h3;simp only at h0 h1 h2 h3;rw[Tryz.underlying9] at h0 h3;rw[Tryz.underlying3] at h1;rw[Tryz.underlying86] at h2;obtain ⟨o,rfl,ho⟩:=h0;obtain ⟨id,rfl,hid⟩:=h1;obtain ⟨b,rfl,hb⟩:=h3;obtain ⟨yss,rfl,h2⟩:=h2;cases h2 with|cons g0 h2=>cases h2 with|cons g1 h2=>cases h2 with|cons g2 h2=>cases h2 with|cons g3 h2=>
 cases h2;unfold Fits at g0 g1 g2 g3;simp only at g0 g1 g2 g3;rw[Tryz.underlying3] at g0;rw[Tryz.underlying84] at g1;rw[Tryz.underlying4] at g2 g3;obtain ⟨sz,rfl,-⟩:=g0;obtain ⟨g,rfl⟩:=g2;obtain ⟨u,rfl⟩:=g3;obtain ⟨zss,rfl,g1⟩:=g1;cases g1 with|cons e0 g1=>cases g1 with|cons e1 g1=>
 cases g1;unfold Fits at e0 e1;simp only at e0 e1;rw[Tryz.underlying3] at e0 e1;obtain ⟨re,rfl,-⟩:=e0;obtain ⟨im,rfl,-⟩:=e1;refine ⟨⟨o,id,sz,re,im,g,u,b⟩,rfl,ho,hb,?_⟩;simp only;have:=hid;simp[Lit.wf,IntKind.max,IntKind.min,IntKind.signed,IntKind.bits] at this;omega
structure AQ(b:Bk):Prop where
 n:b.n.length<=reachBytes
 l:b.l.length<=35184372088832
 v:∀v∈b.l,IV v
theorem Ft{k:Nat}{cs:List AV}(h:Fits Tryz.prog (k+6) 77 cs):∃b:Bk,ey Tryz.prog 77 cs=iO b/\AQ b:=by
 have hw:∀cs,ey Tryz.prog 77 cs= .agg cs:=λcs=>by
  unfold ey;rw[JC (by kernel_rfl)]
 rw[hw];unfold Fits at h;rw[Tryz.underlying77] at h;obtain ⟨xss,rfl,h⟩:=h;cases h with|cons h0 h=>cases h with|cons h1 h=>cases h with|cons h2 h=>
 cases h;unfold Fits at h0 h1 h2;simp only at h0 h1 h2;rw[Tryz.underlying9] at h0;rw[Tryz.underlying74] at h1;rw[Tryz.underlying75] at h2;obtain ⟨n,rfl,hn⟩:=h0;obtain ⟨st,rfl,-⟩:=h1;obtain ⟨xs,rfl,hlx,hx⟩:=h2;obtain ⟨l,rfl,hv⟩:=wZ (λcs h=>Fs h) hx;have c1:Tryz.prog.cellsOf 88=8:=by kernel_rfl
 have c2:4<=Tryz.prog.bytesOf 88:=by decide+kernel
 rw[KL] at hlx;refine ⟨⟨n,st,l⟩,?_,hn,yv c2 hlx,hv⟩;simp[iO,vss,c1]
theorem yw{a:AV}(h:om Tryz.prog 9 24 a):∃m:List Bk,a=bD m/\m.length<=35184372088832/\∀b∈m,AQ b:=by
 obtain ⟨cs,h,rfl⟩:=h;unfold Fits at h;rw[Tryz.underlying24] at h;obtain ⟨xss,rfl,h⟩:=h;cases h with|cons h0 h=>
 cases h;unfold Fits at h0;simp only at h0;rw[Tryz.underlying22] at h0;obtain ⟨xs,rfl,hlx,hx⟩:=h0;obtain ⟨l,rfl,hv⟩:=wZ (λcs h=>Ft h) hx;have c1:Tryz.prog.cellsOf 77=3:=by kernel_rfl
 have c2:4<=Tryz.prog.bytesOf 77:=by decide+kernel
 rw[KL] at hlx;refine ⟨l,?_,yv c2 hlx,hv⟩;unfold ey;rw[JC (by kernel_rfl)];simp[bD,bks,c1]
end Go.Proofs.YtjnoobmaedgooaaGreat.Arch
end
section
set_option maxRecDepth 100000
namespace Go.Proofs.YtjnoobmaedgooaaGreat.Arch
open Go Go.Proofs Go.Lib Go.RowKit Go.Shelf
theorem sH{P:Program}(w:World)(dT sT ty elem:TypeId)(k b o dLen dCap:Nat)(a:Addr)(sLen sCap:Nat)(cs:List Value)
  (hu:P.underlying dT=some (.slice elem)) (hs:(P.info? elem).map (·.size)=some k) (hn:cs.length=Nat.min sLen dLen*k)
  (hsrc:∀j v,cs[j]? =some v->w.cell? (a.add j)=some v) (hc:∀j,j<cs.length->(w.cell? ⟨b,o+j,none⟩).isSome=true) (hf:∀j,j<cs.length->w.frozen? ⟨b,o+j,none⟩=false) (h1:∀v∈cs,v.oneCell'=true):
  (Builtin.copy_ #[dT,sT] ty #[.slice (some ⟨b,o,none⟩) dLen dCap,.slice (some a) sLen sCap]).run P w= .ok (goInt (Nat.min sLen dLen)) (w.setCells b o cs):=by
 have hl:=run_loadCells_list (P:=P) w a cs hsrc;have hst:=run_storeCells_cells (P:=P) b o cs 0 w (by simpa using hc) (by simpa using hf) h1;cases hq:P.info? elem with
 |none=>simp[hq] at hs
 |some i=>
  have hi:i.size=k:=by simpa [hq] using hs
  simp[Builtin.copy_,run_underlying hu,Builtin.lenOf,Builtin.firstCells,sizeOf,typeInfo,hq,hi,<-hn,hl,hst]
theorem AH{P:Program}(w:World)(t e ty:TypeId)(z:Value)(zs:List Value)(ht:P.underlying t=some (.slice e))(hv:∀w,(zeroValue e).run P w= .ok z w)(hz:(Builtin.zeroCells z.cells 1).toList=zs)(h1:∀v∈zs,v.oneCell'=true)(b o c:Nat)
  (hc:∀j,j<zs.length->(w.cell? ⟨b,o+j,none⟩).isSome=true) (hf:∀j,j<zs.length->w.frozen? ⟨b,o+j,none⟩=false):
  (Builtin.clear_ #[t] ty #[.slice (some ⟨b,o,none⟩) 1 c]).run P w= .ok (.tuple #[]) (w.setCells b o zs):=by
 have hst:=run_storeCells_cells (P:=P) b o zs 0 w (by simpa using hc) (by simpa using hf) h1;simp only[Nat.add_zero] at hst;simp[Builtin.clear_,run_underlying ht,hv,hz,hst]
abbrev zP:Value:= .agg #[.string ⟨#[]⟩,.string ⟨#[]⟩]
theorem yy:∃i,Tryz.prog.info? 50=some i/\i.zero=some zP/\i.size=2/\i.bytes=32:=⟨_,rfl,rfl,rfl,rfl⟩
theorem yz:(Tryz.prog.info? 50).map (·.size)=some 2:=rfl
set_option maxHeartbeats 4000000 in
theorem DA(b o n c vb voff vc:Nat)(vs:List Value)(w:World)(hroom:n+1<=c)(hc63:c<=9223372036854775807)
  (hvl:vs.length=2) (hsp:∀j,j<2->(w.cell? ⟨b,o+n*2+j,none⟩).isSome=true) (hfz:∀j,j<2->w.frozen? ⟨b,o+n*2+j,none⟩=false)
  (hvs:∀j v,vs[j]? =some v->w.cell? ⟨vb,voff+j,none⟩=some v) (h1v:∀v∈vs,v.oneCell'=true):
  Calls Tryz.prog 72 #[.slice (some ⟨b,o,none⟩) n c,.int .i64 n,.slice (some ⟨vb,voff,none⟩) 1 vc] w λe w'=>
   e= .returned (.slice (some ⟨b,o,none⟩) (n+1) c)/\w'=w.setCells b (o+n*2) vs:=by
 obtain ⟨i0,hi0,hz0,hzs,hzb⟩:=yy;have hsrc:Src Tryz.prog i0.size 33 (.slice (some ⟨vb,voff,none⟩) 1 vc) 1 vs w:=by
  rw[hzs];exact Src.ofSlice w Tryz.underlying33 ⟨vb,voff,none⟩ 1 vc vs aa (λj u hj=>by rw[Addr.add_lit];exact hvs j u hj) h1v
 go_enter Tryz.func72,Tryz.ntmps72
 go_wp2_with (at_builtin;refine wpList_append_room_src _ rfl _ _ 33 33 rfl 50 i0 Tryz.underlying33 hi0 b o n c rfl _ rfl 1 vs hsrc hroom (by rw[hvl,hzs];exact hsp) (by rw[hvl,hzs];exact hfz) ?_)
 go_ret
 first|exact ⟨rfl,rfl⟩|exact ⟨rfl,by rw[hzs]⟩
set_option maxHeartbeats 4000000 in
theorem DB(base:Option Addr)(n c vb voff vc:Nat)(cs vs:List Value)(w:World)(hnc:n<=c)(hroom:c<n+1)(hbig:(n+1)*32<=140737488355328)
  (hcl:cs.length=n*2) (hvl:vs.length=2) (hnil:base=none->n=0)
  (hcs:∀a,base=some a->∀j v,cs[j]? =some v->w.cell? (a.add j)=some v)
  (hvs:∀j v,vs[j]? =some v->w.cell? ⟨vb,voff+j,none⟩=some v) (h1v:∀v∈vs,v.oneCell'=true):
  Calls Tryz.prog 72 #[.slice base n c,.int .i64 n,.slice (some ⟨vb,voff,none⟩) 1 vc] w λe w'=>
   e= .returned (.slice (some ⟨w.heap.size,0,none⟩) (n+1) (grownCap w (n+1) c 50))/\
   w'=w.drew.alloc (.cells ((cs++vs).toArray++Builtin.zeroCells zP.cells (grownCap w (n+1) c 50 - (n+1))) 50):=by
 obtain ⟨i0,hi0,hz0,hzs,hzb⟩:=yy;have hsrc:Src Tryz.prog i0.size 33 (.slice (some ⟨vb,voff,none⟩) 1 vc) 1 vs w:=by
  rw[hzs];exact Src.ofSlice w Tryz.underlying33 ⟨vb,voff,none⟩ 1 vc vs aa (λj u hj=>by rw[Addr.add_lit];exact hvs j u hj) h1v
 have hold:(Builtin.firstCells i0.size n (.slice base n c)).run Tryz.prog w.drew= .ok cs.toArray w.drew:=by
  rw[hzs];cases base with
  |none=>
   have h0:=hnil rfl;subst h0;rw[Ld.1 hcl];exact run_firstCells_none w.drew 2 0 0 c
  |some a=>exact run_firstCells_some w.drew 2 n a n c cs hcl (λj v hj=>hcs a rfl j v hj)
 have hrun:∀ty,(Builtin.append_ #[33,33] ty #[.slice base n c,.slice (some ⟨vb,voff,none⟩) 1 vc]).run Tryz.prog w=_:=λty=>
  run_append_grow_src w 33 33 ty 50 i0 _ Tryz.underlying33 hi0 hz0 base n c cs hold _ 1 vs hsrc hroom aa (by rw[hzb];exact growslice_fits hroom hbig)
 go_enter Tryz.func72,Tryz.ntmps72
 cases base with
 |none=>
  have h0:=hnil rfl;subst h0
  go_wp2_with (at_builtin;refine Lib.wpList_append_run _ rfl _ _ _ _ rfl _ _ rfl rfl _ _ (hrun _) ?_)
  go_ret
  exact ⟨rfl,rfl⟩
 |some a=>
  obtain ⟨ab,ao,asp⟩:=a
  go_wp2_with (at_builtin;refine Lib.wpList_append_run _ rfl _ _ _ _ rfl _ _ rfl rfl _ _ (hrun _) ?_)
  all_goals (go_ret;exact ⟨rfl,rfl⟩)
set_option maxHeartbeats 4000000 in
theorem AI(b o n c i vb voff vc:Nat)(cs vs:List Value)(w:World)(hi:i<n)(hroom:n+1<=c)(hc63:c<=9223372036854775807)(hvb:vb≠b)
  (hcl:cs.length=n*2) (hvl:vs.length=2)
  (hcs:∀j v,cs[j]? =some v->w.cell? ⟨b,o+j,none⟩=some v) (hsp:∀j,j<(n+1)*2->(w.cell? ⟨b,o+j,none⟩).isSome=true) (hfz:∀j,w.frozen? ⟨b,j,none⟩=false)
  (hvs:∀j v,vs[j]? =some v->w.cell? ⟨vb,voff+j,none⟩=some v) (h1c:∀v∈cs,v.oneCell'=true) (h1v:∀v∈vs,v.oneCell'=true)
  (tA tB:TypeId) (kA kB:Nat) (hsa:w.shape? vb=some (tA,kA)) (hsb:w.shape? b=some (tB,kB)) (hkB:kB≠0) (hfa:w.frozen? ⟨vb,voff,none⟩=false) (hfe:w.frozen? ⟨vb,kA,none⟩=false):
  Calls Tryz.prog 72 #[.slice (some ⟨b,o,none⟩) n c,.int .i64 i,.slice (some ⟨vb,voff,none⟩) 1 vc] w λe w'=>
   e= .returned (.slice (some ⟨b,o,none⟩) (n+1) c)/\w'=(w.drew.setCells b (o+(i+1)*2) (cs.drop (i*2))).setCells b (o+i*2) vs:=by
 have hz2:¬((i:Int)=(n:Int)):=by omega
 have mixed:Tryz.prog.follows Departure.mixedOrders=true:=by kernel_rfl
 have hov:∀lb cb,(callFunc 119 #[.slice (some ⟨vb,voff,none⟩) 1 vc,.slice (some ⟨b,o+(i+1)*2,none⟩) lb cb]).run Tryz.prog w= .ok (.value (.bool false)) w:=λlb cb=>by
  rw[run_callFunc_extern Tryz.func119 (by kernel_rfl) (by kernel_rfl) (by kernel_rfl) (e:=Extern.SlicesOverlaps.overlaps #[33,33] #[4]) (by kernel_rfl),
   Lib.run_overlaps_apart w 33 4 50 Tryz.underlying33 2 Tryz.sizeOf50 ⟨vb,voff,none⟩ ⟨b,o+(i+1)*2,none⟩ 1 vc lb cb hvb tA tB kA kB hsa hsb hkB hfa hfe]
  rfl
 have hdl:(cs.drop (i*2)).length=(n - i)*2:=by rw[JR,hcl];omega
 have hw1:IntKind.i64.wrap ((i:Int)+1)=(i:Int)+1:=by rw[IntKind.wrap_i64];omega
 have hw2:IntKind.i64.wrap ((n:Int)+1)=(n:Int)+1:=by rw[IntKind.wrap_i64];omega
 have hb0:¬((c:Int)<(n:Int)+1):=by omega
 have hb1:(0:Int)<=(i:Int)+1:=by omega
 have hin:i<=n:=by omega
 have htn:((i:Int)+1).toNat=i+1:=by omega
 have htn2:((n:Int)+1).toNat=n+1:=by omega
 have hb2:¬(c=i+1):=by omega
 have hb3:(i:Int)<=(n:Int)+1:=by omega
 have hb4:¬(c=i):=by omega
 have hcp1:∀ty dc sc,(Builtin.copy_ #[33,33] ty #[.slice (some ⟨b,o+(i+1)*2,none⟩) (n - i) dc,.slice (some ⟨b,o+i*2,none⟩) (n+1 - i) sc]).run Tryz.prog w.drew= .ok (goInt ((n - i:Nat):Int)) (w.drew.setCells b (o+(i+1)*2) (cs.drop (i*2))):=λty dc sc=>by
  have hm:Nat.min (n+1 - i) (n - i)=n - i:=by simp only[Nat.min_def];split<;>omega
  have:=sH w.drew 33 33 ty 50 2 b (o+(i+1)*2) (n - i) dc ⟨b,o+i*2,none⟩ (n+1 - i) sc (cs.drop (i*2)) Tryz.underlying33 yz (by rw[hdl,hm])
   (λj v hj=>by rw[Addr.add_lit,KI];exact hcs (i*2+j) v (by rwa [Lc] at hj))
   (λj hj=>by rw[KI];exact hsp _ aa) (λj hj=>hfz _) (λv hv=>h1c v (Le hv))
  rw[hm] at this;exact this
 obtain ⟨W1,hW1⟩:∃W1,W1=w.drew.setCells b (o+(i+1)*2) (cs.drop (i*2)):=⟨_,rfl⟩;have hsp1:∀k,k<(n+1)*2->(W1.cell? ⟨b,o+k,none⟩).isSome=true:=λk hk=>by
  rw[hW1];exact isSome_setCells b _ _ _ (λj hj=>by rw[KI];exact hsp _ aa) _ (hsp k hk)
 have hcp2:∀(W:World),(∀x,W.cell? x=W1.cell? x)->(∀x,W.frozen? x=W1.frozen? x)->∀ty dc,(Builtin.copy_ #[33,33] ty #[.slice (some ⟨b,o+i*2,none⟩) (n+1 - i) dc,.slice (some ⟨vb,voff,none⟩) 1 vc]).run Tryz.prog W= .ok (goInt 1) (W.setCells b (o+i*2) vs):=λW hWc hWf ty dc=>by
  have hm:Nat.min 1 (n+1 - i)=1:=by simp only[Nat.min_def];split<;>omega
  have:=sH W 33 33 ty 50 2 b (o+i*2) (n+1 - i) dc ⟨vb,voff,none⟩ 1 vc vs Tryz.underlying33 yz (by rw[hvl,hm])
   (λj v hj=>by
    rw[Addr.add_lit,hWc,hW1,World.cell?_setCells_out b _ _ _ _ (λh _=>absurd h hvb)];exact hvs j v hj)
   (λj hj=>by rw[hWc,KI];exact hsp1 _ aa) (λj hj=>by rw[hWf,hW1,World.frozen?_setCells];exact hfz _) h1v
  rw[hm] at this;exact this
 rw[<-hW1] at hcp1;clear hcs hsp hdl hsp1
 go_enter Tryz.func72,Tryz.ntmps72
 go_wp2_with (simp only[hov])
 go_region_law_o (refine step_copy_runI rfl _ _ 33 33 rfl _ _ (by simp[Act.eval,Act.put]) (by simp[Act.eval,Act.put]) (hcp1 _ _ _) ?_)
 go_wp2_with (at_builtin;refine wpList_copy_runI _ rfl _ _ 33 33 rfl _ _ rfl rfl (hcp2 _ (λ_=>rfl) (λ_=>rfl) _ _) ?_)
 go_ret
 first|exact ⟨rfl,rfl⟩|exact ⟨rfl,by rw[hW1]⟩
set_option maxHeartbeats 4000000 in
theorem Fu(b o n c i vb voff vc:Nat)(cs vs:List Value)(w:World)(hi:i<n)(hnc:n<=c)(hroom:c<n+1)(hbig:(n+1)*32<=140737488355328)
  (hcl:cs.length=n*2) (hvl:vs.length=2)
  (hcs:∀j v,cs[j]? =some v->w.cell? ⟨b,o+j,none⟩=some v)
  (hvs:∀j v,vs[j]? =some v->w.cell? ⟨vb,voff+j,none⟩=some v) (h1c:∀v∈cs,v.oneCell'=true) (h1v:∀v∈vs,v.oneCell'=true):
  Calls Tryz.prog 72 #[.slice (some ⟨b,o,none⟩) n c,.int .i64 i,.slice (some ⟨vb,voff,none⟩) 1 vc] w λe w'=>
   e= .returned (.slice (some ⟨w.heap.size,0,none⟩) (n+1) (grownCap w (n+1) c 50))/\
   w'=(((w.alloc (.cells ((cs.take (i*2)).toArray++Builtin.zeroCells zP.cells (n+1 - i)++Builtin.zeroCells zP.cells (grownCap w (n+1) c 50 - (n+1))) 50)).drew.setCells w.heap.size (i*2) vs).drew).setCells w.heap.size ((i+1)*2) (cs.drop (i*2)):=by
 obtain ⟨i0,hi0,hz0,hzs,hzb⟩:=yy;have hz2:¬((i:Int)=(n:Int)):=by omega
 have mixed:Tryz.prog.follows Departure.mixedOrders=true:=by kernel_rfl
 have hz3:(c:Int)<(n:Int)+1:=by omega
 have hbw:b<w.heap.size:=block_lt_of_cell (hcs 0 _ (Jm aa));have hvw:vb<w.heap.size:=block_lt_of_cell (hvs 0 _ (Jm aa));have hkk:(n:Int)+1 - (i:Int)=((n+1 - i:Nat):Int):=by omega
 have hik:i+(n+1 - i)=n+1:=by omega
 have htl:(cs.take (i*2)).length=i*2:=by rw[JU,hcl];omega
 have hold:(Builtin.firstCells i0.size i (.slice (some ⟨b,o,none⟩) i c)).run Tryz.prog w.drew= .ok (cs.take (i*2)).toArray w.drew:=by
  rw[hzs];exact run_firstCells_some w.drew 2 i ⟨b,o,none⟩ i c (cs.take (i*2)) htl (λj v hj=>by
   rw[Addr.add_lit];rw[List.getElem?_take] at hj;split at hj
   ·exact hcs j v hj
   ·cases hj)
 have hrz:∀ty,(Builtin.append_ #[33,3] ty #[.slice (some ⟨b,o,none⟩) i c,.int .i64 ((n:Int)+1 - (i:Int))]).run Tryz.prog w=
   .ok (.slice (some ⟨w.heap.size,0,none⟩) (n+1) (grownCap w (n+1) c 50)) (w.drew.alloc (.cells ((cs.take (i*2)).toArray++Builtin.zeroCells zP.cells (n+1 - i)++Builtin.zeroCells zP.cells (grownCap w (n+1) c 50 - (n+1))) 50)):=λty=>by
  have h:=Lib.run_append_grow_zeros w 33 3 ty 50 i0 _ .i64 .i64 Tryz.underlying33 Tryz.underlying3 hi0 hz0 (some ⟨b,o,none⟩) i c (cs.take (i*2)) hold (n+1 - i) aa aa aa aa (by rw[hzb];omega) (by rw[hzb,hik];exact growslice_fits hroom hbig);rw[hik] at h;rw[hkk];exact h
 obtain ⟨G,hG⟩:∃G,G=grownCap w (n+1) c 50:=⟨_,rfl⟩;have hzc:∀k,(Builtin.zeroCells zP.cells k).size=k*2:=λk=>by simp[Builtin.zeroCells,Value.cells]
 obtain ⟨ROW,hROW⟩:∃ROW:Array Value,ROW=(cs.take (i*2)).toArray++Builtin.zeroCells zP.cells (n+1 - i)++Builtin.zeroCells zP.cells (G - (n+1)):=⟨_,rfl⟩;rw[<-hG] at hrz |-;rw[<-hROW] at hrz |-;have hRl:(n+1)*2<=ROW.size:=by
  rw[hROW,Array.size_append,Array.size_append,hzc,hzc,List.size_toArray,htl];omega
 obtain ⟨W1,hW1⟩:∃W1,W1=w.drew.alloc (.cells ROW 50):=⟨_,rfl⟩;rw[<-hW1] at hrz;have hN:∀j,j<(n+1)*2->(W1.cell? ⟨w.heap.size,j,none⟩).isSome=true:=λj hj=>by
  rw[hW1,World.cell?_alloc_at (w:=w.drew) ROW _ w.heap.size j rfl,JX aa];rfl
 have hNf:∀j,W1.frozen? ⟨w.heap.size,j,none⟩=false:=λj=>by rw[hW1];exact World.frozen?_alloc_at (w:=w.drew) ROW _ w.heap.size j rfl
 have hOb:∀j v,w.cell? ⟨b,j,none⟩=some v->W1.cell? ⟨b,j,none⟩=some v:=λj v h=>by rw[hW1,World.cell?_alloc_past (w:=w.drew) _ b j hbw];exact h
 have hOv:∀j v,w.cell? ⟨vb,j,none⟩=some v->W1.cell? ⟨vb,j,none⟩=some v:=λj v h=>by rw[hW1,World.cell?_alloc_past (w:=w.drew) _ vb j hvw];exact h
 have hcpA:∀(W:World),(∀x,W.cell? x=W1.cell? x)->(∀x,W.frozen? x=W1.frozen? x)->∀ty dc,(Builtin.copy_ #[33,33] ty #[.slice (some ⟨w.heap.size,i*2,none⟩) (n+1 - i) dc,.slice (some ⟨vb,voff,none⟩) 1 vc]).run Tryz.prog W= .ok (goInt 1) (W.setCells w.heap.size (i*2) vs):=λW hWc hWf ty dc=>by
  have hm:Nat.min 1 (n+1 - i)=1:=by simp only[Nat.min_def];split<;>omega
  have:=sH W 33 33 ty 50 2 w.heap.size (i*2) (n+1 - i) dc ⟨vb,voff,none⟩ 1 vc vs Tryz.underlying33 yz (by rw[hvl,hm])
   (λj v hj=>by rw[Addr.add_lit,hWc];exact hOv _ v (hvs j v hj))
   (λj hj=>by rw[hWc];exact hN _ aa) (λj hj=>by rw[hWf];exact hNf _) h1v
  rw[hm] at this;exact this
 have hGn:n+1<=G:=by rw[hG];exact grownCap_ge w _ _ _
 have hG63:G<=9223372036854775807:=by
  have:=grownCap_le_maxLen w (n+1) c 50 (by unfold maxLen;omega);rw[<-hG] at this;unfold maxLen at this;omega
 have hGi:¬(G=i):=by omega
 have hGim:¬(G=i+1):=by omega
 have hci:¬(c=i):=by omega
 have hbN:b≠w.heap.size:=by omega
 have hdl:(cs.drop (i*2)).length=(n - i)*2:=by rw[JR,hcl];omega
 have hcpB:∀(W:World),(∀x,W.cell? x=(W1.setCells w.heap.size (i*2) vs).cell? x)->(∀x,W.frozen? x=(W1.setCells w.heap.size (i*2) vs).frozen? x)->∀ty dc sc,(Builtin.copy_ #[33,33] ty #[.slice (some ⟨w.heap.size,(i+1)*2,none⟩) (n - i) dc,.slice (some ⟨b,o+i*2,none⟩) (n - i) sc]).run Tryz.prog W= .ok (goInt ((n - i:Nat):Int)) (W.setCells w.heap.size ((i+1)*2) (cs.drop (i*2))):=λW hWc hWf ty dc sc=>by
  have hm:Nat.min (n - i) (n - i)=n - i:=by simp only[Nat.min_def];split<;>omega
  have:=sH W 33 33 ty 50 2 w.heap.size ((i+1)*2) (n - i) dc ⟨b,o+i*2,none⟩ (n - i) sc (cs.drop (i*2)) Tryz.underlying33 yz (by rw[hdl,hm])
   (λj v hj=>by
    rw[Addr.add_lit,hWc,World.cell?_setCells_out _ _ _ _ _ (λh _=>absurd h hbN),KI];exact hOb _ v (hcs (i*2+j) v (by rwa [Lc] at hj)))
   (λj hj=>by rw[hWc];exact isSome_setCells _ _ _ _ (λt ht=>hN _ aa) _ (hN _ aa))
   (λj hj=>by rw[hWf,World.frozen?_setCells];exact hNf _) (λv hv=>h1c v (Le hv))
  rw[hm] at this;exact this
 subst hW1;have hE1:∀x,((w.alloc (.cells ROW 50)).drew).cell? x=(w.drew.alloc (.cells ROW 50)).cell? x:=λx=>rfl;have hE2:∀x,((w.alloc (.cells ROW 50)).drew).frozen? x=(w.drew.alloc (.cells ROW 50)).frozen? x:=λx=>rfl;have hF1:∀x,(((w.alloc (.cells ROW 50)).drew.setCells w.heap.size (i*2) vs).drew).cell? x=((w.drew.alloc (.cells ROW 50)).setCells w.heap.size (i*2) vs).cell? x:=λx=>rfl;have hF2:∀x,(((w.alloc (.cells ROW 50)).drew.setCells w.heap.size (i*2) vs).drew).frozen? x=((w.drew.alloc (.cells ROW 50)).setCells w.heap.size (i*2) vs).frozen? x:=λx=>rfl;have hw1:IntKind.i64.wrap ((i:Int)+1)=(i:Int)+1:=by rw[IntKind.wrap_i64];omega
 have hw2:IntKind.i64.wrap ((n:Int)+1)=(n:Int)+1:=by rw[IntKind.wrap_i64];omega
 have hw3:IntKind.i64.wrap ((n:Int)+1 - (i:Int))=(n:Int)+1 - (i:Int):=by rw[IntKind.wrap_i64];omega
 have hb1:(0:Int)<=(i:Int)+1:=by omega
 have hin:i<=n:=by omega
 have htn:((i:Int)+1).toNat=i+1:=by omega
 have hb3:(i:Int)<=(n:Int):=by omega
 clear hkk hik hold hROW hG hRl hcs hvs hN hNf hOb hOv hzc htl hdl
 go_enter Tryz.func72,Tryz.ntmps72
 go_wp2_with (first
  |(at_builtin;refine Lib.wpList_append_run _ rfl _ _ _ _ rfl _ _ rfl rfl _ _ (hrz _) ?_)
  |(at_builtin;refine wpList_copy_runI _ rfl _ _ 33 33 rfl _ _ rfl rfl (hcpA _ hE1 hE2 _ _) ?_)
  |(at_builtin;refine wpList_copy_runI _ rfl _ _ 33 33 rfl _ _ rfl rfl (hcpB _ (λ_=>rfl) (λ_=>rfl) _ _ _) ?_))
 go_region_law_o (refine step_copy_runI rfl _ _ 33 33 rfl (.slice (some ⟨w.heap.size,(i+1)*2,none⟩) (n - i) (G - (i+1))) (.slice (some ⟨b,o+i*2,none⟩) (n - i) (c - i)) (by simp[Act.eval,Act.put]) (by simp[Act.eval,Act.put]) (hcpB _ hF1 hF2 3 (G - (i+1)) (c - i)) ?_)
 go_wp2
 go_ret
 exact ⟨rfl,rfl⟩
abbrev zP2:List Value:=[.string ⟨#[]⟩,.string ⟨#[]⟩]
theorem Fv{c i b o:Nat}{news:List Value}{w:World}(h:c=i->news=[])(hc:∀(t:Nat) u,news[t]? =some u->w.cell? ⟨b,o+i*2+t,none⟩=some u):
  ∃A:Addr,(if c=i then some (⟨b,o,none⟩:Addr) else some ⟨b,o+i*2,none⟩)=some A/\∀(t:Nat) u,news[t]? =some u->w.cell? (A.add t)=some u:=by
 by_cases e:c=i
 ·refine ⟨⟨b,o,none⟩,by simp[e],λt u hu=>?_⟩;rw[h e] at hu;simp at hu
 ·refine ⟨⟨b,o+i*2,none⟩,by simp[e],λt u hu=>?_⟩;rw[Addr.add_lit];exact hc t u hu
set_option maxHeartbeats 4000000 in
theorem IW(b o n c i:Nat)(cs:List Value)(w:World)(hi:i<n)(hnc:n<=c)(hc63:c<=9223372036854775807)(hcl:cs.length=n*2)
  (hcs:∀j v,cs[j]? =some v->w.cell? ⟨b,o+j,none⟩=some v) (hfz:∀j,w.frozen? ⟨b,j,none⟩=false) (h1c:∀v∈cs,v.oneCell'=true):
  Calls Tryz.prog 71 #[.slice (some ⟨b,o,none⟩) n c,.int .i64 i,.int .i64 ((i:Int)+1)] w λe w'=>
   e= .returned (.slice (some ⟨b,o,none⟩) (n - 1) c)/\w'=(w.drew.setCells b (o+i*2) (cs.drop ((i+1)*2))).setCells b (o+(n - 1)*2) zP2:=by
 obtain ⟨i0,hi0,hz0,hzs,hzb⟩:=yy;have hz2:¬((i:Int)=(i:Int)+1):=by omega
 have mixed:Tryz.prog.follows Departure.mixedOrders=true:=by kernel_rfl
 obtain ⟨news,hnews⟩:∃news,cs.drop ((i+1)*2)=news:=⟨_,rfl⟩;have hlen:news.length=(n - (i+1))*2:=by rw[<-hnews,JR,hcl];omega
 have hget:∀t u,news[t]? =some u->w.drew.cell? ⟨b,o+(i+1)*2+t,none⟩=some u:=λt u hu=>by
  rw[KI];exact hcs ((i+1)*2+t) u (by rw[<-hnews,Lc] at hu;exact hu)
 obtain ⟨A,hA,hsrc⟩:=Fv (c:=c) (i:=i+1) (b:=b) (o:=o) (w:=w.drew) (news:=news) (λe=>Ld.1 aa) hget;have hall:∀j,j<n*2->(w.cell? ⟨b,o+j,none⟩).isSome=true:=λj hj=>by rw[hcs j _ (Jm aa)];rfl
 have hspare:∀t,t<news.length->(w.drew.cell? ⟨b,o+i*2+t,none⟩).isSome=true/\w.drew.frozen? ⟨b,o+i*2+t,none⟩=false:=λt ht=>by
  refine ⟨?_,hfz _⟩;rw[KI];exact hall _ aa
 obtain ⟨W1,hW1⟩:∃W1,w.drew.setCells b (o+i*2) news=W1:=⟨_,rfl⟩;have hcl:∀ty cc,(Builtin.clear_ #[33] ty #[.slice (some ⟨b,o+(n - 1)*2,none⟩) 1 cc]).run Tryz.prog W1= .ok (.tuple #[]) (W1.setCells b (o+(n - 1)*2) zP2):=λty cc=>
  AH W1 33 50 ty zP zP2 Tryz.underlying33 Tryz.zeroValue50 (by kernel_rfl) (by intro v hv;simp at hv;subst hv;rfl) b (o+(n - 1)*2) cc
   (λj hj=>by
    have hj:j<2:=hj;rw[<-hW1,KI];exact isSome_setCells b _ _ _ (λt ht=>(hspare t ht).1) _ (hall _ aa))
   (λj hj=>by rw[<-hW1,World.frozen?_setCells];exact hfz _)
 have h1:∀v∈news,v.oneCell'=true:=λv hv=>h1c v (Le (hnews.symm▸hv));have e1:i+(n - (i+1))=n - 1:=by omega
 have e2:n - (n - 1)=1:=by omega
 have hin:i<=n:=by omega
 have hin1:(i:Int)+1<=(n:Int):=by omega
 have hi1:(i:Int)<=(i:Int)+1:=by omega
 have hi0':(0:Int)<=(i:Int)+1:=by omega
 have hic:i<=c:=by omega
 have hicc:(i:Int)+1<=(c:Int):=by omega
 have htn:((i:Int)+1).toNat=i+1:=by omega
 have hci:¬(c=n - 1):=by omega
 have hnn:n - 1<=n:=by omega
 have hnn2:((n - 1:Nat):Int)<=(n:Int):=by omega
 clear hcs hall hget
 go_enter Tryz.func71,Tryz.ntmps71
 go_wp2_with fail
 go_region_law_o (refine step_append_room rfl (.tmp 22) (.tmp 25) 33 rfl 50 i0 2 Tryz.underlying33 hi0 hzs b o i c (by simp[Act.eval,Act.put]) A (n - (i+1)) (c - (i+1)) news (by simp[Act.eval,Act.put]) hlen hsrc h1 aa hspare ?_;rw[hW1,e1])
 go_wp2
 go_ret
 first|exact ⟨rfl,rfl⟩|exact ⟨rfl,by rw[hW1]⟩|exact ⟨rfl,by rw[hnews,hW1]⟩
end Go.Proofs.YtjnoobmaedgooaaGreat.Arch
end
section
set_option maxRecDepth 100000
namespace Go.Proofs.YtjnoobmaedgooaaGreat.Arch
open Go Go.Av Go.Proofs Go.Proofs.YtjnoobmaedgooaaGreat.C Go.Proofs.YtjnoobmaedgooaaGreat.Batch Go.Lib Go.RowKit
structure AJ(w w':World)(b n:Nat)(out:List Value)(v:Value):Prop where
 ex:∃(B C:Nat)(L:List Value)(T:TypeId)(fr:Nat × Nat),v= .slice (some ⟨B,0,none⟩) n C/\1<=C/\n<=C/\C<=9223372036854775807/\C*2<=out.length+L.length/\w'.heap[B]? =some (.cells (out++L).toArray T fr)/\fr.1=fr.2/\(B=b\/w.heap.size<=B)
 sz:w.heap.size<=w'.heap.size
 os:w'.os=w.os
 ou:w'.output=w.output
 fr:∀k,k<w.heap.size->k≠b->w'.heap[k]? =w.heap[k]?
 sf:bq w.heap[b]? w'.heap[b]?
theorem AJ.bI{G:aE}{h:H}{w w':World}{id n:Nat}{cs xs:List AV}{vs:List Value}{v:Value}(X:AJ w w' (G.ι id) n vs v)(R:aM G h w)(ho:h.objs id=some (.cells cs))(ht:h.toks=[])(hn:¬G.dom h.n)(hl:vs.length=xs.length)(hx:xs.length=n*2)(hb:n<1099511627777)(hE:∀G w,ay G w xs vs)(h1:∀v∈vs,One v):
  ∃G',Trans G w h G' w' (h.bI id (.cells xs))/\aM G' (h.bI id (.cells xs)) w'/\au G' w' (.tsl 2 h.n 0 n none) v:=by
 obtain ⟨⟨B,C,L,T,fr,rfl,c1,c2,c3,c4,c5,c6,c7⟩,x1,x2,x3,x4,x5⟩:=X;obtain ⟨C1,hC1,hC2,hC3,hC4⟩:∃C1,1<=C1/\xs.length<=C1/\C1<=9223372036854775807/\C1<=vs.length+L.length:=⟨n*2+(1 - n*2),aa,aa,aa,aa⟩;obtain ⟨G',T1,R1,V⟩:=D2 R ho ht hn x1 x2 x3 x4 x5 c7 ⟨hC2,hC3⟩ hl hE h1 c5 hC4 c6;refine ⟨G',T1,R1,?_⟩;simp only[au] at V |-;obtain ⟨hd,⟨C',c,T',fr',e,-,-,hg,-⟩|⟨-,⟨a,e⟩,-⟩⟩:=V
 ·have eB:B=G'.ι h.n:=by
   injection e with e1 e2 e3;injection e1 with e1;injection e1
  refine ⟨hd,.inl ⟨C,(vs++L).toArray,T,fr,by rw[eB],⟨c2,c3⟩,(λ_ h=>by cases h),by rw[<-eB];exact c5,by simpa using c4⟩⟩
 ·injection e with e1 e2 e3;omega
def aQ(l:List Pr):List Value:=l.flatMap ez
theorem bO(l:List Pr):(aQ l).length=l.length*2:=by
 induction l with
 |nil=>rfl
 |cons p l ih=>
  have e:(ez p).length=2:=rfl;simp only[aQ,Kw,Ju,List.length_cons] at*
  omega
theorem dC(a b:List Pr):aQ (a++b)=aQ a++aQ b:=by simp[aQ]
theorem nT(x:Pr)(b:List Pr):aQ (x::b)=ez x++aQ b:=rfl
theorem uH(l:List Pr)(i:Nat)(h:i<=l.length):(aQ l).take (i*2)=aQ (l.take i):=by
 have e:(aQ (l.take i)).length=i*2:=by rw[bO,JU,KB h]
 rw[<-e]
 conv=>lhs;arg 2;rw[<-Kj i l]
 rw[dC,LN]
theorem kv(l:List Pr)(i:Nat)(h:i<=l.length):(aQ l).drop (i*2)=aQ (l.drop i):=by
 have e:(aQ (l.take i)).length=i*2:=by rw[bO,JU,KB h]
 rw[<-e]
 conv=>lhs;arg 2;rw[<-Kj i l]
 rw[dC,List.drop_left]
theorem kz(x:Pr):∀v∈ez x,v.oneCell'=true:=by
 intro v hv;simp only[ez,JB,List.not_mem_nil,or_false] at hv;rcases hv with rfl|rfl<;>rfl
theorem lT(l:List Pr):∀v∈aQ l,v.oneCell'=true:=by
 intro v hv;obtain ⟨p,-,hp⟩:=Lk.1 hv;exact kz p v hp
theorem ft(A B:List Value)(k:Nat):(A++B).drop (A.length+k)=B.drop k:=by
 rw[<-KT,List.drop_left]
theorem DC(A B:List Value)(k:Nat):(A++B).take (A.length+k)=A++B.take k:=by
 rw[List.take_append,Kq aa,Nat.add_sub_cancel_left]
theorem AK{A X D R Z:List Value}(hX:X.length=2):
  ((A++(X++(D++R))).take A.length++D++(A++(X++(D++R))).drop (A.length+D.length)).take (A.length+D.length)++Z++((A++(X++(D++R))).take A.length++D++(A++(X++(D++R))).drop (A.length+D.length)).drop (A.length+D.length+2)=(A++D)++(Z++R):=by
 rw[LN,ft];have e:A.length+D.length=(A++D).length:=by simp
 rw[e,LN,ft,KT];have e2:D.length+2=X.length+D.length:=by omega
 rw[e2,ft,List.drop_left];simp
theorem AL{A D R X:List Value}(hX:X.length=2)(hR:2<=R.length):
  ((A++(D++R)).take (A.length+2)++D++(A++(D++R)).drop (A.length+2+D.length)).take A.length++X++((A++(D++R)).take (A.length+2)++D++(A++(D++R)).drop (A.length+2+D.length)).drop (A.length+2)=(A++(X++D))++R.drop 2:=by
 rw[DC,KI,ft];have l2:((D++R).take 2).length=2:=by rw[JU,Ju];omega
 have e2:2+D.length=D.length+2:=by omega
 rw[e2,ft];generalize (D++R).take 2=Y at*
 have e3:(Y++(D++R.drop 2)).drop 2=D++R.drop 2:=List.drop_left' l2;simp only[K7];rw[LN,ft,e3]
theorem AM{A D Z X:List Value}(hX:X.length=2):
  ((A++Z).take A.length++X++(A++Z).drop (A.length+2)).take (A.length+2)++D++((A++Z).take A.length++X++(A++Z).drop (A.length+2)).drop (A.length+2+D.length)=(A++(X++D))++(Z.drop 2).drop D.length:=by
 rw[LN,ft];have e:A.length+2=(A++X).length:=by simp[hX]
 rw[e,LN,ft];simp
theorem AN(l:List Pr)(i:Nat)(hi:i<l.length)(hl:l.length<1099511627776){id:Nat}{h:H}(ho:h.objs id=some (.cells (l.flatMap encA)))(htk:h.toks=[]):
  aS Tryz.prog 71 [.tsl 2 id 0 l.length none,.int .i64 i,.int .i64 ((i:Int)+1)] h (.tsl 2 h.n 0 (l.length - 1) none) (h.bI id (.cells ((l.take i++l.drop (i+1)).flatMap encA))):=by
 intro G w vs hv R F;simp only[ay,au] at hv;obtain ⟨v1,_,rfl,⟨hd1,hv1⟩,v2,_,rfl,rfl,v3,_,rfl,rfl,rfl⟩:=hv;obtain ⟨C,c,T,fr,rfl,⟨hnC,hc63⟩,-,hg,hroom⟩|⟨hz,-⟩:=hv1;rotate_left
 ·omega
 obtain ⟨-,hown,hB,us,rest,T',fr',hg',hvs,hfr,-⟩:=R.obj id _ ho;have hus:=mv _ _ _ _ hvs;subst hus;rw[hg] at hg';obtain ⟨rfl,rfl,rfl⟩:c=(aQ l++rest).toArray/\T=T'/\fr=fr':=by simpa [aQ] using hg'
 have hsl:=bO l;have hrl:C*2<=l.length*2+rest.length:=by simpa [hsl] using hroom
 have hfz:∀j,w.frozen? ⟨G.ι id,j,none⟩=false:=λj=>by
  unfold World.frozen?;simp only[hg];have:=hfr;simp;omega
 have hcs:∀(j:Nat) v,(aQ l)[j]? =some v->w.cell? ⟨G.ι id,0+j,none⟩=some v:=λj v hv=>by
  have hj:=(Km.1 hv).1;unfold World.cell?;simp only[hg,JG];simpa [JQ hj] using hv
 refine (IW (G.ι id) 0 l.length C i (aQ l) w hi hnC hc63 hsl hcs hfz (lT l)).mono ?_;rintro e w' ⟨rfl,rfl⟩;have ed:=kv l (i+1) aa;have et:l=l.take i++(l.getD i default::l.drop (i+1)):=by
  rw[<-Batch.cr hi,Kj]
 have eA:(aQ (l.take i)).length=i*2:=by rw[bO,JU,KB aa]
 have eD:(aQ (l.drop (i+1))).length=(l.length - (i+1))*2:=by rw[bO,JR]
 have hout:(l.take i++l.drop (i+1)).length=l.length - 1:=by rw[Ju,JU,JR];omega
 have ecell:aQ l++rest=aQ (l.take i)++(ez (l.getD i default)++(aQ (l.drop (i+1))++rest)):=by
  conv=>lhs;rw[et]
  rw[dC,nT];simp
 rw[ed];obtain ⟨a1,a2,a3,a4,a5⟩:=bN (G.ι id) T fr (aQ (l.drop (i+1))) (0+i*2) (aQ l++rest) w.drew hg (by rw[eD,Ju,hsl];omega);obtain ⟨b1,b2,b3,b4,b5⟩:=bN (G.ι id) T fr zP2 (0+(l.length - 1)*2) _ _ a1 (by
  have:zP2.length=2:=rfl;rw[this,Ju,Ju,JU,JR,eD,Ju,hsl];omega)
 have e3:0+(l.length - 1)*2=(aQ (l.take i)).length+(aQ (l.drop (i+1))).length:=by rw[eA,eD];omega
 have e4:0+i*2=(aQ (l.take i)).length:=by rw[eA];omega
 have e5:zP2.length=2:=rfl;rw[e3,e4,e5,ecell,AK rfl,<-dC] at b1;rw[e3,e4] at b2 b3 b4 b5;have X:AJ w _ (G.ι id) (l.length - 1) (aQ (l.take i++l.drop (i+1))) (.slice (some ⟨G.ι id,0,none⟩) (l.length - 1) C):=⟨⟨G.ι id,C,zP2++rest,T,fr,rfl,aa,aa,hc63,by rw[bO,hout,Ju,e5];omega,b1,hfr,.inl rfl⟩,Nat.le_of_eq (b3.trans (e4▸a3)).symm,b4.trans (e4▸a4),b5.trans (e4▸a5),λk _ hk=>(b2 k hk).trans (e4▸a2 k hk),by
  rw[hg,b1];refine ⟨_,_,rfl,?_,λ_ _ h=>h⟩;simp only[List.size_toArray,Ju,bO,JU,JR,e5];omega⟩
 obtain ⟨G',T1,R1,V⟩:=X.bI R ho htk (F.1 _ (Jl _) (J8 _)) (xs:=(l.take i++l.drop (i+1)).flatMap encA) (by rw[bO,eC]) (by rw[eC,hout]) aa (jY _) (pK _);rw[<-e3,<-e4] at T1 R1 V;exact ⟨_,G',rfl,T1,R1,V⟩
theorem AO(l:List Pr)(i:Nat)(x:Pr)(hi:i<=l.length)(hl:l.length<1000000000){id id2:Nat}(hne:id≠id2){h:H}(ho:h.objs id=some (.cells (l.flatMap encA)))(ho2:h.objs id2=some (.cells (encA x)))(htk:h.toks=[]):
  aS Tryz.prog 72 [.tsl 2 id 0 l.length none,.int .i64 i,.tsl 2 id2 0 1 none] h (.tsl 2 h.n 0 (l.length+1) none) (h.bI id (.cells ((l.take i++x::l.drop i).flatMap encA))):=by
 intro G w vs hv R F;simp only[ay,au] at hv;obtain ⟨v1,_,rfl,⟨hd1,hv1⟩,v2,_,rfl,rfl,v3,_,rfl,⟨hd2,hv3⟩,rfl⟩:=hv;obtain ⟨C2,c2,T2,fr2,rfl,⟨hnC2,-⟩,-,hg2,hroom2⟩|⟨hz,-⟩:=hv3;rotate_left
 ·omega
 obtain ⟨-,hown,hB,us,rest,T',fr',hg',hvs,hfr,-⟩:=R.obj id _ ho;obtain ⟨-,hown2,hB2,us2,rest2,T2',fr2',hg2',hvs2,hfr2,-⟩:=R.obj id2 _ ho2;have hus:=mv _ _ _ _ hvs;subst hus;have hus2:=El hvs2;subst hus2;have hbb:G.ι id2≠G.ι id:=λe=>hne (R.inj _ _ _ _ ho ho2 e.symm);rw[hg2] at hg2';obtain ⟨rfl,rfl,rfl⟩:c2=(ez x++rest2).toArray/\T2=T2'/\fr2=fr2':=by simpa using hg2'
 have hsl:=bO l;have hX:(ez x).length=2:=rfl;have hfz2:∀j,w.frozen? ⟨G.ι id2,j,none⟩=false:=λj=>by
  unfold World.frozen?;simp only[hg2];have:=hfr2;simp;omega
 have hvs':∀(j:Nat) v,(ez x)[j]? =some v->w.cell? ⟨G.ι id2,0+j,none⟩=some v:=λj v hv=>by
  have hj:=(Km.1 hv).1;unfold World.cell?;simp only[hg2,JG];simpa [JQ hj] using hv
 have hgW:w.heap[G.ι id]? =some (.cells (aQ l++rest).toArray T' fr'):=hg';have hfz:∀j,w.frozen? ⟨G.ι id,j,none⟩=false:=λj=>by
  unfold World.frozen?;simp only[hgW];have:=hfr;simp;omega
 have hcs:∀(j:Nat) v,(aQ l)[j]? =some v->w.cell? ⟨G.ι id,0+j,none⟩=some v:=λj v hv=>by
  have hj:=(Km.1 hv).1;unfold World.cell?;simp only[hgW,JG];simpa [JQ hj] using hv
 have hout:(l.take i++x::l.drop i).length=l.length+1:=by rw[Ju,JU,List.length_cons,JR];omega
 have eA:(aQ (l.take i)).length=i*2:=by rw[bO,JU,KB hi]
 have eD:(aQ (l.drop i)).length=(l.length - i)*2:=by rw[bO,JR]
 have ecell:aQ l++rest=aQ (l.take i)++(aQ (l.drop i)++rest):=by
  conv=>lhs;rw[<-Kj i l]
  rw[dC];simp
 have eout:aQ (l.take i)++(ez x++aQ (l.drop i))=aQ (l.take i++x::l.drop i):=by rw[dC,nT]
 have fin:∀(w':World)(v:Value),AJ w w' (G.ι id) (l.length+1) (aQ (l.take i++x::l.drop i)) v->
   ∃v' G',Ending.returned v= .returned v'/\Trans G w h G' w' (h.bI id (.cells ((l.take i++x::l.drop i).flatMap encA)))/\aM G' (h.bI id (.cells ((l.take i++x::l.drop i).flatMap encA))) w'/\au G' w' (.tsl 2 h.n 0 (l.length+1) none) v':=by
  intro w' v X;obtain ⟨G',T1,R1,V⟩:=X.bI R ho htk (F.1 _ (Jl _) (J8 _)) (xs:=(l.take i++x::l.drop i).flatMap encA) (by rw[bO,eC]) (by rw[eC,hout]) aa (jY _) (pK _);exact ⟨_,G',rfl,T1,R1,V⟩
 have newb:∀(w':World)(L2:List Value)(C0:Nat)(T0:TypeId),l.length+1<=C0->C0<=9223372036854775807->C0*2<=(l.length+1)*2+L2.length->w'.heap[w.heap.size]? =some (.cells (aQ (l.take i++x::l.drop i)++L2).toArray T0 (0,0))->w.heap.size<=w'.heap.size->w'.os=w.os->w'.output=w.output->(∀b,b<w.heap.size->w'.heap[b]? =w.heap[b]?)->
   AJ w w' (G.ι id) (l.length+1) (aQ (l.take i++x::l.drop i)) (.slice (some ⟨w.heap.size,0,none⟩) (l.length+1) C0):=by
  intro w' L2 C0 T0 q1 q2 q3 q4 q5 q6 q7 q8;exact ⟨⟨_,C0,L2,T0,(0,0),rfl,aa,q1,q2,by rw[bO,hout];exact q3,q4,rfl,.inr (Jl _)⟩,q5,q6,q7,λk hk _=>q8 k hk,by rw[q8 _ hB];exact bq.refl _⟩
 have hzl:∀k,(Builtin.zeroCells zP.cells k).toList.length=k*2:=λk=>by simp[Builtin.zeroCells,Value.cells]
 have grow:∀(a0:Addr)(c0:Nat),i=l.length->l.length<=c0->c0<l.length+1->(∀(j:Nat) v,(aQ l)[j]? =some v->w.cell? (a0.add j)=some v)->
   Calls Tryz.prog 72 #[.slice (some a0) l.length c0,.int .i64 i,.slice (some ⟨G.ι id2,0,none⟩) 1 C2] w λe w'=>∃v G',e= .returned v/\Trans G w h G' w' (h.bI id (.cells ((l.take i++x::l.drop i).flatMap encA)))/\aM G' (h.bI id (.cells ((l.take i++x::l.drop i).flatMap encA))) w'/\au G' w' (.tsl 2 h.n 0 (l.length+1) none) v:=by
  intro a0 c0 hie k1 k2 hca;subst hie;refine (DB (some a0) l.length c0 (G.ι id2) 0 C2 (aQ l) (ez x) w k1 k2 aa hsl rfl (λe=>by cases e) (λa ha=>by cases ha;exact hca) hvs' (kz x)).mono ?_;rintro e w' ⟨rfl,rfl⟩;have hgc':l.length+1<=grownCap w (l.length+1) c0 50:=grownCap_ge _ _ _ _;have hgl:grownCap w (l.length+1) c0 50<=9223372036854775807:=grownCap_le_maxLen w _ c0 _ (by unfold maxLen;omega);generalize grownCap w (l.length+1) c0 50=C0 at hgc' hgl |-;have hz:=hzl (C0 - (l.length+1));generalize Builtin.zeroCells zP.cells (C0 - (l.length+1))=Zc at hz |-;refine fin _ _ (newb _ Zc.toList C0 50 hgc' hgl (by rw[hz];omega) ?_ ?_ rfl rfl ?_)
  ·show (w.heap.push _)[w.heap.size]? =_;rw[Array.getElem?_push_size,<-eout,J1,List.drop_length];refine Kd some (Kd (λc=>Go.Obj.cells c _ (0,0)) (Array.ext' ?_));simp[aQ]
  ·show _<=(w.heap.push _).size;rw[Array.size_push];omega
  ·intro b hb;show (w.heap.push _)[b]? =_;rw[K6,Jr (Nat.ne_of_lt hb)]
 rcases hv1 with ⟨C,c,T,fr,rfl,⟨hnC,hc63⟩,-,hg,hroom⟩|⟨hz,⟨a0,rfl⟩,-⟩;rotate_left
 ·have hcl0:aQ l=[]:=Ld.1 (by rw[hsl,hz]);have:=grow a0 0 aa aa aa (λj v hj=>by rw[hcl0] at hj;simp at hj);rw[hz] at this |-;exact this
 rw[hgW] at hg;obtain ⟨rfl,rfl,rfl⟩:(aQ l++rest).toArray=c/\T'=T/\fr'=fr:=by simpa using hg
 have hrl:C*2<=l.length*2+rest.length:=by simpa [hsl] using hroom
 have inpl:∀(w':World)(L2:List Value),w'.heap[G.ι id]? =some (.cells (aQ (l.take i++x::l.drop i)++L2).toArray T' fr')->L2.length+2=rest.length->w'.heap.size=w.heap.size->w'.os=w.os->w'.output=w.output->(∀b,b≠G.ι id->w'.heap[b]? =w.heap[b]?)->l.length+1<=C->
   AJ w w' (G.ι id) (l.length+1) (aQ (l.take i++x::l.drop i)) (.slice (some ⟨G.ι id,0,none⟩) (l.length+1) C):=by
  intro w' L2 q1 q2 q3 q4 q5 q6 q7;refine ⟨⟨_,C,L2,T',fr',rfl,aa,q7,hc63,by rw[bO,hout];omega,q1,hfr,.inl rfl⟩,Nat.le_of_eq q3.symm,q4,q5,λk _ hk=>q6 k hk,?_⟩;rw[hgW,q1];refine ⟨_,_,rfl,?_,λ_ _ h=>h⟩;simp only[List.size_toArray,Ju,bO,hout] at*
  omega
 by_cases hfit:l.length+1<=C
 ·have hrest:2<=rest.length:=by omega
  by_cases hie:i=l.length
  ·subst hie;have hsome:∀j,j<2->(w.cell? ⟨G.ι id,0+l.length*2+j,none⟩).isSome=true:=λj hj=>by
    unfold World.cell?;simp only[hgW];simp[hsl];omega
   refine (DA (G.ι id) 0 l.length C (G.ι id2) 0 C2 (ez x) w hfit hc63 rfl hsome (λj hj=>hfz _) hvs' (kz x)).mono ?_;rintro e w' ⟨rfl,rfl⟩;obtain ⟨a1,a2,a3,a4,a5⟩:=bN (G.ι id) T' fr' (ez x) (0+l.length*2) (aQ l++rest) w hgW (by rw[hX,Ju,hsl];omega);refine fin _ _ (inpl _ (rest.drop 2) ?_ (by rw[JR];omega) a3 a4 a5 a2 hfit);rw[a1,<-eout,J1,List.drop_length,JG,<-hsl,LN,hX,ft];simp[aQ]
  ·have hlt:i<l.length:=by omega
   have hsome:∀j,j<(l.length+1)*2->(w.cell? ⟨G.ι id,0+j,none⟩).isSome=true:=λj hj=>by
    unfold World.cell?;simp only[hgW];simp[hsl];omega
   refine (AI (G.ι id) 0 l.length C i (G.ι id2) 0 C2 (aQ l) (ez x) w hlt hfit hc63 hbb hsl rfl hcs hsome hfz hvs' (lT l) (kz x) T2 T' (ez x++rest2).toArray.size (aQ l++rest).toArray.size (by unfold World.shape?;simp only[hg2]) (by unfold World.shape?;simp only[hgW]) (by rw[List.size_toArray,Ju,hsl];omega) (hfz2 _) (hfz2 _)).mono ?_;rintro e w' ⟨rfl,rfl⟩;rw[kv l i hi];obtain ⟨a1,a2,a3,a4,a5⟩:=bN (G.ι id) T' fr' (aQ (l.drop i)) (0+(i+1)*2) (aQ l++rest) w.drew hgW (by rw[eD,Ju,hsl];omega);obtain ⟨b1,b2,b3,b4,b5⟩:=bN (G.ι id) T' fr' (ez x) (0+i*2) _ _ a1 (by
    rw[hX,Ju,Ju,JU,JR,eD,Ju,hsl];omega)
   refine fin _ _ (inpl _ (rest.drop 2) ?_ (by rw[JR];omega) (b3.trans a3) (b4.trans a4) (b5.trans a5) (λb hb=>(b2 b hb).trans (a2 b hb)) hfit);have e3:0+(i+1)*2=(aQ (l.take i)).length+2:=by rw[eA];omega
   have e4:0+i*2=(aQ (l.take i)).length:=by rw[eA];omega
   rw[b1,hX,e3,e4,ecell,AL rfl hrest,eout]
 ·have hCl:C=l.length:=by omega
  subst hCl;by_cases hie:i=l.length
  ·exact grow ⟨G.ι id,0,none⟩ l.length hie (Jl _) aa (λj v hj=>by rw[Addr.add_lit];exact hcs j v hj)
  ·have hlt:i<l.length:=by omega
   refine (Fu (G.ι id) 0 l.length l.length i (G.ι id2) 0 C2 (aQ l) (ez x) w hlt (Jl _) aa aa hsl rfl hcs hvs' (lT l) (kz x)).mono ?_;rintro e w' ⟨rfl,rfl⟩;have hgc':l.length+1<=grownCap w (l.length+1) l.length 50:=grownCap_ge _ _ _ _;have hgl:grownCap w (l.length+1) l.length 50<=9223372036854775807:=grownCap_le_maxLen w _ _ _ (by unfold maxLen;omega);generalize grownCap w (l.length+1) l.length 50=C0 at hgc' hgl |-;rw[uH l i hi,kv l i hi];have z1:=hzl (l.length+1 - i);have z2:=hzl (C0 - (l.length+1));generalize Builtin.zeroCells zP.cells (l.length+1 - i)=Z1 at z1 |-;generalize Builtin.zeroCells zP.cells (C0 - (l.length+1))=Z2 at z2 |-;generalize hA0:w.alloc (.cells ((aQ (l.take i)).toArray++Z1++Z2) 50)=A0;have g1:A0.drew.heap[w.heap.size]? =some (.cells (aQ (l.take i)++(Z1.toList++Z2.toList)).toArray 50 (0,0)):=by
    subst hA0;show (w.heap.push _)[w.heap.size]? =_;rw[Array.getElem?_push_size];refine Kd some (Kd (λc=>Go.Obj.cells c _ (0,0)) (Array.ext' ?_));simp
   have k3:A0.heap.size=w.heap.size+1:=by
    rw[<-hA0];show (w.heap.push _).size=_;rw[Array.size_push]
   have k4:A0.os=w.os:=by rw[<-hA0];rfl
   have k5:A0.output=w.output:=by rw[<-hA0];rfl
   have k6:∀b,b<w.heap.size->A0.heap[b]? =w.heap[b]? :=λb hb=>by
    rw[<-hA0];show (w.heap.push _)[b]? =_;rw[K6,Jr (Nat.ne_of_lt hb)]
   obtain ⟨a1,a2,a3,a4,a5⟩:=bN w.heap.size 50 (0,0) (ez x) (i*2) _ A0.drew g1 (by rw[hX,Ju,Ju,eA,z1,z2];omega);obtain ⟨b1,b2,b3,b4,b5⟩:=bN w.heap.size 50 (0,0) (aQ (l.drop i)) ((i+1)*2) _ ((A0.drew.setCells w.heap.size (i*2) (ez x)).drew) a1 (by
    rw[hX,Ju,Ju,JU,JR,eD,Ju,Ju,eA,z1,z2];omega)
   refine fin _ _ (newb _ (((Z1.toList++Z2.toList).drop 2).drop (aQ (l.drop i)).length) C0 50 hgc' hgl (by rw[JR,JR,Ju,z1,z2,eD];omega) ?_ ?_ (b4.trans (a4.trans k4)) (b5.trans (a5.trans k5)) ?_)
   ·have e3:(i+1)*2=(aQ (l.take i)).length+2:=by rw[eA];omega
    have e4:i*2=(aQ (l.take i)).length:=by rw[eA]
    rw[b1,hX,e3,e4,AM rfl,eout]
   ·rw[b3];show _<=(A0.drew.setCells w.heap.size (i*2) (ez x)).heap.size;rw[a3];show _<=A0.heap.size;omega
   ·intro b hb;rw[b2 b (Nat.ne_of_lt hb)];show (A0.drew.setCells w.heap.size (i*2) (ez x)).heap[b]? =_;rw[a2 b (Nat.ne_of_lt hb)];exact k6 b hb
end Go.Proofs.YtjnoobmaedgooaaGreat.Arch
end
section
set_option maxRecDepth 100000
namespace Go.Proofs.YtjnoobmaedgooaaGreat.Arch
open Go Go.Av Go.Proofs Go.Proofs.YtjnoobmaedgooaaGreat.C Go.Proofs.YtjnoobmaedgooaaGreat.Desk Go.Proofs.YtjnoobmaedgooaaGreat.Batch
theorem qf{ns:List (List UInt8)}(hs:ns.Pairwise λa b=>Op.bytesLess a b=true)(nm:List UInt8):∀(f i j:Nat),j - i<=f->i<=j->j<=ns.length->(∀t,t<i->Op.bytesLess (ns.getD t []) nm=true)->(∀t,j<=t->t<ns.length->Op.bytesLess (ns.getD t []) nm=false)->
  fw ns nm f i j<=ns.length/\(∀t,t<fw ns nm f i j->Op.bytesLess (ns.getD t []) nm=true)/\(∀t,fw ns nm f i j<=t->t<ns.length->Op.bytesLess (ns.getD t []) nm=false)
 |0,i,j,h1,h2,h3,h4,h5=>by
  obtain rfl:i=j:=by omega
  exact ⟨h3,h4,h5⟩
 |f+1,i,j,h1,h2,h3,h4,h5=>by
  simp only[fw];by_cases hij:i<j
  ·rw[JC hij];have a1:(i+j)/2<j:=by omega
   have a2:i<=(i+j)/2:=by omega
   have pw:=Ks.1 hs;have gt:∀t (h:t<ns.length),ns.getD t []=ns[t]:=λt h=>by simp[List.getD,Jm h]
   generalize (i+j)/2=c at*
   cases hc:Op.bytesLess (ns.getD c []) nm with
   |true=>
    simp only[Jw];refine qf hs nm f (c+1) j aa aa h3 (λt ht=>?_) h5;by_cases e:t=c
    ·rw[e];exact hc
    ·refine Batch.dm (b:=ns.getD c []) ?_ hc;rw[gt t aa,gt c aa];exact pw t c aa aa aa
   |false=>
    simp only[Jy,Js];refine qf hs nm f i c aa aa aa h4 (λt ht htl=>?_);by_cases e:t=c
    ·rw[e];exact hc
    ·cases hx:Op.bytesLess (ns.getD t []) nm with
     |false=>rfl
     |true=>
      have:=Batch.dm (a:=ns.getD c []) (b:=ns.getD t []) (by rw[gt t htl,gt c aa];exact pw c t aa htl aa) hx;rw[hc] at this;cases this
  ·rw[Jr hij];obtain rfl:i=j:=by omega
   exact ⟨h3,h4,h5⟩
def gG(L:List Pr):List (List UInt8):=L.map Pr.k
def gK(L:List Pr)(k:List UInt8):Nat:=gI (gG L) k
def xc(L:List Pr)(k:List UInt8):Bool:=eU (gG L) k
theorem mF{L:List Pr}{t:Nat}(h:t<L.length):(gG L).getD t []=(L.getD t default).k:=by
 simp[gG,List.getD,Jm h]
theorem yA{L:List Pr}(hs:bZ L)(k:List UInt8):gK L k<=L.length/\(∀t,t<gK L k->Op.bytesLess (L.getD t default).k k=true)/\(∀t,gK L k<=t->t<L.length->Op.bytesLess (L.getD t default).k k=false):=by
 have hl:(gG L).length=L.length:=KL _;have h:=qf (ns:=gG L) (by unfold gG;rw[KN];exact hs) k (gG L).length 0 (gG L).length aa (JJ _) (Jl _) (λt h=>by omega) (λt h1 h2=>by omega);unfold gK gI;rw[hl] at h |-;refine ⟨h.1,λt ht=>?_,λt h1 h2=>?_⟩
 ·rw[<-mF aa];exact h.2.1 t ht
 ·rw[<-mF h2];exact h.2.2 t h1 h2
theorem sI(L:List Pr)(k:List UInt8):xc L k=(decide (gK L k<L.length)&&decide ((L.getD (gK L k) default).k=k)):=by
 have hl:(gG L).length=L.length:=KL _;unfold xc eU gK;rw[hl];by_cases h:gI (gG L) k<L.length
 ·rw[mF h]
 ·rw[Jn h,Kp,Kp]
def gH(L:List Pr)(c:Ch):List Pr:=
 if xc L c.k then (if c.d then L.take (gK L c.k)++L.drop (gK L c.k+1) else L.take (gK L c.k)++⟨(L.getD (gK L c.k) default).k,c.v⟩::L.drop (gK L c.k+1))
 else (if c.d then L else L.take (gK L c.k)++⟨c.k,c.v⟩::L.drop (gK L c.k))
theorem yB{L:List Pr}{k:List UInt8}(h:∀q∈L,¬q.k=k):¬zU L k=0:=by rw[Batch.get_none h];decide
theorem rJ{L:List Pr}(hs:bZ L)(c:Ch)(hc:c.d=false->shut c.k c.v=false):gH L c=jm L c:=by
 obtain ⟨p1,p2,p3⟩:=yA hs c.k;have hh:=sI L c.k;unfold gH jm;generalize gK L c.k=p at*
 have hA:∀x∈L.take p,Lt x.k c.k:=λx hx=>by
  obtain ⟨t,ht,rfl⟩:=Lf.1 hx;have hl:(L.take p).length=p:=by rw[JU];omega
  have:=p2 t aa;rw[xK aa] at this;rw[List.getElem_take];exact this
 by_cases hp:p<L.length
 ·have hd:=Batch.cr hp;have hx:=p3 p (Jl _) hp;have et:L=L.take p++(L.getD p default::L.drop (p+1)):=by rw[<-hd,Kj]
  generalize hX:L.getD p default=x at*
  have hr:bZ (L.take p++x::L.drop (p+1)):=et▸hs;obtain ⟨r1,r2,r3⟩:=dr hr;have hB:∀y∈L.drop (p+1),¬y.k=c.k:=λy hy e=>by
   have:=r3 y hy;unfold Lt at this;rw[e,hx] at this;cases this
  rw[Jt hp,Ko] at hh;by_cases hk:x.k=c.k
  ·rw[Jt hk] at hh;rw[hh];cases hcd:c.d with
   |true=>
    simp only[Jw]
    conv=>rhs;rw[et,<-hk]
    exact (pH hr).symm
   |false=>
    simp only[Jy,Js,Jw];unfold iJ;rw[hc hcd];simp only[Jy,Js]
    conv=>rhs;rw[et]
    rw[cO (.inr ⟨x,_,rfl,hx⟩) _ hA,iI,JC hk,List.nil_append,dS hB,hk]
  ·rw[Jn hk] at hh;rw[hh];simp only[Jy,Js];have hno:∀q∈L,¬q.k=c.k:=λq hq=>by
    rw[et] at hq;rcases JW.1 hq with h|h
    ·exact (hA q h).ne
    ·rcases JB.1 h with rfl|h
     ·exact hk
     ·exact hB q h
   cases hcd:c.d with
   |true=>
    simp only[Jw];unfold nN;rw[Jr (yB hno)]
   |false=>
    simp only[Jy,Js];unfold iJ;rw[hc hcd];simp only[Jy,Js]
    conv=>rhs;rw[et]
    rw[cO (.inr ⟨x,_,rfl,hx⟩) _ hA,dS (λy hy=>by
     rcases JB.1 hy with rfl|h
     ·exact hk
     ·exact hB y h),hd]
 ·have hp2:p=L.length:=by omega
  have hh:xc L c.k=false:=by rw[hh,Jn hp,Kp]
  have ht:L.take p=L:=by rw[hp2,J1]
  have hd:L.drop p=[]:=by rw[hp2,List.drop_length]
  rw[ht] at hA;rw[hh,ht,hd];simp only[Jy,Js];cases hcd:c.d with
  |true=>
   simp only[Jw];unfold nN;rw[Jr (yB λq hq=>(hA q hq).ne)]
  |false=>
   simp only[Jy,Js];unfold iJ;rw[hc hcd];simp only[Jy,Js];have:=cO (k:=c.k) (v:=c.v) (.inl rfl) L hA;rw[JY] at this;rw[this];rfl
theorem yC(p q:Pr):aH Tryz.prog 46 [dv p,dv q] (.int .i64 (kW p.k q.k)):=by
 refine f46.aG af (by simp[aD,aP,dv]) rfl ?_;unfold c46 zz;have cc:=FZ p.k q.k;unfold dv;refine rZ cc ?_;refine aK ?_;exact ar.refl _
def fu(L:List Pr)(o:Option Nat):AV:=match o with|none=> .sl 2 [] (.exact 0)|some k=> .tsl 2 k 0 L.length none
def uI(L:List Pr)(o:Option Nat)(h:H):Prop:=match o with|none=>L=[]|some k=>h.objs k=some (.cells (L.flatMap encA))
theorem Fw(L:List Pr)(i:Nat)(h:i<L.length):((L.flatMap encA).drop (i*2)).take 2=[.str (L.getD i default).k,.str (L.getD i default).v]:=by
 have et:L=L.take i++(L.getD i default::L.drop (i+1)):=by rw[<-Batch.cr h,Kj]
 have e:((L.take i).flatMap encA).length=i*2:=by rw[eC,JU,KB aa]
 conv=>lhs;rw[et]
 rw[List.flatMap_append,<-e,List.drop_left];rfl
theorem G5(F:Nat->Option Av.Obj)(n m:Nat)(L:List Pr)(o:Option Nat)(q:Pr)(hk:uI L o ⟨F,n,[],m⟩)(hn:∀k,o=some k->k<n)(hl:L.length<=1000000):
  aS Tryz.prog 70 [fu L o,dv q,.clo (.func 46) [] []] ⟨F,n,[],m⟩ (.tup [.int .i64 (gK L q.k),.bool (xc L q.k)]) ⟨upd F n (some (.cells [.str q.k,.str q.v])),n+1,[],m⟩:=by
 refine aU.xx f70 af ?_;unfold c70 zz;unfold dv;cases o with
 |none=>
  obtain rfl:L=[]:=hk;have hv:fu [] none= .sl 2 [] (.exact 0):=rfl;have hp:gK [] q.k=0:=rfl;have ht:xc [] q.k=false:=rfl;rw[hv,hp,ht];refine rf0 @Jx.{0} ?_;refine Wp.eX [0,2,4,8] xA7 (λ_:Nat=>[(9,.int .i64 0),(10,.int .i64 0)]) (λ_=>⟨upd F n (some (.cells [.str q.k,.str q.v])),n+1,[],m⟩) (λ_=>True) (λj=>j) 0 trivial rfl ?_ ?_
  ·exact xSb
  intro _ _;have d:decide ((0:Int)<0)=false:=by decide
  refine rn0 (cj2 @Jx.{0} d) ?_;refine Wp.ret ⟨trivial,_,rfl,?_,rfl⟩;exact ar.refl _
 |some k=>
  have ho:F k=some (.cells (L.flatMap encA)):=hk;have hkn:¬(k=n):=by have:=hn k rfl;omega
  have hv:fu L (some k)= .tsl 2 k 0 L.length none:=rfl;rw[hv];have hrl:=eC L;have hcell:=λi hi=>Fw L i hi;have hnl:(gG L).length=L.length:=KL _;have hng:∀i,i<L.length->(gG L).getD i []=(L.getD i default).k:=λi hi=>mF hi;generalize L.flatMap encA=cs at*
  have hbp:gK L q.k=fw (gG L) q.k L.length 0 L.length:=by unfold gK gI;rw[hnl]
  have hbt:=sI L q.k;rw[hbt];generalize gG L=ns at*
  generalize gK L q.k=bp at*
  obtain ⟨nm,qv⟩:=q;simp only at hbp hbt |-;refine fC ?_;refine Wp.eX [0,2,4,8] xA7 (λj:Nat × Nat × Nat=>[(9,.int .i64 (j.2.1:Nat)),(10,.int .i64 (j.2.2:Nat))]) (λ_=>⟨upd F n (some (.cells [.str nm,.str qv])),n+1,[],m⟩) (λj=>j.2.2 - j.2.1<=j.1/\j.2.1<=j.2.2/\j.2.2<=L.length/\fw ns nm j.1 j.2.1 j.2.2=bp) (λj=>j.1) (L.length,0,L.length) ⟨by simp,JJ _,Jl _,hbp.symm⟩ rfl ?_ ?_
  ·exact xSb
  rintro ⟨f,i,j⟩ ⟨a1,a2,a3,a4⟩;simp only at a1 a2 a3 a4;by_cases hc:i<j
  ·have d1:decide ((i:Int)<(j:Int))=true:=Jt aa;have e1:IntKind.i64.wrap ((i:Int)+(j:Int))=((i+j:Nat):Int):=by rw[IntWalk.i64_in _ aa];omega
   have e2:IntKind.u64.wrap ((i+j:Nat):Int)=((i+j:Nat):Int):=IntWalk.u64_in _ aa;have e3:((i+j:Nat):Int).fdiv (2^(min (Int.toNat 1) 64))=(((i+j)/2:Nat):Int):=by
    rw[show min (Int.toNat 1) 64=1 from rfl,Ls _ aa];omega
   have e4:IntKind.i64.wrap (((i+j)/2:Nat):Int)=(((i+j)/2:Nat):Int):=IntWalk.i64_in _ aa;have e5:¬(1:Int)<0:=by omega
   obtain ⟨f,rfl⟩:∃f',f=f'+1:=⟨f - 1,aa⟩;have c1:(i+j)/2<j:=by omega
   have c2:i<=(i+j)/2:=by omega
   have hcl:=hcell ((i+j)/2) aa;have hg:=hng ((i+j)/2) aa;simp only[fw,JC hc] at a4;generalize (i+j)/2=c at*
   have p1:(0:Int)<=(c:Int):=by omega
   have p2:(c:Int)<(L.length:Int):=by omega
   have p3:c*2+2<=cs.length:=by omega
   have cc:=yC (L.getD c default) ⟨nm,qv⟩;unfold dv at cc;rw[hg] at a4;generalize L.getD c default=bb at*
   have hlt:=yn bb.k nm;simp only at cc;generalize kW bb.k nm=r at*
   refine rf0 (cj7 d1 e1 e2 e3 e4 e5 xy) ?_;refine Wp.fB (xAd (cj7 p1 p2 p3 ho hkn hcl @Jq)) ?_;refine aq.mN (by simp only[go_sem,reduceIte,Nat.reduceEqDiff,Nat.reduceAdd,bx];try rfl) al rfl rfl ah xA4 cc ?_;cases hb2:Op.bytesLess bb.k nm with
   |true=>
    rw[hb2] at hlt a4;simp only[Jw] at a4;refine aq.evR (xAe hlt) ?_;refine aq.nil ⟨by simp[aZ,aR,apart,aO],?_⟩;have e6:IntKind.i64.wrap ((c:Int)+1)=((c+1:Nat):Int):=by rw[IntWalk.i64_in _ aa];omega
    refine rf0 hlt ?_;refine ⟨(f,c+1,j),⟨by simp only;omega,by simp only;omega,a3,a4⟩,by simp only;omega,?_⟩;refine aJ.of (bc ?_) (OLe.bX _) (λa ha=>ha) (Jl _) (Jl _);exact dU e6
   |false=>
    rw[hb2] at hlt a4;simp only[Jy,Js] at a4;refine aq.evR (xAe hlt) ?_;refine aq.nil ⟨by simp[aZ,aR,apart,aO],?_⟩;refine rf0 hlt ?_;refine ⟨(f,i,c),⟨by simp only;omega,c2,by simp only;omega,a4⟩,by simp only;omega,?_⟩;refine aJ.of (bc ?_) (OLe.bX _) (λa ha=>ha) (Jl _) (Jl _);exact xSb
  ·obtain rfl:i=j:=by omega
   have hbi:bp=i:=by
    cases f with
    |zero=>exact a4.symm
    |succ f=>simp only[fw,Jr hc] at a4;exact a4.symm
   subst hbi;have d1:decide ((bp:Int)<(bp:Int))=false:=Jn aa;by_cases hlt:bp<L.length
   ·have d2:decide ((bp:Int)<(L.length:Int))=true:=Jt aa;have d3:decide (bp<L.length)=true:=Jt hlt;have hcl:=hcell bp hlt;have p1:(0:Int)<=(bp:Int):=by omega
    have p2:(bp:Int)<(L.length:Int):=by omega
    have p3:bp*2+2<=cs.length:=by omega
    have cc:=yC (L.getD bp default) ⟨nm,qv⟩;unfold dv at cc;simp only at cc;clear hbt;generalize L.getD bp default=bb at*
    have hlt:=yo bb.k nm;generalize kW bb.k nm=r at*
    refine rf0 d1 ?_;refine Wp.fB (xAd (cj8 d2 p1 p2 p3 ho hkn hcl @Jq)) ?_;refine aq.mN (by simp only[go_sem,reduceIte,Nat.reduceEqDiff,Nat.reduceAdd,bx];try rfl) al rfl rfl ah xA4 cc ?_;refine aq.evR (xAe hlt) ?_;refine aq.nil ⟨by simp[aZ,aR,apart,aO],?_⟩;refine Wp.ret ⟨trivial,_,rfl,?_,rfl⟩;rw[d3,Ko];exact ar.refl _
   ·have d2:decide ((bp:Int)<(L.length:Int))=false:=Jn aa;have d3:decide (bp<L.length)=false:=Jn hlt;refine rn0 (cj2 d1 d2) ?_;refine Wp.ret ⟨trivial,_,rfl,?_,rfl⟩;rw[d3,Kp];exact ar.refl _
def iW(c:Ch):Bool:=decide (128<c.k.length)||(!c.d&&decide (200<c.v.length))
def cA:List Pr->List Ch->Option (List Pr)
 |L,[]=>some L
 |L,c::cs=>if iW c then none else cA (gH L c) cs
def jz(m:List Bk)(l:List Ch):AV:=if imB m then (match cA (aF (aI m)) l with|some L=>jy L|none=>uF) else uF
theorem uJ{c:Ch}(h:iW c=false)(hd:c.d=false):shut c.k c.v=false:=by
 unfold iW at h;rw[hd] at h;simpa [shut] using h
theorem rK{L:List Pr}(h:bZ L)(c:Ch):bZ (jm L c):=by
 unfold jm;split
 ·unfold nN;split
  ·exact h.filter _
  ·exact h
 ·exact qX h _ _
theorem Fx{L:List Pr}(h:OkP L)(c:Ch):OkP (jm L c):=by
 intro p hp;unfold jm at hp;split at hp
 ·unfold nN at hp;split at hp
  ·exact h p (Ku.1 hp).1
  ·exact h p hp
 ·rcases tP hp with ⟨rfl,e⟩|e
  ·exact e
  ·exact h p e
theorem qg:∀(cs:List Ch)(L:List Pr),bZ L->(∀c∈cs,iW c=false)->cA L cs=some (jB L cs)
 |[],L,_,_=>rfl
 |c::cs,L,h,hb=>by
  have h0:=hb c af;rw[cA,h0,rJ h c (uJ h0)];simp only[Jy,Js];rw[qg cs _ (rK h c) (λd hd=>hb d (by simp[hd]))];rfl
theorem mG:∀(cs:List Ch){L L':List Pr},bZ L->OkP L->cA L cs=some L'->bZ L'/\OkP L'/\L'.length<=L.length+cs.length
 |[],L,L',h,o,e=>by
  rw[cA] at e;cases e;exact ⟨h,o,by simp⟩
 |c::cs,L,L',h,o,e=>by
  rw[cA] at e;split at e
  ·cases e
  ·rename_i hb;have hb:iW c=false:=by simpa using hb
   rw[rJ h c (uJ hb)] at e;obtain ⟨r1,r3,r2⟩:=mG cs (rK h c) (Fx o c) e;have:=B5 L c;exact ⟨r1,r3,by simp only[List.length_cons];omega⟩
theorem AP{X Y:List Pr}(hX:bZ X)(hY:bZ Y)(oX:OkP X)(oY:OkP Y):∀c∈Batch.differ X Y,iW c=false:=λc hc=>by
 have f:=(se X Y hX hY).1 c hc;unfold iW;cases hd:c.d with
 |true=>
  obtain ⟨-,⟨q,hq,e⟩,-⟩:=f.del hd;have:=oX q hq;simp only[shut,Bool.or_eq_false_iff] at this;rw[<-e,this.1];rfl
 |false=>
  have:=oY _ (f.put hd).1;simp only[shut,Bool.or_eq_false_iff] at this;simp[this.1,this.2]
theorem sJ{X Y:List Pr}(hX:bZ X)(hY:bZ Y)(oX:OkP X)(oY:OkP Y):cA X (Batch.differ X Y)=some Y:=by
 rw[qg _ _ hX (AP hX hY oX oY)];have:=sd X Y [] hX hY oY;simp only[List.nil_append] at this;rw[this]
theorem uK{a b:List Bk}(ha:imB a=true)(hb:imB b=true):jz a (Batch.differ (aF (aI a)) (aF (aI b)))= .tup [bD b,.int .i64 0]:=by
 obtain ⟨x1,x2,-⟩:=dV (aI a);obtain ⟨y1,y2,-⟩:=dV (aI b);unfold jz;rw[ha,JC rfl,sJ x1 y1 x2 y2];exact AG hb
structure PtX(L:List Pr)(o:Option Nat)(h:H):Prop where
 o1:h.objs 1=some (.cells [.sl 3 [] (.exact 0)])
 row:uI L o h
 new:∀k,o=some k->1<k/\k<h.n
 n:1<h.n
 tk:h.toks=[]
theorem G6(x:Pr)(F:Nat->Option Av.Obj)(n m:Nat):∃r h',aS Tryz.prog 72 [.sl 2 [] (.exact 0),.int .i64 0,.sl 2 [dv x] .any] ⟨F,n,[],m⟩ r h'/\(∃k,r= .tsl 2 k 0 1 none/\h'.objs k=some (.cells (encA x))/\n<=k/\k<h'.n/\(∀j,j<n->h'.objs j=F j)/\h'.toks=[]/\n<=h'.n/\m<=h'.m):=by
 refine aU.dF f72 af ?_;unfold c72 dv zz;obtain ⟨xs,hxs⟩:∃xs,xs=[AV.agg [.str x.k,.str x.v]]:=⟨_,rfl⟩;rw[<-hxs];have d1:decide (((xs.length:Nat):Int)=0)=false:=by rw[hxs];rfl
 refine rf0 (cj3 @Jx.{0} @Jp.{0} d1) ?_;refine Wp.BF ?_;refine an.op1 ae xAc ?_;simp only[bH];refine an.op1 ae xAc ?_;simp only[bH];subst hxs;refine an.opT ae (by simp only[jj,go_sem,reduceIte,Nat.reduceEqDiff,Nat.reduceAdd,bx,List.all_cons,List.all_nil,List.length_cons,List.length_nil,Nat.reduceMul,Nat.reduceLeDiff,Nat.reduceLT,Nat.zero_lt_succ,JI,Jw,JO,K3];exact rfl) ?_;simp only[bH];refine an.evF xAc ?_;refine fC ?_;refine Wp.ret ⟨trivial,_,rfl,n,rfl,?_,Jl _,J8 _,λj hj=>?_,rfl,LD _,Jl _⟩
 ·simp[upd,encA,cellsOf]
 ·show upd F n _ j=F j;simp only[upd];rw[Jr aa]
theorem DD{L:List Pr}{i:Nat}(h:i<L.length)(v:List UInt8):(L.flatMap encA).take (i*2+1)++[AV.str v]++(L.flatMap encA).drop (i*2+1+1)=(L.take i++⟨(L.getD i default).k,v⟩::L.drop (i+1)).flatMap encA:=by
 have et:L=L.take i++(L.getD i default::L.drop (i+1)):=by rw[<-Batch.cr h,Kj]
 have e:((L.take i).flatMap encA).length=i*2:=by rw[eC,JU,KB aa]
 conv=>lhs;rw[et]
 rw[List.flatMap_append,List.flatMap_append,Kw,Kw,<-e];generalize (L.take i).flatMap encA=A;generalize (L.drop (i+1)).flatMap encA=D;generalize L.getD i default=x;rw[List.take_append,Kq aa,Nat.add_sub_cancel_left,KI,List.drop_append,KE aa,Nat.add_sub_cancel_left];simp[encA]
def sK:AC:=hdA (tlA (tlA (tlA c24)))
def fU:AC:=lpA (blA (tlA sK))
def uL:AC:=blX (hdA (tlA (tlA fU)))
def Fy:AC:=tlA (tlA uL)
def sL(l:List Ch)(L:List Pr)(o:Option Nat)(j:Nat):Nat->AV:=tm [(4,.ptr 1 0),(6,fu L o),(21,.sl 3 (chs l) .any),(22,.int .i64 l.length),(23,.int .i64 j)]
theorem uM{L:List Pr}{o:Option Nat}{F:Nat->Option Av.Obj}{n m:Nat}{x:Option Av.Obj}{n':Nat}(h:uI L o ⟨F,n,[],m⟩)(hn:∀k,o=some k->k<n):uI L o ⟨upd F n x,n',[],m⟩:=by
 cases o with
 |none=>exact h
 |some k=>
  have:=hn k rfl;show upd F n x k=_;simp only[upd];rw[Jr aa];exact h
theorem G7{l:List Ch}{j:Nat}{L:List Pr}{o:Option Nat}{F:Nat->Option Av.Obj}{n m:Nat}(I:PtX L o ⟨F,n,[],m⟩){c:Nat}{ck cv:List UInt8}{cd:Bool}(hc:F c=some (.cells [.str ck,.str cv,.bool cd]))(hc0:1<c)(hcn:c<n)(hr:bZ L)(hL:L.length<=4000){Q:aC->St->Prop}
  (hQ:∀o' h' s',PtX (gH L ⟨ck,cv,cd⟩) o' h'->aJ s' ⟨sL l (gH L ⟨ck,cv,cd⟩) o' j,h'⟩->Q .normal s'):
  Wp Tryz.prog 87 Fy ⟨tm [(4,.ptr 1 0),(6,fu L o),(9,.ptr c 0),(21,.sl 3 (chs l) .any),(22,.int .i64 l.length),(23,.int .i64 j)],⟨F,n,[],m⟩⟩ Q:=by
 unfold Fy uL fU sK c24 zz;simp only[tlA,hdA,lpA,blA,blX];have hb:=G5 F n m L o ⟨ck,[]⟩ I.row (λk h=>(I.new k h).2) aa;unfold dv at hb;unfold gH at hQ;simp only at hQ hb;have hp:=sI L ck;have hp0:o=none->gK L ck=0:=by
  rintro rfl;have:L=[]:=I.row;rw[this];rfl
 have hple:=(yA hr ck).1;generalize gK L ck=p at*
 obtain ⟨o1,orow,onew,on,-⟩:=I;simp only at o1 onew on;have x1:¬(c=n):=by omega
 have x2:¬(1=n):=by omega
 have nn:n<=n+1:=LD n;have nn2:n+1<=n+1+1:=LD _;refine rg1 hc hb ?_;cases hh:xc L ck with
 |true=>
  rw[hh] at hp hQ;simp only[Jw] at hQ;have hp:=hp.symm;simp only[Jv,JE] at hp;obtain ⟨hpl,hpk⟩:=hp;cases o with
  |none=>
   have:L=[]:=orow;subst this;simp at hpl
  |some k=>
  obtain ⟨k1,k2⟩:=onew k rfl;have fk:F k=some (.cells (L.flatMap encA)):=orow;have hr:fu L (some k)= .tsl 2 k 0 L.length none:=rfl;rw[hr];have x3:¬(k=n):=by omega
  have x4:¬(1=k):=by omega
  cases cd with
  |true=>
   simp only[Jw] at hQ;have hd:=AN L p hpl aa (id:=k) (h:=⟨upd F n (some (.cells [.str ck,.str []])),n+1,[],m⟩) (by simp only[upd];rw[Jr x3];exact fk) rfl;have e1:IntKind.i64.wrap ((p:Int)+1)=(p:Int)+1:=IntWalk.i64_in _ aa;have hout:(L.take p++L.drop (p+1)).length=L.length - 1:=by rw[Ju,JU,JR];omega
   refine rg1 (cj3 hc x1 e1) hd ?_;simp only[aC.inBlock];refine hQ (some (n+1)) _ _ ⟨?_,?_,λk' e=>?_,?_,rfl⟩ (aJ.of (bc ?_) (OLe.bX _) (λx h=>h) (Jl _) (Jl _))
   ·show upd (λj=>if j=k then none else upd F n _ j) (n+1) _ 1=_;simp only[upd];rw[Jr aa,Jr x4,Jr x2];exact o1
   ·simp[uI,H.bI,upd]
   ·cases e;exact ⟨aa,J8 _⟩
   ·show 1<n+1+1;omega
   ·unfold fu;exact dU hout
  |false=>
   simp only[Jy,Js] at hQ;have p1:(0:Int)<=(p:Int):=by omega
   have p2:(p:Int)<(L.length:Int):=by omega
   have hrl:=eC L;have p3:p*2+2<=(L.flatMap encA).length:=by omega
   have p4:p*2+1+1<=(L.flatMap encA).length:=by omega
   have hsa:=DD hpl cv;have hout:(L.take p++⟨(L.getD p default).k,cv⟩::L.drop (p+1)).length=L.length:=by rw[Ju,JU,List.length_cons,JR];omega
   generalize L.flatMap encA=cs at*
   refine rf0 (cj8 hc x1 x3 p1 p2 p3 p4 fk) ?_;simp only[aC.inBlock];refine hQ (some k) _ _ ⟨?_,?_,λk' e=>?_,?_,rfl⟩ (aJ.of (bc ?_) (OLe.bX _) (λx h=>h) (Jl _) (Jl _))
   ·simp only[upd];rw[Jr x4,Jr x2];exact o1
   ·simp only[uI,upd,Jw];rw[hsa]
   ·cases e;exact ⟨k1,Nat.lt_succ_of_lt k2⟩
   ·show 1<n+1;omega
   ·unfold fu;exact dU hout
 |false=>
  rw[hh] at hQ;simp only[Jy,Js] at hQ;cases cd with
  |true=>
   simp only[Jw] at hQ;refine rf0 (cj2 hc x1) ?_;simp only[aC.inBlock];refine hQ o _ _ ⟨?_,uM orow (λk h=>(onew k h).2),λk' e=>?_,?_,rfl⟩ (aJ.of (bc ?_) (OLe.bX _) (λx h=>h) (Jl _) (Jl _))
   ·simp only[upd];rw[Jr x2];exact o1
   ·exact ⟨(onew k' e).1,Nat.lt_succ_of_lt (onew k' e).2⟩
   ·show 1<n+1;omega
   ·exact xSb
  |false=>
   simp only[Jy,Js] at hQ;repeat (first
    |((first|apply Wp.bf|apply Wp.ec);(· simp only[go_sem,reduceIte,Nat.reduceEqDiff,Nat.reduceAdd,bx,ax,Jw,Js,Nat.reduceMul,Nat.reduceLeDiff,hc,x1];exact rfl);refine an.nil ?_)
    |(apply Wp.bJ;(· simp only[go_sem,reduceIte,Nat.reduceEqDiff,Nat.reduceAdd,bx,ax,Jw,Js,Nat.reduceMul,Nat.reduceLeDiff,hc,x1];exact rfl);(· rfl))
    |refine Wp.skip ?_
    |refine Wp.label ?_
    |refine Wp.block ?_
    |refine Wp.exit ?_
    |refine Wp.seq ?_)
   refine Wp.BF ?_;refine an.op1 ae (by simp only[go_sem,reduceIte,Nat.reduceEqDiff,Nat.reduceAdd,bx,ax,Jw,Js,Nat.reduceMul,Nat.reduceLeDiff,hc,x1];exact rfl) ?_;simp only[bH];refine an.op1 ae (by simp only[go_sem,reduceIte,Nat.reduceEqDiff,Nat.reduceAdd,bx,ax,Jw,Js,Nat.reduceMul,Nat.reduceLeDiff,hc,x1];exact rfl) ?_;simp only[bH];refine an.op1 ae (by simp only[go_sem,reduceIte,Nat.reduceEqDiff,Nat.reduceAdd,bx,ax,Jw,Js,Nat.reduceMul,Nat.reduceLeDiff,hc,x1];exact rfl) ?_;simp only[bH];refine an.op1 ae (by simp only[go_sem,reduceIte,Nat.reduceEqDiff,Nat.reduceAdd,bx,ax,Jw,Js,Nat.reduceMul,Nat.reduceLeDiff,hc,x1];exact rfl) ?_;simp only[bH];refine an.op1 ae (by simp only[go_sem,reduceIte,Nat.reduceEqDiff,Nat.reduceAdd,bx,ax,Jw,Js,Nat.reduceMul,Nat.reduceLeDiff,hc,x1];exact rfl) ?_;simp only[bH];refine an.op1 ae (by simp only[go_sem,reduceIte,Nat.reduceEqDiff,Nat.reduceAdd,bx,ax,Jw,Js,Nat.reduceMul,Nat.reduceLeDiff,hc,x1];exact rfl) ?_;simp only[bH];refine an.op1 ae (by simp only[go_sem,reduceIte,Nat.reduceEqDiff,Nat.reduceAdd,bx,ax,Jw,Js,Nat.reduceMul,Nat.reduceLeDiff,hc,x1];exact rfl) ?_;simp only[bH];cases o with
   |none=>
    have hL0:L=[]:=orow;subst hL0;obtain rfl:=hp0 rfl;obtain ⟨r,h',hi,k,rfl,q1,q2,q3,q4,q5,q6,q7⟩:=G6 ⟨ck,cv⟩ (upd F n (some (.cells [.str ck,.str []]))) (n+1) m;refine an.op1 ae xAc ?_;simp only[bH];refine an.gP xA2 (by simp only[go_sem,reduceIte,Nat.reduceEqDiff,Nat.reduceAdd,bx,List.map];exact aw.cons (ar.refl _) (aw.cons (ar.refl _) (aw.cons ar.cap aw.nil))) ⟨q6,q7⟩ (hi) ?_;refine an.evF xAc ?_;refine an.nil ?_;simp only[aC.inBlock];refine hQ (some k) h' _ ⟨?_,?_,λk' e=>?_,?_,q5⟩ (aJ.of (bc ?_) (OLe.bX _) (λx h=>h) (Jl _) (Jl _))
    ·rw[q4 1 aa];simp only[upd];rw[Jr x2];exact o1
    ·show h'.objs k=_;rw[q1];rfl
    ·cases e;exact ⟨aa,q3⟩
    ·omega
    ·exact dU @fu.eq_1
   |some k=>
    obtain ⟨k1,k2⟩:=onew k rfl;have fk:F k=some (.cells (L.flatMap encA)):=orow;have hr:fu L (some k)= .tsl 2 k 0 L.length none:=rfl;have x3:¬(k=n):=by omega
    have x4:¬(1=k):=by omega
    rw[hr];refine an.opT ae (by simp only[jj,go_sem,reduceIte,Nat.reduceEqDiff,Nat.reduceAdd,bx,List.all_cons,List.all_nil,JM,J4,List.length_cons,List.length_nil,Kw,List.flatMap_nil,cellsOf,JY,Nat.reduceMul,Nat.reduceLeDiff,JI,Jw,JO,K3];exact rfl) ?_;simp only[bH];have hi:=AO L p ⟨ck,cv⟩ hple aa (id:=k) (id2:=n+1) aa (h:=⟨upd (upd F n (some (.cells [.str ck,.str []]))) (n+1) (some (.cells [.str ck,.str cv])),n+1+1,[],m⟩) (by
     simp only[upd];rw[Jr aa,Jr x3];exact fk) (by simp[upd,encA]) rfl
    have nn3:n+1+1<=n+1+1+1:=LD _;refine an.gP xA2 xAb (by exact ⟨nn3,Jl _⟩) (hi) ?_;refine an.evF xAc ?_;refine an.nil ?_;have hout:(L.take p++⟨ck,cv⟩::L.drop p).length=L.length+1:=by rw[Ju,JU,List.length_cons,JR];omega
    simp only[aC.inBlock];refine hQ (some (n+1+1)) _ _ ⟨?_,?_,λk' e=>?_,?_,rfl⟩ (aJ.of (bc ?_) (OLe.bX _) (λx h=>h) (Jl _) (Jl _))
    ·simp only[H.bI,upd];rw[Jr aa,Jr x4,Jr aa,Jr x2];exact o1
    ·simp[uI,H.bI,upd]
    ·cases e;exact ⟨aa,J8 _⟩
    ·show 1<n+1+1+1;omega
    ·unfold fu;exact dU hout
theorem kC:∀(a b:List Ch)(L:List Pr),cA L (a++b)=(cA L a).bind λL'=>cA L' b
 |[],b,L=>rfl
 |c::a,b,L=>by
  simp only[List.cons_append,cA];split
  ·rfl
  ·exact kC a b _
theorem sM{X L:List Pr}{l:List Ch}{j:Nat}(hj:j<l.length)(h:cA X (l.take j)=some L):cA X (l.take (j+1))=(if iW (l.getD j default) then none else some (gH L (l.getD j default))):=by
 rw[Batch.iF hj,kC,h];simp only[Option.bind_some,cA]
theorem uN{X:List Pr}{l:List Ch}{j:Nat}(h:cA X (l.take j)=none):cA X l=none:=by
 conv=>lhs;rw[<-Kj j l]
 rw[kC,h];rfl
theorem Ji(t:Tm)(h:H)(id i:Nat){sz:Nat}{rows:List (List AV)}{c:Option Nat}(hr:∀x∈rows,x.length=sz)(ho:h.objs id=some (.cells rows.flatten))(hi:t i= .tsl sz id 0 rows.length c):
  aJ ⟨t,h⟩ ⟨upd (λj=>unT h (λk=>decide (k=id)) (t j)) i (.sl sz (rows.map .agg) .any),h.drop λk=>decide (k=id)⟩ where
 n:=Jl _
 m:=Jl _
 go:=λN G w a r _=>⟨G.frz h _,aV _,⟨r.size,λj=>by
  simp only[upd];by_cases e:j=i
  ·subst e;rw[JC rfl];have:=r.t j;simp only[hi] at this;exact o9 r.h hr ho af this
  ·rw[Jr e];exact oh r.h _ _ _ (r.t j),ml r.h _,r.df.mono (aV _)⟩⟩
theorem Fz{l:List Ch}{j:Nat}(hj:j<l.length)(hll:l.length<=1000000){L:List Pr}{o:Option Nat}{F:Nat->Option Av.Obj}{n m:Nat}(I:PtX L o ⟨F,n,[],m⟩)(hr:bZ L)(hL:L.length<=4000){Q:aC->St->Prop}
  (hbad:iW (l.getD j default)=true->∀s',s'.t 4= .ptr 1 0->s'.t 5= .int .i64 4->s'.h.objs 1=some (.cells [.sl 3 [] (.exact 0)])->Q .ret s')
  (hgo:iW (l.getD j default)=false->∀o' h' s',PtX (gH L (l.getD j default)) o' h'->aJ s' ⟨sL l (gH L (l.getD j default)) o' (j+1),h'⟩->Q .normal s'):
  Wp Tryz.prog 87 fU ⟨sL l L o j,⟨F,n,[],m⟩⟩ Q:=by
 have cut:fU= .seq (hdA fU) (.seq (hdA (tlA fU)) (.seq (.block 1 (.seq (hdA uL) (.seq (hdA (tlA uL)) Fy))) (tlA (tlA (tlA fU))))):=rfl;rw[cut];obtain ⟨D,hD⟩:∃D,D=Fy:=⟨_,rfl⟩;rw[<-hD];unfold uL fU sK c24 sL zz;simp only[tlA,hdA,lpA,blA,blX];obtain ⟨g1,g2,g3,e1⟩:=gf hj (JT hll ah);have hat:=tL l j .any hj;have len:=dp l;have W:=λ{c:Nat} {F:Nat->Option Av.Obj} {n m:Nat} {ck cv:List UInt8} {cd:Bool} (I:PtX L o ⟨F,n,[],m⟩) (hc:F c=some (.cells [.str ck,.str cv,.bool cd])) (hc0:1<c) (hcn:c<n) (Q:aC->St->Prop) hQ=>G7 (l:=l) (j:=j) I hc hc0 hcn hr hL (Q:=Q) hQ;rw[<-hD] at W;generalize l.getD j default=c at*
 obtain ⟨ck,cv,cd⟩:=c;unfold pz at hat;obtain ⟨o1,orow,onew,on,-⟩:=I;simp only at o1 onew on;have n1:¬(1=n):=by omega
 have J:PtX L o ⟨upd F n (some (.cells [.str ck,.str cv,.bool cd])),n+1,[],m⟩:=⟨by simp only[upd];rw[Jr n1];exact o1,uM orow (λk h=>(onew k h).2),λk h=>⟨(onew k h).1,Nat.lt_succ_of_lt (onew k h).2⟩,Nat.lt_succ_of_lt on,rfl⟩;have hfin:∀(Q':aC->St->Prop),(∀s,Q' .normal s=Wp Tryz.prog 87 (.reg [⟨some 82,none,.bin .add (.t 23) (.c (.int .i64 1))⟩,⟨some 23,none,.mov (.t 82)⟩] none) s Q)->iW ⟨ck,cv,cd⟩=false->∀o' h' s',PtX (gH L ⟨ck,cv,cd⟩) o' h'->aJ s' ⟨sL l (gH L ⟨ck,cv,cd⟩) o' j,h'⟩->Q' .normal s':=by
  intro Q' hQ' hb o' h' s' K hs;rw[hQ'];refine Wp.le hs ?_;unfold sL;refine fC ?_;refine hgo hb o' h' _ K (aJ.of (bc ?_) (OLe.bX _) (λx h=>h) (Jl _) (Jl _));exact dU e1
 cases b1:decide ((128:Int)<(ck.length:Int)) with
 |true=>
  have hb:iW ⟨ck,cv,cd⟩=true:=by
   unfold iW;simp only[JE] at b1;simp only[J7,JE];exact .inl aa
  refine rf0 (cj9 g1 g2 g3 @len hat @Jq b1 n1 o1) ?_;refine Wp.ret ?_;simp only[aC.andThen,aC.inBlock];exact hbad hb _ rfl rfl (by simp[upd])
 |false=>
  have hend:∀(s:St)(Q':aC->St->Prop),(∀s,Q' .normal s=Wp Tryz.prog 87 (.reg [⟨some 82,none,.bin .add (.t 23) (.c (.int .i64 1))⟩,⟨some 23,none,.mov (.t 82)⟩] none) s Q)->iW ⟨ck,cv,cd⟩=false->aJ s ⟨tm [(4,.ptr 1 0),(6,fu L o),(9,.ptr n 0),(21,.sl 3 (chs l) .any),(22,.int .i64 l.length),(23,.int .i64 j)],⟨upd F n (some (.cells [.str ck,.str cv,.bool cd])),n+1,[],m⟩⟩->Wp Tryz.prog 87 D s Q':=λs Q' hQ' hb hs=>
   Wp.le hs (W J (by simp[upd]) aa (J8 n) _ (λo' h' s' K hs=>hfin Q' hQ' hb o' h' s' K hs))
  have hck:¬128<ck.length:=by
   have:=JZ b1;omega
  cases cd with
  |true=>
   have hb:iW ⟨ck,cv,true⟩=false:=by simp[iW,hck]
   refine rf0 (cj7 g1 g2 g3 @len hat @Jq b1) ?_;refine hend _ _ (λs=>rfl) hb (aJ.of (bc ?_) (by rw[sF];exact OLe.bX _) (λx h=>h) (Jl _) (Jl _));exact xSb
  |false=>
   cases b2:decide ((200:Int)<(cv.length:Int)) with
   |true=>
    have hb:iW ⟨ck,cv,false⟩=true:=by
     have:=JL b2;have:200<cv.length:=by omega
     simp[iW,this]
    refine rf0 (jD g1 g2 g3 @len hat @Jq b1 b2 n1 o1) ?_;refine Wp.ret ?_;simp only[aC.andThen,aC.inBlock];exact hbad hb _ rfl rfl (by simp[upd])
   |false=>
    have hb:iW ⟨ck,cv,false⟩=false:=by
     have:=JZ b2;have:¬200<cv.length:=by omega
     simp[iW,hck,this]
    refine rf0 (cj8 g1 g2 g3 @len hat @Jq b1 b2) ?_;refine hend _ _ (λs=>rfl) hb (aJ.of (bc ?_) (by rw[sF];exact OLe.bX _) (λx h=>h) (Jl _) (Jl _));exact xSb
def iq:AC:=tlA (tlA c24)
def QP(r:AV):aC->St->Prop:=λe s'=>gx e/\∃q,fS [.cell 4 (some 1),.tmp 5] s'.t s'.h=some q/\ar q r
def DE(X:List Pr)(l:List Ch):AV:=match cA X l with|some L=>jy L|none=>uF
def yD:AC:=tlA (tlA iq)
theorem FA{L:List Pr}{o:Option Nat}{F:Nat->Option Av.Obj}{n m:Nat}(I:PtX L o ⟨F,n,[],m⟩)(hl:L.length<=4000)(hk:OkP L):
  Wp Tryz.prog 87 yD ⟨tm [(4,.ptr 1 0),(6,fu L o)],⟨F,n,[],m⟩⟩ (QP (jy L)):=by
 have c1:=Fk L hl (λp hp=>by
  have:=hk p hp;simp only[shut,Bool.or_eq_false_iff,Lq] at this;omega) (λp hp=>by
  have:=hk p hp;simp only[shut,Bool.or_eq_false_iff,Lq] at this;omega)
 obtain ⟨G,hG,hle⟩:∃G,G 1=some (.cells [.sl 3 [] (.exact 0)])/\aJ ⟨tm [(4,.ptr 1 0),(6,fu L o)],⟨F,n,[],m⟩⟩ ⟨tm [(4,.ptr 1 0),(6,.sl 2 (prs L) .any)],⟨G,n,[],m⟩⟩:=by
  cases o with
  |none=>
   have:L=[]:=I.row;subst this;refine ⟨F,I.o1,aJ.of (bc ?_) (OLe.bX _) (λx h=>h) (Jl _) (Jl _)⟩;unfold fu;simp only[aN,go_sem,reduceIte,Nat.reduceEqDiff,Nat.reduceAdd,bx];and_intros<;>first|exact trivial|exact ar.refl _|exact ar.any _|exact ar.cap|(refine ar.int ?_;omega)
  |some k=>
   obtain ⟨k1,k2⟩:=I.new k rfl;have fk:F k=some (.cells (L.flatMap encA)):=I.row;have hf:(L.map encA).flatten=L.flatMap encA:=by simp[List.flatMap]
   have x4:¬(1=k):=by omega
   have e:=Ji (tm [(4,.ptr 1 0),(6,fu L (some k))]) ⟨F,n,[],m⟩ k 6 (sz:=2) (rows:=L.map encA) (c:=none) (λx hx=>by
    obtain ⟨p,-,rfl⟩:=JF.1 hx;rfl) (by rw[hf];exact fk) (by rw[KL];rfl)
   refine ⟨λj=>if decide (j=k)=true then none else F j,?_,aJ.trans e (aJ.of (bc ?_) (OLe.bX _) (λx h=>h) (Jl _) (Jl _))⟩
   ·simp only[JE];rw[Jr x4];exact I.o1
   ·have hp:(L.map encA).map AV.agg=prs L:=by simp[prs,dv,encA]
    simp only[aN,go_sem,reduceIte,Nat.reduceEqDiff,Nat.reduceAdd,bx,unT,JE,x4,hp];and_intros<;>first|exact trivial|exact ar.refl _|exact ar.any _|exact ar.refl _|(refine ar.int ?_;omega)
 refine Wp.le hle ?_;unfold yD iq c24 QP zz;simp only[tlA];cases ho:gF L with
 |false=>
  have hI:jy L=uF:=by unfold jy;rw[Jr (by rw[ho];simp)]
  rw[hI] at c1 |-;unfold uF at*
  refine rf1 hG c1 ?_;refine Wp.ret ⟨trivial,_,rfl,?_⟩;exact ar.refl _
 |true=>
  have hI:jy L= .tup [bD (qq L),.int .i64 0]:=by unfold jy;rw[JC ho]
  rw[hI] at c1 |-;unfold bD at*
  refine rf1 hG c1 ?_;refine Wp.ret ⟨trivial,_,rfl,?_⟩;exact ar.refl _
set_option maxHeartbeats 2000000 in
theorem DF{X:List Pr}{l:List Ch}(hl:l.length<=2500)(hX:X.length<=1500)(hr:bZ X)(hk:OkP X){o:Option Nat}{F:Nat->Option Av.Obj}{n m:Nat}(I:PtX X o ⟨F,n,[],m⟩):
  Wp Tryz.prog 87 iq ⟨tm [(1,.sl 3 (chs l) .any),(4,.ptr 1 0),(6,fu X o),(7,.int .i64 0)],⟨F,n,[],m⟩⟩ (QP (DE X l)):=by
 have cut:iq= .seq (hdA iq) (.seq (.seq (hdA (hdA (tlA iq))) (.block 0 (.loop fU))) yD):=rfl;rw[cut];obtain ⟨T,hT⟩:∃T,T=yD:=⟨_,rfl⟩;rw[<-hT];obtain ⟨D,hD⟩:∃D,D=fU:=⟨_,rfl⟩;rw[<-hD];unfold iq c24 zz;simp only[tlA,hdA];have len:=dp l;refine rf0 @len ?_;refine Wp.le (s':=⟨sL l X o 0,⟨F,n,[],m⟩⟩) (aJ.of (bc ?_) (OLe.bX _) (λx h=>h) (Jl _) (Jl _)) ?_
 ·exact xSb
 unfold sL;refine Wp.eX [4,21,22] xA7 (λb:Nat × List Pr × Option Nat × H=>[(6,fu b.2.1 b.2.2.1),(23,.int .i64 (b.1:Nat))]) (λb=>b.2.2.2)
  (λb=>b.1<=l.length/\cA X (l.take b.1)=some b.2.1/\PtX b.2.1 b.2.2.1 b.2.2.2) (λb=>l.length - b.1) (0,X,o,⟨F,n,[],m⟩) ⟨JJ _,rfl,I⟩ rfl ?_ ?_
 ·exact xSb
 rintro ⟨j,L,o,⟨F,n,K,m⟩⟩ ⟨hj,hp,I⟩;simp only at hj hp I;obtain rfl:K=[]:=I.tk;obtain ⟨r1,r2,r3⟩:=mG _ hr hk hp;rw[JU,KB hj] at r3;by_cases hc:j<l.length
 ·have hs:=sM hc hp;rw[hD];refine Wp.le (s':=⟨sL l L o j,⟨F,n,[],m⟩⟩) (aJ.of (bc ?_) (OLe.bX _) (λx h=>h) (Jl _) (Jl _)) (Fz hc aa I r1 aa ?_ ?_)
  ·exact xSb
  ·intro hb s' t4 t5 t1;rw[hb] at hs;have hn:cA X l=none:=uN (j:=j+1) (by rw[hs];rfl);simp only[aC.andThen,aC.inBlock];unfold QP DE;rw[hn];refine ⟨trivial,.tup [.agg [.sl 3 [] (.exact 0)],.int .i64 4],?_,ar.tup (aw.cons (ar.agg (aw.cons ar.cap aw.nil)) (aw.refl _))⟩;simp only[fS,rvs,rv,t4,t5,t1];rfl
  ·intro hb o' h' s' K hs';rw[hb] at hs;simp only[aC.andThen];refine ⟨(j+1,_,o',h'),⟨hc,hs,K⟩,K9 hc (J8 _),aJ.trans hs' (aJ.of (bc ?_) (OLe.bX _) (λx h=>h) (Jl _) (Jl _))⟩;exact xSb
 ·have hj2:j=l.length:=by omega
  subst hj2;rw[J1] at hp;have g1:=kf l.length;have cutr:fU= .seq (hdA fU) (.seq (hdA (tlA fU)) (tlA (tlA fU))):=rfl;rw[hD,cutr];generalize hR:tlA (tlA fU)=R;unfold fU sK c24 zz;simp only[tlA,hdA,lpA,blA];refine rf0 g1 ?_;rw[hT];have W:=FA I aa r2;have ho:DE X l=jy L:=by unfold DE;rw[hp]
  rw[ho];refine Wp.le (aJ.of (bc ?_) (OLe.bX _) (λx h=>h) (Jl _) (Jl _)) W;exact xSb
theorem G8{f:FuncId}{args:List AV}{a:Nat}{l:List Pr}{e:Int}{h':H}(hp:mO args)(hc:aS Tryz.prog f args (H0 0 0) (.tup [.tsl 2 a 0 l.length none,.int .i64 e]) h')(ha:h'.objs a=some (.cells (l.flatMap encA)))(n m:Nat):
  aS Tryz.prog f args (H0 n m) (.tup [.tsl 2 (n+a) 0 l.length none,.int .i64 e]) (.only (upd av (n+a) (some (.cells (l.flatMap encA)))) [] (n+h'.n) (m+h'.m)):=by
 intro G w vs hv R F;let G0:aE:={G with dom:=λ_=>False,tdom:=λ_=>False}
 refine (hc G0 w vs (hp G G0 w vs rfl rfl hv) fJ ⟨λ_ _ _ h=>h,λ_ _ _ h=>h⟩).mono ?_;rintro e w' ⟨v,G',rfl,T,R',V⟩;obtain ⟨q1,q2,q3,ws,rest,T0,fr,y1,y2,y3,y4⟩:=R'.obj a _ ha;have hlt:a<h'.n:=by
  rcases T.dom_new a q1 with h|h
  ·exact absurd h (by simp[G0])
  ·exact h.2
 have hnd:¬G.dom (n+a):=F.1 (n+a) (by simp[H0,H.only]) (by simp[H.only];omega);have hO0:∀B,¬(H0 0 0).O G0 B:=λB=>eI B;have hT0:∀B,¬(H0 0 0).T G0 B:=λB ⟨t,ht,_⟩=>by simp[H0,H.only] at ht
 have hT:∀B,¬(H0 n m).T G B:=λB ⟨t,ht,_⟩=>by simp[H0,H.only] at ht
 let G2:aE:={G' with dom:=λi=>G.dom i\/i=n+a,ι:=λi=>if i=n+a then G'.ι a else G.ι i,tdom:=G.tdom,τ:=G.τ}
 have hι:G2.ι (n+a)=G'.ι a:=JC rfl;have hobj:∀j o,(H.only (upd av (n+a) (some (.cells (l.flatMap encA)))) [] (n+h'.n) (m+h'.m)).objs j=some o->j=n+a/\o= .cells (l.flatMap encA):=by
  intro j o hj;simp only[H.only,upd,av] at hj;split at hj
  ·rename_i e;cases hj;exact ⟨e,rfl⟩
  ·cases hj
 refine ⟨v,G2,rfl,?_,?_,?_⟩
 ·constructor
  ·exact λid x=> .inl x
  ·rintro id (x|rfl)
   ·exact .inl x
   ·exact .inr ⟨by simp[H0,H.only],by simp[H.only];omega⟩
  ·intro id x;have:id≠n+a:=by rintro rfl;exact hnd x
   exact Jr this
  ·exact λ_ x=>x
  ·exact λ_=> .inl
  ·exact λ_ _=>rfl
  ·simp[H0,H.only]
  ·simp[H0,H.only]
  ·exact T.size_le
  ·exact T.os
  ·exact T.output
  ·exact T.form
  ·exact λB hB _ _=>T.keep B hB (hO0 B) (hT0 B)
  ·exact λB hB _=>T.own_keep B hB (hO0 B)
  ·exact λB hB _ _=>T.lim_keep B hB (hO0 B) (hT0 B)
  ·exact λB hB x=>absurd x (hT B)
  ·rintro B hB ⟨id,o,ho,e⟩;obtain ⟨rfl,-⟩:=hobj id o ho;rw[hι] at e;exact absurd (T.O_new B hB ⟨a,_,ha,e⟩) (hO0 B)
  ·rintro B _ ⟨t,ht,_⟩;simp[H.only] at ht
  ·intro j o ho;obtain ⟨rfl,-⟩:=hobj j o ho;exact .inr ⟨by simp[H0,H.only],by simp[H.only];omega⟩
  ·intro t ht;simp[H.only] at ht
 ·constructor
  ·intro j o ho;obtain ⟨rfl,rfl⟩:=hobj j o ho;rw[hι];exact ⟨.inr rfl,q2,q3,ws,rest,T0,fr,y1,by rw[mv _ _ _ _ y2];exact jY _ _ _,y3,y4⟩
  ·intro i j o o' hi hj _;rw[(hobj i o hi).1,(hobj j o' hj).1]
  ·intro t ht;simp[H.only] at ht
  ·intro t ht;simp[H.only] at ht
 ·simp only[au,ay] at V |-;obtain ⟨us,e1,v1,us1,e2,⟨-,e3⟩,v2,us2,e4,e5,e6⟩:=V;exact ⟨us,e1,v1,us1,e2,⟨.inr rfl,by rw[hι];exact e3⟩,v2,us2,e4,e5,e6⟩
theorem DG(a:List Bk)(hf:Few a)(hF:imB a=true->(aI a).length<=100000)(ha:imB a=true)(F:Nat->Option Av.Obj)(n m:Nat):
  ∃o h',aS Tryz.prog 13 [bD a] ⟨F,n,[],m⟩ (.tup [fu (aF (aI a)) o,.int .i64 0]) h'/\uI (aF (aI a)) o h'/\h'.toks=[]/\(∀j,j<n->h'.objs j=F j)/\(∀k,o=some k->n<=k/\k<h'.n)/\n<=h'.n/\m<=h'.m:=by
 have hE:imE a=0:=by unfold imE;rw[JC ha]
 obtain ⟨r,h1,hc,hQ⟩:=yr a hf hF (Q:=λr h'=>(aF (aI a)=[]/\r= .tup [.sl 2 [] (.exact 0),.int .i64 0])\/∃k,r= .tup [.tsl 2 k 0 (aF (aI a)).length none,.int .i64 0]/\h'.objs k=some (.cells ((aF (aI a)).flatMap encA))/\k<h'.n)
  (λh e=>by rw[JC ha] at e;rw[hE];exact .inl ⟨e,rfl⟩) (λ_ k h e1 e2 e3=> .inr ⟨k,rfl,e1,e3⟩)
 have hv:mO [bD a]:=cm _ (by simp[aD,cJ]);have hsub:(H0 n m).sub ⟨F,n,[],m⟩:=⟨λj p h=>by simp[H0,H.only,av] at h,λt h=>by simp[H0,H.only] at h⟩;have hno:∀j,j<n->∀n2,¬(((H0 n m).objs j).isSome=true\/(H0 n m).n<=j/\j<n2):=by
  rintro j hj n2 (h|⟨h,-⟩)
  ·simp[H0,H.only,av] at h
  ·exact absurd hj (Nat.not_lt.2 h)
 generalize aF (aI a)=X at*
 rcases hQ with ⟨rfl,rfl⟩|⟨k,rfl,e1,e2⟩
 ·have hpc:=hc.tl hv (ar.refl _) (dA _ rfl);exact ⟨none,_,aS.frame hsub rfl rfl (Jl _) (Jl _) (hpc n m),rfl,rfl,λj hj=>Jr (hno j hj _),(by intro k h;cases h),Jl _,Jl _⟩
 ·have hs:=G8 hv hc e1 n m;exact ⟨some (n+k),_,aS.frame hsub rfl rfl (Nat.le_add_right _ _) (Nat.le_add_right _ _) hs,(JC (.inr ⟨Nat.le_add_right n k,show n+k<n+h1.n by omega⟩)).trans (by simp[H.only,upd]),rfl,λj hj=>Jr (hno j hj _),λk' (h:some (n+k)=some k')=>by
   cases h;exact ⟨Nat.le_add_right _ _,show n+k<n+h1.n by omega⟩,Nat.le_add_right _ _,Nat.le_add_right _ _⟩
set_option maxHeartbeats 2000000 in
theorem FB(a:List Bk)(l:List Ch)(hf:Few a)(hF:imB a=true->(aI a).length<=1500)(hl:l.length<=2500):aH Tryz.prog 24 [bD a,.sl 3 (chs l) .any] (jz a l):=by
 have hpu:aP (jz a l)=true:=by
  have hi:∀L,aP (jy L)=true:=λL=>by
   unfold jy;split
   ·simp[aP,aD,bw,bD,Av.bA (λb=>jq b),bks]
   ·rfl
  unfold jz;split
  ·split
   ·exact hi _
   ·rfl
  ·rfl
 refine f24.aG af (by simp[aD,aP,bw,cJ,pA]) hpu ?_;have cut:c24= .seq (hdA c24) (.seq (hdA (tlA c24)) iq):=rfl;rw[cut];obtain ⟨T,hT⟩:∃T,T=iq:=⟨_,rfl⟩;cases ha:imB a with
 |false=>
  have pa:=iV a hf λh=>by rw[ha] at h;cases h
  unfold imE at pa;rw[ha] at pa;have hx:jz a l=uF:=by unfold jz;rw[ha];rfl
  rw[hx];simp only[Jy,Js] at pa;unfold iq c24 zz;simp only[hdA,tlA];unfold bD at*
  generalize bks a=ba at*
  refine rZ pa ?_;refine Wp.ret ⟨trivial,_,rfl,?_⟩;exact ar.tup (aw.cons (ar.agg (aw.cons ar.cap aw.nil)) (aw.refl _))
 |true=>
  have hx:jz a l=DE (aF (aI a)) l:=by unfold jz;rw[ha];rfl
  rw[hx,<-hT];obtain ⟨x1,x2,x3⟩:=dV (aI a);have hF:=hF ha;obtain ⟨o,h',hc,q1,q2,q3,q4,q5,q6⟩:=DG a hf (λ_=>by omega) ha (upd (upd av 0 (some (.cells [.sl 3 (bks a) .any]))) 1 (some (.cells [.sl 3 [] (.exact 0)]))) 2 0;have W:=λI=>DF (l:=l) hl aa x1 x2 (o:=o) (F:=h'.objs) (n:=h'.n) (m:=h'.m) I;rw[<-hT] at W;unfold c24 zz;simp only[hdA,tlA];obtain ⟨F',n',K',m'⟩:=h';simp only at q1 q2 q3 q4 q5 q6 W;subst q2;unfold bD at*
  generalize bks a=ba at*
  refine I4 hc ?_;refine Wp.le (aJ.of (bc ?_) (OLe.bX _) (λx h=>h) (Jl _) (Jl _)) (W ⟨(q3 1 aa).trans (by simp[upd]),q1,λk h=>⟨by have:=(q4 k h).1;omega,(q4 k h).2⟩,by show 1<n';omega,rfl⟩);exact xSb
theorem oG{m:List Bk}(h:sG m=true):Few m/\(imB m=true->(aI m).length<=1020):=by
 have hf:=JL h;refine ⟨λb hb=>?_,λhi=>?_⟩
 ·have:b.l.length<=gJ m:=G4 (JF.2 ⟨b,hb,rfl⟩);omega
 ·have:=qd hi;unfold gJ at hf;omega
theorem rL(a b:List Bk)(ha:sG a=true)(hb:sG b=true):aH Tryz.prog 23 [bD a,bD b] (.tup [.sl 3 (chs (if imB a&&imB b then Batch.differ (aF (aI a)) (aF (aI b)) else [])) .any,.int .i64 (if imB a&&imB b then 0 else 4)]):=by
 refine f23.aG af (by simp[aD,aP,bw,cJ]) (by simp[aP,aD,bw,pA]) ?_;unfold c23 zz;obtain ⟨a1,a2⟩:=oG ha;obtain ⟨b1,b2⟩:=oG hb;have pa:=iV a a1 λh=>by have:=a2 h;omega
 have pb:=iV b b1 λh=>by have:=b2 h;omega
 have nil:ar (.tup [.sl 3 [] (.exact 0),.int .i64 4]) (.tup [.sl 3 (chs []) .any,.int .i64 4]):=ar.tup (aw.cons ar.cap (aw.refl _));unfold imE at pa pb;cases ha:imB a with
 |false=>
  rw[ha] at pa;simp only[Jy,Js,Kp] at pa |-;unfold bD at*
  generalize bks a=ba at*
  generalize bks b=bb at*
  refine rn1 KQ pa ?_;refine aK ?_;exact nil
 |true=>
  cases hb:imB b with
  |false=>
   rw[ha] at pa;rw[hb] at pb;simp only[Jy,Js,Jw,KU] at pa pb |-;unfold bD at*
   generalize bks a=ba at*
   generalize bks b=bb at*
   generalize prs (aF (aI a))=xa at*
   refine rn2 KQ pa pb ?_;refine aK ?_;exact nil
  |true=>
   obtain ⟨x1,x2,x3⟩:=dV (aI a);obtain ⟨y1,y2,y3⟩:=dV (aI b);have dd:=tM (aF (aI a)) (aF (aI b)) (by have:=a2 ha;omega) (by have:=b2 hb;omega);have ho:dB (aF (aI a)) (aF (aI b))=Batch.differ (aF (aI a)) (aF (aI b)):=by
    unfold dB;rw[pF x1,pF y1];rfl
   rw[ho] at dd;rw[ha] at pa;rw[hb] at pb;simp only[Jw,K3] at pa pb |-;unfold bD at*
   generalize bks a=ba at*
   generalize bks b=bb at*
   generalize prs (aF (aI a))=xa at*
   generalize prs (aF (aI b))=xb at*
   generalize chs (Batch.differ (aF (aI a)) (aF (aI b)))=xd at*
   refine rn3 KQ pa pb dd ?_;refine aK ?_;exact ar.refl _
set_option maxHeartbeats 4000000 in
theorem xe(a b:List Bk)(hla:a.length<=35184372088832)(hva:∀x∈a,x.l.length<=35184372088832)(hlb:b.length<=35184372088832)(hvb:∀x∈b,x.l.length<=35184372088832):
  aH Tryz.prog 6 [bD a,bD b] (.bool true):=by
 refine f6.aG af (by simp[aD,cJ]) rfl ?_;unfold c6 zz;have fa:=yu a hla hva;have fb:=yu b hlb hvb;cases ha:sG a with
 |false=>
  rw[ha] at fa;unfold bD at*
  generalize bks a=ba at*
  generalize bks b=bb at*
  refine rn2 KQ fa cX ?_;refine aK ?_;exact ar.refl _
 |true=>
 rw[ha] at fa;cases hb:sG b with
 |false=>
  rw[hb] at fb;unfold bD at*
  generalize bks a=ba at*
  generalize bks b=bb at*
  refine rn3 KQ fa fb cX ?_;refine aK ?_;exact ar.refl _
 |true=>
 rw[hb] at fb;obtain ⟨a1,a2⟩:=oG ha;obtain ⟨b1,b2⟩:=oG hb;have d1:=rL a b ha hb;have d2:=rL a a ha ha;have k1:=oz a a1;have k2:=oz b b1;have z4:decide ((4:Int)=0)=false:=rfl;have z0:decide ((((chs []).length:Nat):Int)=0)=true:=rfl;unfold imE at k1 k2;cases ia:imB a with
 |false=>
  rw[ia] at d1 k1;simp only[Jy,Js,Kp] at d1 k1;clear d2 k2;unfold bD at*
  generalize bks a=ba at*
  generalize bks b=bb at*
  refine rn8 (cj3 z0 z4 @Kf) fa fb d1 k1 cX cX cX cX ?_;refine aK ?_;exact ar.refl _
 |true=>
 cases ib:imB b with
 |false=>
  rw[ia] at k1;rw[ia,ib] at d1;rw[ib] at k2;simp only[Jy,Js,Jw,KU] at d1 k1 k2;clear d2;unfold bD at*
  generalize bks a=ba at*
  generalize bks b=bb at*
  refine rn8 (cj3 z0 z4 @Kf) fa fb d1 k1 k2 cX cX cX ?_;refine aK ?_;exact ar.refl _
 |true=>
  rw[ia,ib] at d1;rw[ia] at d2;simp only[Jw,K3,nO] at d1 d2;have hd:=vV (aF (aI a)) (aF (aI b));obtain ⟨x1,x2,x3⟩:=dV (aI a);obtain ⟨y1,y2,y3⟩:=dV (aI b);have p1:=FB a (Batch.differ (aF (aI a)) (aF (aI b))) a1 (λh=>by have:=a2 h;omega) (by have:=a2 ia;have:=b2 ib;omega);rw[uK ia ib] at p1;have s1:=Di b hlb hvb;clear k1 k2;unfold bD at*
  generalize bks a=ba at*
  generalize bks b=bb at*
  generalize chs (Batch.differ (aF (aI a)) (aF (aI b)))=xd at*
  refine rn8 (cj3 z0 z4 @Kf) fa fb d1 p1 d2 s1 cX cX ?_;refine aK ?_;exact ar.refl _
theorem nu{b:Nat}(avs:List AV)(h:tF (om Tryz.prog 9) Tryz.f6.params.toList avs)(_:bW avs<=b):aH Tryz.prog 6 avs (.bool true):=by
 rw[Tryz.params6] at h;cases h with|cons h0 h=>cases h with|cons h1 h=>
 cases h;obtain ⟨m,rfl,hl,hb⟩:=yw h0;obtain ⟨m2,rfl,hl2,hb2⟩:=yw h1;exact xe m m2 hl (λb hx=>(hb b hx).l) hl2 (λb hx=>(hb2 b hx).l)
end Go.Proofs.YtjnoobmaedgooaaGreat.Arch
end
section
namespace Go.Proofs.YtjnoobmaedgooaaGreat.Arch
open Go Go.Av Go.Proofs Go.Proofs.YtjnoobmaedgooaaGreat.C
open Go.ChangeShapes Go.WideShapes Go.ChangeAt Go.RowKit
set_option maxRecDepth 100000 in
theorem kZ(os:Os)(started:os.Started)(H:Type)(enc:TypeId × Value->H):
  ReturnsInHanded {} Tryz.checked os 6 .any (Rows.archiveMovedSpec.pre6 enc Tryz.prog Tryz.f6 Rows.archiveMovedRow.domain false) (Rows.archiveMovedSpec.post enc Tryz.prog Tryz.f6 false true false false):=by
 refine returnsInHanded_of_change_sized (C:=Tryz.checked) own started (by kernel_rfl) Tryz.func6
  (ChangeSpec.witness6 (enc:=enc) (C:=Tryz.checked) false ⟨#[],#[.agg #[.slice none 0 0],.agg #[.slice none 0 0]],[]⟩ 8 (by kernel_rfl) (by kernel_rfl) (by kernel_rfl) (by kernel_rfl)) ?_
 intro W base args ds gs before hval hW _ hwt _;exact zM laid Jh IU full rfl (λl hl=>by match l,hl with|[_,_],_=>rfl) rfl Tryz.underlying4 (by kernel_rfl) (by kernel_rfl) hval hW hwt (λavs h hb=>nu avs h hb)
theorem nv:(Rows.archiveMovedRow.inPlace == Tryz.pinned.checked.prog.inPlace 6)=true:=by kernel_rfl
theorem nw:(Rows.archiveMovedRow.unfollowed == Tryz.pinned.checked.prog.unfollowed 6)=true:=by kernel_rfl
theorem ny:(Rows.archiveMovedRow.recurses == Tryz.pinned.checked.prog.recurses 6)=true:=by kernel_rfl
theorem nz:(Rows.archiveMovedRow.named == Tryz.pinned.checked.prog.varsNamed 6)=true:=by kernel_rfl
theorem la:joinedFacts Tryz.pinned.checked.prog 6 Tryz.f6 Rows.archiveMovedSpec Rows.archiveMovedRow=true:=by
 unfold joinedFacts;rw[nv,nw,ny,nz];kernel_rfl
theorem lU:Tryz.pinned.checked.prog.funcNamed Rows.archiveMovedRow.func=some 6:=by kernel_rfl
theorem said_ArchiveMoved:Rows.ArchiveMovedSaid:=
 OpenClaim.holds_of_wide 6 Tryz.f6 rfl rfl rfl rfl rfl rfl rfl ⟨rfl,rfl,rfl,rfl,rfl⟩ rfl rfl rfl rfl rfl lU Tryz.func6 la
  (JL (by kernel_rfl)) (by unfold Func.isWrapper;first|(rw [JC (by decide+kernel)];kernel_rfl)|(rw [Jr (by decide+kernel)];exact ⟨rfl,rfl⟩))
  (λos started H enc _=>kZ os started H enc)
#print axioms said_ArchiveMoved
end Go.Proofs.YtjnoobmaedgooaaGreat.Arch
end
