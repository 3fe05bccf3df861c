/- ArchiveReads: the statement 'ArchiveReadsSaid', closed by the law that the walk shows. No condition. -/
import Derived.Test.YtjnoobmaedgooaaGreatZReE
set_option linter.unusedSimpArgs false
set_option linter.unusedVariables false
section
set_option maxRecDepth 100000
namespace Go.Proofs.YtjnoobmaedgooaaGreat.Arch
open Go Go.Av Go.Proofs Go.Proofs.YtjnoobmaedgooaaGreat.C Go.Proofs.YtjnoobmaedgooaaGreat.Desk Go.Proofs.YtjnoobmaedgooaaGreat.Batch
abbrev v4:Value:= .iface 28 (.int .i64 4)
theorem gV:aI Tryz.prog 56 [.bool true] (.tup []):=by
 refine f56.aF ah rfl rfl ?_;unfold c56 zz;refine dI ?_;exact ⟨trivial,_,rfl,ay.refl _⟩
theorem eY:ER Tryz.prog 56 [.bool false] v4:=by
 intro n m;obtain ⟨v,h',hc,rfl,rfl⟩:=aV.HK (Q:=λv h'=>v=v4/\h'=H0 n m) (args:=[.bool false]) (h:=H0 n m) f56 ah (by
  unfold c56 zz;refine Wp.bU xA1 al ?_;refine Wp.cond_true xA2 ?_;refine Wp.nH (aR.eval (bJ xA1) ?_);refine aR.here (R:=λv h'=>∃v',aO.panic v= .panic v'/\v'=v4/\h'=H0 n m) (en:=aU) rfl (bF _) (λops i o ho hit=>y8 ho hit rfl rfl rfl) (λl hl=>by cases hl) ?_;exact ⟨_,rfl,rfl,rfl⟩)
 exact hc
theorem Nl(x y:List UInt8):aI Tryz.prog 96 [.str x,.str y] (.int .i64 (pH x y)):=by
 intro n m G w vs hv R F;simp only[aE,aC] at hv;obtain ⟨_,_,rfl,rfl,_,_,rfl,rfl,rfl⟩:=hv;refine (uv x y w).mono ?_;rintro e w' ⟨rfl,rfl⟩;exact ⟨_,G,rfl,Trans.refl _ _ _,R,by simp[aC]⟩
theorem Jb(x y:List UInt8):decide (pH x y<0)=Op.bytesLess x y:=by
 unfold pH;cases h:Op.bytesLess x y<;>cases h2:Op.bytesLess y x<;>simp
theorem Jc(x y:List UInt8):decide (pH x y=0)=decide (x=y):=by
 unfold pH;rcases Batch.fg x y with h|h|h
 ·have hn:¬x=y:=λe=>by rw[e,Batch.cq] at h;cases h
  simp[h,hn]
 ·subst h;simp[Batch.cq]
 ·have hn:¬x=y:=λe=>by rw[e,Batch.cq] at h;cases h
  have:=Batch.zJ h;simp[h,hn,this]
theorem J3(n:List UInt8)(st:Int)(l:List Vs)(nm:List UInt8):aI Tryz.prog 114 [.agg [.str n,.int .i64 st,.sl 8 (vss l) .any],.str nm] (.int .i64 (pH n nm)):=by
 refine f114.aF ah (by simp[aJ,aW,bA,oP]) rfl ?_;unfold LN zz;have cc:=Nl n nm;refine tA cc ?_;refine aG ?_;exact ay.refl _
def o9(x:Bk × Nat):List AV:=[.str x.1.n,.int .i64 x.1.st,.sl 8 (vss x.1.l) (.own x.2)]
def fA(bt:List (Bk × Nat)):List AV:=bt.flatMap o9
def bV(bt:List (Bk × Nat))(k:Nat):AV:=if bt=[] then .sl 3 [] (.exact 0) else .tsl 3 k 0 bt.length none
theorem iB:∀bt:List (Bk × Nat),(fA bt).length=bt.length*3
 |[]=>rfl
 |a::bt=>by
  have:=iB bt;simp only[fA,PS,Og,List.length_cons] at*
  have:(o9 a).length=3:=rfl;omega
theorem rf(bt:List (Bk × Nat))(i:Nat)(h:i<bt.length):fA bt=fA (bt.take i)++(o9 (bt.getD i default)++fA (bt.drop (i+1))):=by
 have e:bt.getD i default=bt[i]:=by simp[List.getD,N5 h]
 unfold fA;rw[e];have e2:bt=bt.take i++bt[i]::bt.drop (i+1):=by rw[<-P7 h,P3]
 conv=>lhs;rw[e2]
 rw[List.flatMap_append,PS]
theorem D8(bt:List (Bk × Nat))(i:Nat)(h:i<bt.length):((fA bt).drop (i*3)).take 3=o9 (bt.getD i default):=by
 have hl:(fA (bt.take i)).length=i*3:=by rw[iB,OV,P4 ae]
 rw[rf bt i h,<-hl,List.drop_left];exact List.take_left' rfl
theorem J4(h:H)(bt:List (Bk × Nat))(k:Nat)(nm:List UInt8)(hk:bt≠[]->h.objs k=some (.cells (fA bt)))(hl:bt.length<=1000000):
  bB Tryz.prog 113 [bV bt k,.str nm,.clo (.func 114) [] []] h (.tup [.int .i64 (lI ((bt.map Prod.fst).map Bk.n) nm),.bool (gU ((bt.map Prod.fst).map Bk.n) nm)]) h:=by
 refine aV.kX f113 ah ?_;unfold LM zz;by_cases hb:bt=[]
 ·subst hb;have hv:bV [] k= .sl 3 [] (.exact 0):=rfl;have hp:lI (([]:List (Bk × Nat)).map Prod.fst |>.map Bk.n) nm=0:=rfl;have ht:gU (([]:List (Bk × Nat)).map Prod.fst |>.map Bk.n) nm=false:=rfl;rw[hv,hp,ht];refine rf0 @Oa.{0} ?_;refine Wp.cO [0,1,2,8] xA7 (λ_:Nat=>[(9,.int .i64 0),(10,.int .i64 0)]) (λ_=>h) (λ_=>True) (λj=>j) 0 trivial rfl ?_ ?_
  ·exact xSb
  intro _ _;have d:decide ((0:Int)<0)=false:=by decide
  refine rf0 (cj2 @Oa.{0} d) ?_;refine Wp.ret ⟨trivial,_,rfl,?_,rfl⟩;exact ay.refl _
 ·have ho:=hk hb;have hv:bV bt k= .tsl 3 k 0 bt.length none:=by unfold bV;rw[Ob hb]
  rw[hv];have hrl:=iB bt;have hcell:=λi hi=>D8 bt i hi;have hnl:((bt.map Prod.fst).map Bk.n).length=bt.length:=by simp
  have hng:∀i,i<bt.length->((bt.map Prod.fst).map Bk.n).getD i []=(bt.getD i default).1.n:=λi hi=>by
   simp[List.getD,N5 hi]
  generalize fA bt=cs at*
  have hbp:lI ((bt.map Prod.fst).map Bk.n) nm=nq ((bt.map Prod.fst).map Bk.n) nm bt.length 0 bt.length:=by unfold lI;rw[hnl]
  have hbt:gU ((bt.map Prod.fst).map Bk.n) nm=(decide (lI ((bt.map Prod.fst).map Bk.n) nm<bt.length)&&decide (((bt.map Prod.fst).map Bk.n).getD (lI ((bt.map Prod.fst).map Bk.n) nm) []=nm)):=by unfold gU;rw[hnl]
  rw[hbt];generalize (bt.map Prod.fst).map Bk.n=ns at*
  generalize lI ns nm=bp at*
  refine dI ?_;refine Wp.cO [0,1,2,8] xA7 (λj:Nat × Nat × Nat=>[(9,.int .i64 (j.2.1:Nat)),(10,.int .i64 (j.2.2:Nat))]) (λ_=>h) (λj=>j.2.2 - j.2.1<=j.1/\j.2.1<=j.2.2/\j.2.2<=bt.length/\nq ns nm j.1 j.2.1 j.2.2=bp) (λj=>j.1) (bt.length,0,bt.length) ⟨by simp,Ot _,N4 _,hbp.symm⟩ rfl ?_ ?_
  ·exact xSb
  rintro ⟨f,i,j⟩ ⟨a1,a2,a3,a4⟩;simp only at a1 a2 a3 a4;by_cases hc:i<j
  ·have d1:decide ((i:Int)<(j:Int))=true:=N9 ae;have e1:IntKind.i64.wrap ((i:Int)+(j:Int))=((i+j:Nat):Int):=by rw[IntWalk.i64_in _ ae];omega
   have e2:IntKind.u64.wrap ((i+j:Nat):Int)=((i+j:Nat):Int):=IntWalk.u64_in _ ae;have e3:((i+j:Nat):Int).fdiv (2^(min (Int.toNat 1) 64))=(((i+j)/2:Nat):Int):=by
    rw[show min (Int.toNat 1) 64=1 from rfl,Int.fdiv_eq_ediv_of_nonneg _ ae];omega
   have e4:IntKind.i64.wrap (((i+j)/2:Nat):Int)=(((i+j)/2:Nat):Int):=IntWalk.i64_in _ ae;have e5:¬(1:Int)<0:=by omega
   obtain ⟨f,rfl⟩:∃f',f=f'+1:=⟨f - 1,ae⟩;have c1:(i+j)/2<j:=by omega
   have c2:i<=(i+j)/2:=by omega
   have hcl:=hcell ((i+j)/2) ae;have hg:=hng ((i+j)/2) ae;simp only[nq,Oi hc] at a4;generalize (i+j)/2=c at*
   have p1:(0:Int)<=(c:Int):=by omega
   have p2:(c:Int)<(bt.length:Int):=by omega
   have p3:c*3+3<=cs.length:=by omega
   unfold o9 at hcl;have cc:=J3 (bt.getD c default).1.n (bt.getD c default).1.st (bt.getD c default).1.l nm;rw[hg] at a4;generalize bt.getD c default=bb at*
   have hlt:=Jb bb.1.n nm;generalize pH bb.1.n nm=r at*
   refine rf0 (bf d1 e1 e2 e3 e4 e5 wY p1 p2 p3 ho (cj2 hcl @N7)) ?_;refine aw.u0 (by simp only[go_sem,reduceIte,Nat.reduceEqDiff,Nat.reduceAdd,bx];try rfl) av rfl rfl aq (by simp only[go_sem,reduceIte,Nat.reduceEqDiff,List.map];exact aA.cons (ay.agg (aA.cons (ay.refl _) (aA.cons (ay.refl _) (aA.cons ay.cap aA.nil)))) (aA.cons (ay.refl _) aA.nil)) cc ?_;cases hb2:Op.bytesLess bb.1.n nm with
   |true=>
    rw[hb2] at hlt a4;simp only[Of] at a4;refine aw.evF (xAd hlt) ?_;have e6:IntKind.i64.wrap ((c:Int)+1)=((c+1:Nat):Int):=by rw[IntWalk.i64_in _ ae];omega
    refine rf0 hlt ?_;refine ⟨(f,c+1,j),⟨by simp only;omega,by simp only;omega,a3,a4⟩,by simp only;omega,?_⟩;refine aM.of (aY ?_) (OLe.bZ _) (λa ha=>ha) (N4 _) (N4 _);exact cM e6
   |false=>
    rw[hb2] at hlt a4;simp only[Oq,Od] at a4;refine aw.evF (xAd hlt) ?_;refine rf0 hlt ?_;refine ⟨(f,i,c),⟨by simp only;omega,c2,by simp only;omega,a4⟩,by simp only;omega,?_⟩;refine aM.of (aY ?_) (OLe.bZ _) (λa ha=>ha) (N4 _) (N4 _);exact xSb
  ·obtain rfl:i=j:=by omega
   have hbi:bp=i:=by
    cases f with
    |zero=>exact a4.symm
    |succ f=>simp only[nq,Ob hc] at a4;exact a4.symm
   subst hbi;have d1:decide ((bp:Int)<(bp:Int))=false:=N6 ae;by_cases hlt:bp<bt.length
   ·have d2:decide ((bp:Int)<(bt.length:Int))=true:=N9 ae;have d3:decide (bp<bt.length)=true:=N9 hlt;have hcl:=hcell bp hlt;have hg:=hng bp hlt;have p1:(0:Int)<=(bp:Int):=by omega
    have p2:(bp:Int)<(bt.length:Int):=by omega
    have p3:bp*3+3<=cs.length:=by omega
    unfold o9 at hcl;have cc:=J3 (bt.getD bp default).1.n (bt.getD bp default).1.st (bt.getD bp default).1.l nm;rw[hg];generalize bt.getD bp default=bb at*
    have hlt:=Jc bb.1.n nm;generalize pH bb.1.n nm=r at*
    refine rf0 (cj8 d1 d2 p1 p2 p3 ho hcl @N7) ?_;refine aw.u0 (by simp only[go_sem,reduceIte,Nat.reduceEqDiff,Nat.reduceAdd,bx];try rfl) av rfl rfl aq (by simp only[go_sem,reduceIte,Nat.reduceEqDiff,List.map];exact aA.cons (ay.agg (aA.cons (ay.refl _) (aA.cons (ay.refl _) (aA.cons ay.cap aA.nil)))) (aA.cons (ay.refl _) aA.nil)) cc ?_;refine aw.evF (xAd hlt) ?_;refine rf0 hlt ?_;refine Wp.ret ⟨trivial,_,rfl,?_,rfl⟩;rw[d3,OM];exact ay.refl _
   ·have d2:decide ((bp:Int)<(bt.length:Int))=false:=N6 ae;have d3:decide (bp<bt.length)=false:=N6 hlt;refine rf0 (cj2 d1 d2) ?_;refine Wp.ret ⟨trivial,_,rfl,?_,rfl⟩;rw[d3,Pv];exact ay.refl _
def blX:AC->AC
 | .block _ c=>c
 |c=>c
def thA:AC->AC
 | .cond _ a _=>a
 |c=>c
def elA:AC->AC
 | .cond _ _ b=>b
 |c=>c
def gI:AC:=tlA (tlA (tlA c64))
def jl:AC:=blX (tlA gI)
def nt:AC:=thA (tlA jl)
def el1:AC:=elA (tlA jl)
def mw:AC:=thA (tlA el1)
def el2:AC:=elA (tlA el1)
def my:AC:=thA (tlA el2)
def elD:AC:=elA (tlA el2)
theorem Jd:c64= .seq (hdA c64) (.seq (hdA (tlA c64)) (.seq (hdA (tlA (tlA c64))) gI)):=rfl
theorem AG:gI= .seq (hdA gI) (.block 0 (.seq (hdA jl) (.cond (.t 28) nt (.seq (hdA el1) (.cond (.t 54) mw (.seq (hdA el2) (.cond (.t 93) my elD))))))):=rfl
structure mX(L:List Pr)(h:H)(bt:List (Bk × Nat))(q:List Pc)(J:Nat):Prop where
 row:∃k,h.objs 3=some (.cells [bV bt k,.mp 2])/\(bt≠[]->5<=k/\k<h.n/\∃cs,h.objs k=some (.cells cs)/\aA cs (fA bt))
 mp:h.objs 2=some (.map (gH q))
 o0:h.objs 0=some (.cells [.sl 2 (prs L) .any])
 o1:h.objs 1=some (.cells [.sl 3 [] (.exact 0)])
 o4:h.objs 4=some (.cells [.ptr 3 0])
 hn:5<=h.n
 tk:∀x∈bt,x.2∈h.toks
 tm:∀x∈bt,x.2<h.m
 nd:(bt.map Prod.snd).Nodup
 len:bt.length<=J
 vers:∀x∈bt,x.1.l.length<=J
 pcs:∀p∈q,0<=p.n/\p.n<=J/\p.s.length<=J*140737488355328
structure Mid(L:List Pr)(F:Nat->Option Av.Obj)(n:Nat)(toks:List Nat)(m:Nat)(bt:List (Bk × Nat))(q:List Pc)(J k:Nat)(p:Pr)(key:Ky):Prop where
 hk:bt≠[]->5<=k/\k<n
 hn:5<=n
 row:F 3=some (.cells [bV bt k,.mp 2])
 cs:bt≠[]->F k=some (.cells (fA bt))
 mp:F 2=some (.map (gH q))
 o0:F 0=some (.cells [.sl 2 (prs L) .any])
 o1:F 1=some (.cells [.sl 3 [] (.exact 0)])
 o4:F 4=some (.cells [.ptr 3 0])
 P:F n=some (.cells [.str p.k,.str p.v])
 K:F (n+1)=some (.cells [.int .i64 key.k,.str key.b,.str key.o,.sl 1 (ints key.ns) .any])
 tk:∀x∈bt,x.2∈toks
 tm:∀x∈bt,x.2<m
 nd:(bt.map Prod.snd).Nodup
 len:bt.length<=J
 vers:∀x∈bt,x.1.l.length<=J
 pcs:∀p∈q,0<=p.n/\p.n<=J/\p.s.length<=J*140737488355328
 hJ:J<=5000
def QA(L:List Pr)(J:Nat)(R:Option SS):aO->St->Prop:=λe s'=>match R with
 |none=>e= .panic v4/\s'.h.objs 1=some (.cells [.sl 3 [] (.exact 0)])
 |some S=>e= .normal/\∃bt',bt'.map Prod.fst=S.1/\mX L s'.h bt' S.2 (J+1)
theorem D9(bt:List (Bk × Nat))(x:Bk × Nat):fA (bt++[x])=fA bt++o9 x:=by simp[fA]
theorem aA.Nn:∀(A:List AV){a b:List AV},aA a b->aA (A++a) (A++b)
 |[],_,_,h=>h
 |x::A,_,_,h=>aA.cons (ay.refl _) (aA.Nn A h)
theorem wo{q:List Pc}{J:Nat}(h:∀p∈q,0<=p.n/\p.n<=J/\p.s.length<=J*140737488355328):∀p∈q,0<=p.n/\p.n<=((J+1:Nat):Int)/\p.s.length<=(J+1)*140737488355328:=λp hp=>by
 obtain ⟨a,b,c⟩:=h p hp;exact ⟨a,ae,OI c (PD _ (Nat.le_succ J))⟩
set_option maxHeartbeats 2000000 in
theorem KW{L:List Pr}{F:Nat->Option Av.Obj}{n:Nat}{toks:List Nat}{m:Nat}{bt:List (Bk × Nat)}{q:List Pc}{J k:Nat}{p:Pr}{key:Ky}(M:Mid L F n toks m bt q J k p key)(hk1:key.k=1):
  Wp Tryz.prog 161 nt ⟨tm [(0,.ptr 3 0),(3,.ptr n 0),(4,.ptr (n+1) 0)],⟨F,n+2,toks,m⟩⟩ (QA L J (lJ (bt.map Prod.fst,q) key p.v)):=by
 have hR:lJ (bt.map Prod.fst,q) key p.v=if nV p.v=true then some (bt.map Prod.fst++[⟨key.b,stV p.v,[]⟩],q) else none:=by
  unfold lJ;rw[Oi hk1]
 rw[hR];have cut:nt= .seq (hdA nt) (.seq (hdA (tlA nt)) (tlA (tlA nt))):=rfl;rw[cut];generalize hT:tlA (tlA nt)=T;unfold nt jl gI c64 zz;simp only[hdA,tlA,blX,thA];have cs:=yd p.v;have fP:=M.P;have fK:=M.K;have f3:=M.row;have hst:stR p.v=if nV p.v=true then 0 else 4:=rfl
 refine Wp.aH (xAd fP) ?_;refine aw.bO xA2 xAb (cs) ?_;refine aw.evF xAc ?_;refine aw.nil ?_;cases hb:nV p.v with
 |false=>
  rw[hb] at hst;rw[Ob ah] at hst |-;rw[hst];refine Wp.dD xAc xAb eY (trivial) ?_;exact ⟨rfl,M.o1⟩
 |true=>
  rw[hb] at hst;rw[Oi rfl] at hst |-;rw[hst];refine Wp.aH xAc ?_;refine aw.bO xA2 xAb (gV) ?_;refine aw.nil ?_;rw[<-hT];unfold nt jl gI c64 zz;simp only[hdA,tlA,blX,thA];have hn:=M.hn;refine Wp.le (aM.tok _ _) ?_;simp only;have n3:¬(3=n+2):=by omega
  have n4:¬(4=n+2):=by omega
  have n0:¬(0=n+2):=by omega
  have n1:¬(1=n+2):=by omega
  have n2:¬(2=n+2):=by omega
  have nn:¬(n+1=n+2):=by omega
  by_cases ho:bt=[]
  ·subst ho;have hv:bV [] k= .sl 3 [] (.exact 0):=rfl;rw[hv] at f3;refine Wp.reg ?_;refine az.part 11 (xAe (cj4 f3 fK n3 nn)) ?_;simp only[Pd,Pw,Qf];refine az.opT xA2 (by simp only[lF,go_sem,reduceIte,Nat.reduceEqDiff,Nat.reduceAdd,bx,List.all_cons,List.all_nil,List.length_cons,List.length_nil,Nat.reduceMul,Nat.reduceLeDiff,Nat.reduceLT,Nat.zero_lt_succ,Ol,Of,OE,PG];exact rfl) rfl ?_;refine az.evR (xAe (cj4 f3 n3 @N8.{0} @Oa.{0})) ?_;refine az.nil ⟨by simp[bg,aN,apart,aU,n3],?_⟩;have m3:¬(n+2=3):=by omega
   refine ⟨rfl,[(⟨key.b,stV p.v,[]⟩,m)],rfl,⟨n+2,by simp[upd,bV],λ_=>⟨ae,by simp only;omega,_,by simp only[upd,m3,Od,Of];exact rfl,?_⟩⟩,by simp only[upd,n2,Od,Nat.reduceEqDiff,reduceIte];exact M.mp,by simp only[upd,n0,Od,Nat.reduceEqDiff,reduceIte];exact M.o0,by simp only[upd,n1,Od,Nat.reduceEqDiff,reduceIte];exact M.o1,by simp only[upd,n4,Od,Nat.reduceEqDiff,reduceIte];exact M.o4,by simp only;omega,by simp,by simp,by simp,by simp,by simp,wo M.pcs⟩;exact aA.cons (ay.refl _) (aA.cons (ay.refl _) (aA.cons (ay.dt rfl) aA.nil))
  ·have hv:bV bt k= .tsl 3 k 0 bt.length none:=by unfold bV;rw[Ob ho]
   rw[hv] at f3;obtain ⟨y1,y2⟩:=M.hk ho;have fk:=M.cs ho;have x3:¬(3=k):=by omega
   have x7:¬(k=n+2):=by omega
   have x8:¬(n+1=k):=by omega
   have hcl:=iB bt;have hlen:=M.len;have hJ:=M.hJ;have r1:(bt.length+1)*48<=140737488355328:=by omega
   have r2:bt.length+1<4611686018427387904:=by omega
   refine Wp.reg ?_;refine az.part 11 (xAe (cj4 f3 fK n3 nn)) ?_;simp only[Pd,Pw,Qf];refine az.opK xA2 (by simp only[mT,go_sem,reduceIte,Nat.reduceEqDiff,Nat.reduceAdd,bx,List.all_cons,List.all_nil,List.length_cons,List.length_nil,Nat.reduceMul,Nat.reduceLeDiff,Nat.reduceLT,x7,fk,hcl,r1,r2,Nat.zero_lt_succ,Ol,Of,OE,PG];exact rfl) rfl ?_;refine az.evR (xAe (cj5 f3 n3 x3 @N8.{0} @Oa.{0})) ?_;refine az.nil ⟨by simp[bg,aN,apart,aU,n3,x3],?_⟩;have m3:¬(n+2=3):=by omega
   have k0:¬(0=k):=by omega
   have k1:¬(1=k):=by omega
   have k2:¬(2=k):=by omega
   have k4:¬(4=k):=by omega
   refine ⟨rfl,bt++[(⟨key.b,stV p.v,[]⟩,m)],by simp,⟨n+2,by simp[upd,bV],λ_=>⟨ae,by simp only;omega,_,by simp only[upd,m3,Od,Of];exact rfl,?_⟩⟩,by simp only[upd,n2,k2,Od,Nat.reduceEqDiff,reduceIte];exact M.mp,by simp only[upd,n0,k0,Od,Nat.reduceEqDiff,reduceIte];exact M.o0,by simp only[upd,n1,k1,Od,Nat.reduceEqDiff,reduceIte];exact M.o1,by simp only[upd,n4,k4,Od,Nat.reduceEqDiff,reduceIte];exact M.o4,by simp only;omega,?_,?_,?_,by simp;omega,?_,wo M.pcs⟩
   ·rw[D9];exact aA.Nn _ (aA.cons (ay.refl _) (aA.cons (ay.refl _) (aA.cons (ay.dt rfl) aA.nil)))
   ·intro x hx;rcases OS.1 hx with hx|hx
    ·exact QG _ (M.tk x hx)
    ·simp only[Oj] at hx;subst hx;exact PL
   ·intro x hx;rcases OS.1 hx with hx|hx
    ·have:=M.tm x hx;simp only;omega
    ·simp only[Oj] at hx;subst hx;exact OL _
   ·rw[Pl];refine List.nodup_append.2 ⟨M.nd,by simp,λa ha b hb=>?_⟩;simp only[OJ,OQ,Oj] at hb;subst hb;obtain ⟨x,hx,rfl⟩:=OC.1 ha;have:=M.tm x hx;omega
   ·intro x hx;rcases OS.1 hx with hx|hx
    ·have:=M.vers x hx;omega
    ·simp only[Oj] at hx;subst hx;simp
theorem B6{J:Nat}{b o:List UInt8}{id:Int}:∀{q:List Pc},(∀p∈q,0<=p.n/\p.n<=J/\p.s.length<=J*140737488355328)->0<=(dv q b o id).2/\(dv q b o id).2<=J/\(dv q b o id).1.length<=J*140737488355328
 |[],_=>⟨OU _,PM _,Ot _⟩
 |p::q,h=>by
  simp only[dv];split
  ·exact h p ah
  ·exact B6 λx hx=>h x (by simp[hx])
set_option maxHeartbeats 4000000 in
theorem KX{L:List Pr}{F:Nat->Option Av.Obj}{n:Nat}{toks:List Nat}{m:Nat}{bt:List (Bk × Nat)}{q:List Pc}{J k:Nat}{p:Pr}{key:Ky}(M:Mid L F n toks m bt q J k p key)(hk3:key.k=3)(hok:key.ok)(hpv:p.v.length<=140737488355328):
  Wp Tryz.prog 161 mw ⟨tm [(0,.ptr 3 0),(3,.ptr n 0),(4,.ptr (n+1) 0)],⟨F,n+2,toks,m⟩⟩ (QA L J (lJ (bt.map Prod.fst,q) key p.v)):=by
 have hnl:key.ns.length=2:=by
  have:=hok.n;rw[hk3] at this;have e:eB 3=2:=rfl;rw[e] at this;omega
 obtain ⟨v0,v1,hns⟩:∃v0 v1,key.ns=[v0,v1]:=by
  match hh:key.ns,hnl with
  |[a,b],_=>exact ⟨a,b,rfl⟩
 have hR:lJ (bt.map Prod.fst,q) key p.v=if v1=(dv q key.b key.o v0).2 then some (bt.map Prod.fst,kE q key.b key.o v0 ((dv q key.b key.o v0).1++p.v) ((dv q key.b key.o v0).2+1)) else none:=by
  unfold lJ;rw[Ob (by rw[hk3];decide),Oi hk3,hns];rfl
 rw[hR];obtain ⟨c0,c1,s0⟩:=B6 (b:=key.b) (o:=key.o) (id:=v0) M.pcs;have hf:eV [.str,.str,.int] [.str key.b,.str key.o,.int .i64 v0] (gH q)=some (jT q key.b key.o v0):=AD key.b key.o v0 q;have hl:dT (.agg [.str [],.int .i64 0]) false (jT q key.b key.o v0)= .agg [.str (dv q key.b key.o v0).1,.int .i64 (dv q key.b key.o v0).2]:=AE key.b key.o v0 q;have hp:rB (gH q) [.str key.b,.str key.o,.int .i64 v0] (.agg [.str ((dv q key.b key.o v0).1++p.v),.int .i64 ((dv q key.b key.o v0).2+1)]) (jT q key.b key.o v0)=gH (kE q key.b key.o v0 ((dv q key.b key.o v0).1++p.v) ((dv q key.b key.o v0).2+1)):=J0 key.b key.o v0 _ _ q;have hJ:=M.hJ;have hadd:(dv q key.b key.o v0).1.length+p.v.length<9223372036854775808:=by
  have:=PD 140737488355328 hJ;omega
 have e1:IntKind.i64.wrap ((dv q key.b key.o v0).2+1)=(dv q key.b key.o v0).2+1:=IntWalk.i64_in _ ae;have sl:((dv q key.b key.o v0).1++p.v).length<=(J+1)*140737488355328:=by
  rw[Og,Pz,Po];omega
 have pin:∀x∈kE q key.b key.o v0 ((dv q key.b key.o v0).1++p.v) ((dv q key.b key.o v0).2+1),0<=x.n/\x.n<=((J+1:Nat):Int)/\x.s.length<=(J+1)*140737488355328:=λx hx=>by
  rcases o7 hx with rfl|hx
  ·exact ⟨by simp only;omega,by simp only;omega,sl⟩
  ·exact wo M.pcs x hx
 generalize (dv q key.b key.o v0).1=s at*
 generalize (dv q key.b key.o v0).2=c at*
 generalize kE q key.b key.o v0 (s++p.v) (c+1)=q' at*
 generalize jT q key.b key.o v0=R at*
 simp only[go_sem,reduceIte,Nat.reduceEqDiff,Nat.reduceAdd,bx] at hl hp;have cut:mw= .seq (hdA mw) (.seq (hdA (tlA mw)) (.seq (hdA (tlA (tlA mw))) (tlA (tlA (tlA mw))))):=rfl;rw[cut];generalize hT:tlA (tlA (tlA mw))=T;unfold mw el1 jl gI c64 zz;simp only[hdA,tlA,blX,thA,elA];have fP:=M.P;have fK:=M.K;have f3:=M.row;have f2:=M.mp;have hi0:ints key.ns=[.int .i64 v0,.int .i64 v1]:=by rw[hns];rfl
 rw[hi0] at fK;have hn:=M.hn;have n3:¬(3=n+2):=by omega
 have n4:¬(4=n+2):=by omega
 have n0:¬(0=n+2):=by omega
 have n1:¬(1=n+2):=by omega
 have n2:¬(2=n+2):=by omega
 have nn:¬(n+1=n+2):=by omega
 have np:¬(n=n+2):=by omega
 have o3:¬(3=n+2+1):=by omega
 have o4:¬(4=n+2+1):=by omega
 have o0:¬(0=n+2+1):=by omega
 have o1:¬(1=n+2+1):=by omega
 have o2:¬(2=n+2+1):=by omega
 have on:¬(n+1=n+2+1):=by omega
 have op:¬(n=n+2+1):=by omega
 have oq:¬(n+2=n+2+1):=by omega
 have z0:(0:Int)<((2:Nat):Int):=by decide
 have z1:(1:Int)<((2:Nat):Int):=by decide
 have z2:(0:Int)<=1:=by decide
 have t1:Int.toNat 1=1:=rfl;refine Wp.bq (xAd (iw fK n3 nn z0 @N8.{0} @Oa.{0} Int.toNat_zero @OP.{0} @OU @Ol)) ?_;refine az.nil ⟨by simp[bg,aN,apart,aU,nn],?_⟩;refine Wp.bq (xAd (cj7 f3 f2 n3 n2 hf hl oq)) ?_;refine az.nil ⟨by simp[bg,aN,apart,aU,n3,o3,o2,oq] <;>omega,?_⟩;by_cases hc:v1=c
 ·have d1:decide (v1=c)=true:=N9 hc;rw[Oi hc];refine Wp.bq (xAd (bf fK nn on oq z1 z2 t1 d1 @N8.{0} @Oa.{0} @Ph.{0} (cj2 @OP.{0} @Ol))) ?_;refine az.bO xA2 xAb (gV) ?_;refine az.evR xA1 ?_;refine az.nil ⟨by simp[bg,aN,apart,aU,on],?_⟩;rw[<-hT];unfold mw el1 jl gI c64 zz;simp only[hdA,tlA,blX,thA,elA];refine Wp.gS (xAd (bf f3 f2 n3 n2 o3 o2 oq np @op fP hf (cj3 hp hadd e1))) ?_;refine az.nil ⟨by simp[bg,aN,apart,aU,n3,o3,o2,oq,n2,np,op] <;>omega,?_⟩;refine ⟨rfl,bt,rfl,⟨k,by simp only[upd,n3,o3,Od,Nat.reduceEqDiff,reduceIte];exact f3,λho=>?_⟩,by simp only[upd,Of,hp],by simp only[upd,n0,o0,Od,Nat.reduceEqDiff,reduceIte];exact M.o0,by simp only[upd,n1,o1,Od,Nat.reduceEqDiff,reduceIte];exact M.o1,by simp only[upd,n4,o4,Od,Nat.reduceEqDiff,reduceIte];exact M.o4,by simp only;omega,M.tk,M.tm,M.nd,Nat.le_succ_of_le M.len,λx hx=>Nat.le_succ_of_le (M.vers x hx),pin⟩;obtain ⟨y1,y2⟩:=M.hk ho;have k2:¬(k=2):=by omega
  have k3:¬(k=n+2):=by omega
  have k4:¬(k=n+2+1):=by omega
  exact ⟨y1,by simp only;omega,_,by simp only[upd,k2,k3,k4,Od];exact M.cs ho,aA.refl _⟩
 ·have d1:decide (v1=c)=false:=N6 hc;rw[Ob hc];refine Wp.dD (xAd (bf fK nn on oq z1 z2 t1 d1 @N8.{0} @Oa.{0} @Ph.{0} (cj2 @OP.{0} @Ol))) xAb eY (⟨by simp[aN,apart,aU,on],rfl⟩) ?_;exact ⟨rfl,by simp only[upd,n1,o1,Od];exact M.o1⟩
theorem GM(bt:List (Bk × Nat))(i:Nat)(h:i<bt.length):(fA bt)[i*3+2]? =some (.sl 8 (vss (bt.getD i default).1.l) (.own (bt.getD i default).2)):=by
 have hl:(fA (bt.take i)).length=i*3:=by rw[iB,OV,P4 ae]
 rw[rf bt i h,PE ae,hl,show i*3+2 - i*3=2 by omega];rfl
theorem Ea(bt:List (Bk × Nat))(i:Nat)(h:i<bt.length):(fA bt).take (i*3+2)=fA (bt.take i)++[.str (bt.getD i default).1.n,.int .i64 (bt.getD i default).1.st]:=by
 have hl:(fA (bt.take i)).length=i*3:=by rw[iB,OV,P4 ae]
 rw[rf bt i h,List.take_append,hl,show i*3+2 - i*3=2 by omega,O8 ae];rfl
theorem Eb(bt:List (Bk × Nat))(i:Nat)(h:i<bt.length):(fA bt).drop (i*3+2+1)=fA (bt.drop (i+1)):=by
 have hl:(fA (bt.take i)).length=i*3:=by rw[iB,OV,P4 ae]
 rw[rf bt i h,List.drop_append,hl,show i*3+2+1 - i*3=3 by omega,List.drop_of_length_le ae];rfl
theorem GN(bt:List (Bk × Nat))(i:Nat)(h:i<bt.length)(y:Bk × Nat):fA (bt.set i y)=fA (bt.take i)++(o9 y++fA (bt.drop (i+1))):=by
 unfold fA;rw[List.set_eq_take_append_cons_drop,Oi h,List.flatMap_append,PS]
theorem Ec{l:List Nat}(h:l.Nodup){i a:Nat}(ha:a∉l):(l.set i a).Nodup:=by
 refine PV.2 λj k hj hk hjk=>?_;rw[List.getElem_set,List.getElem_set];have hp:=PV.1 h;simp only[List.length_set] at hj hk;split
 ·split
  ·omega
  ·exact λe=>ha (e▸Pk _)
 ·split
  ·exact λe=>ha (e▸Pk _)
  ·exact hp j k hj hk hjk
theorem yp{bt:List (Bk × Nat)}(h:(bt.map Prod.snd).Nodup){i:Nat}(hi:i<bt.length){y x:Bk × Nat}(hx:x∈bt.set i y):x=y\/(x∈bt/\x.2≠(bt.getD i default).2):=by
 obtain ⟨j,hj,rfl⟩:=Qt.1 hx;simp only[List.length_set] at hj;rw[List.getElem_set];split
 ·exact .inl rfl
 ·rename_i hij;refine .inr ⟨Pk _,?_⟩;have e:bt.getD i default=bt[i]:=by simp[List.getD,N5 hi]
  rw[e];have hp:=PV.1 h;intro e2;rcases Nat.lt_or_gt_of_ne hij with h1|h1
  ·exact hp i j (by simpa using hi) (by simpa using hj) h1 (by simpa using e2.symm)
  ·exact hp j i (by simpa using hj) (by simpa using hi) h1 (by simpa using e2)
theorem jm{e:aO}(h:e= .normal):jf e:=by subst h;trivial
set_option maxHeartbeats 8000000 in
theorem KY{L:List Pr}{F:Nat->Option Av.Obj}{n:Nat}{toks:List Nat}{m:Nat}{bt:List (Bk × Nat)}{q:List Pc}{J k:Nat}{p:Pr}{key:Ky}(M:Mid L F n toks m bt q J k p key)(hk2:key.k=2)(hok:key.ok)(hpv:p.v.length<=140737488355328):
  Wp Tryz.prog 161 my ⟨tm [(0,.ptr 3 0),(3,.ptr n 0),(4,.ptr (n+1) 0)],⟨F,n+2,toks,m⟩⟩ (QA L J (lJ (bt.map Prod.fst,q) key p.v)):=by
 have hnl:key.ns.length=1:=by
  have:=hok.n;rw[hk2] at this;have e:eB 2=1:=rfl;rw[e] at this;omega
 obtain ⟨v0,hns⟩:∃v0,key.ns=[v0]:=QO.1 hnl;have hR:lJ (bt.map Prod.fst,q) key p.v=if hdB p.v=true then (if gU ((bt.map Prod.fst).map Bk.n) key.b=true then some (s8 (bt.map Prod.fst) (lI ((bt.map Prod.fst).map Bk.n) key.b) (yn key (hdO p.v) (dv q key.b key.o v0).1),kF q key.b key.o v0) else none) else none:=by
  unfold lJ;rw[Ob (by rw[hk2];decide),Ob (by rw[hk2];decide),Oi hk2,hns];rfl
 rw[hR];have hvo:yn key (hdO p.v) (dv q key.b key.o v0).1=⟨key.o,v0,(hdO p.v).sz,(hdO p.v).re,(hdO p.v).im,(hdO p.v).g,(hdO p.v).u,(dv q key.b key.o v0).1⟩:=by
  unfold yn;rw[hns];rfl
 rw[hvo];have hf:eV [.str,.str,.int] [.str key.b,.str key.o,.int .i64 v0] (gH q)=some (jT q key.b key.o v0):=AD key.b key.o v0 q;have hl:dT (.agg [.str [],.int .i64 0]) false (jT q key.b key.o v0)= .agg [.str (dv q key.b key.o v0).1,.int .i64 (dv q key.b key.o v0).2]:=AE key.b key.o v0 q;have hd:rA (gH q) (jT q key.b key.o v0)=gH (kF q key.b key.o v0):=J1 key.b key.o v0 q;have pin:∀x∈kF q key.b key.o v0,0<=x.n/\x.n<=((J+1:Nat):Int)/\x.s.length<=(J+1)*140737488355328:=λx hx=>wo M.pcs x (o8 hx);generalize (dv q key.b key.o v0).1=s at*
 generalize (dv q key.b key.o v0).2=c at*
 generalize kF q key.b key.o v0=q' at*
 generalize jT q key.b key.o v0=R at*
 simp only[go_sem,reduceIte,Nat.reduceEqDiff,Nat.reduceAdd,bx] at hl hd;have ch:=sV p.v hpv;have hhe:hdE p.v=if hdB p.v=true then 0 else 4:=rfl
 unfold ni ez at ch;have dE:decide (hdE p.v=0)=hdB p.v:=by
  rw[hhe];cases hdB p.v<;>decide
 generalize hdE p.v=he at*
 generalize hdO p.v=hd' at*
 obtain ⟨hsz,hre,him,hg,hu⟩:=hd';simp only at ch |-;have hlen:=M.len;have hJ:=M.hJ;have cut:my= .seq (hdA my) (.seq (hdA (tlA my)) (.seq (hdA (tlA (tlA my))) (tlA (tlA (tlA my))))):=rfl;rw[cut];generalize hT:tlA (tlA (tlA my))=T;unfold my el2 el1 jl gI c64 zz;simp only[hdA,tlA,blX,thA,elA];have fP:=M.P;have fK:=M.K;have f3:=M.row;have f2:=M.mp;have hi0:ints key.ns=[.int .i64 v0]:=by rw[hns];rfl
 rw[hi0] at fK;have hn:=M.hn;have n3:¬(3=n+2):=by omega
 have n4:¬(4=n+2):=by omega
 have n0:¬(0=n+2):=by omega
 have n1:¬(1=n+2):=by omega
 have n2:¬(2=n+2):=by omega
 have nn:¬(n+1=n+2):=by omega
 have np:¬(n=n+2):=by omega
 have o3:¬(3=n+2+1):=by omega
 have o4:¬(4=n+2+1):=by omega
 have o0:¬(0=n+2+1):=by omega
 have o1:¬(1=n+2+1):=by omega
 have o2:¬(2=n+2+1):=by omega
 have on:¬(n+1=n+2+1):=by omega
 have op:¬(n=n+2+1):=by omega
 have oq:¬(n+2=n+2+1):=by omega
 have z0:(0:Int)<((1:Nat):Int):=by decide
 refine Wp.aH (xAd (cj2 fP np)) ?_;refine aw.bO xA2 xAb (ch) ?_;refine aw.evF xAc ?_;refine aw.nil ?_;by_cases ho:bt=[]
 ·have hv:bV bt k= .sl 3 [] (.exact 0):=by rw[ho];rfl
  rw[hv] at f3;have ht0:gU ((bt.map Prod.fst).map Bk.n) key.b=false:=by rw[ho];rfl
  have ca:=J4 (H0 (n+2+1) m) bt k key.b (λx=>absurd ho x) ae;rw[hv,ht0] at ca;rw[ht0];generalize lI ((bt.map Prod.fst).map Bk.n) key.b=bp at*
  refine Wp.bq (xAd (cj4 f3 fK n3 nn)) ?_;refine az.jb xA2 xAb (ca) (bF _) ?_;refine az.evR xA1 ?_;refine az.nil ⟨by simp[bg,aN,apart,aU],?_⟩;cases hb:hdB p.v with
  |false=>
   rw[hb] at dE;rw[Ob ah];refine Wp.dD (xAd dE) xAb eY (trivial) ?_;exact ⟨rfl,by simp only[upd,n1,Od];exact M.o1⟩
  |true=>
   rw[hb] at dE;rw[Oi rfl,Ob ah];refine Wp.dD (xAd dE) xAb eY (trivial) ?_;exact ⟨rfl,by simp only[upd,n1,Od];exact M.o1⟩
 ·have hv:bV bt k= .tsl 3 k 0 bt.length none:=by unfold bV;rw[Ob ho]
  rw[hv] at f3;obtain ⟨y1,y2⟩:=M.hk ho;have fk:=M.cs ho;have ca:=J4 (.only (upd aB k (some (.cells (fA bt)))) [] (n+2+1) m) bt k key.b (λ_=>by simp[H.only,upd]) ae;rw[hv] at ca;have hbpl:gU ((bt.map Prod.fst).map Bk.n) key.b=true->lI ((bt.map Prod.fst).map Bk.n) key.b<bt.length:=by
   intro h;unfold gU at h;simp only[Oh,Ov,PF] at h;exact h.1
  generalize hbt:gU ((bt.map Prod.fst).map Bk.n) key.b=bh at*
  generalize hbp:lI ((bt.map Prod.fst).map Bk.n) key.b=i at*
  have k3:¬(3=k):=by omega
  have kn2:¬(k=n+2):=by omega
  have kn3:¬(k=n+2+1):=by omega
  have k2:¬(k=2):=by omega
  have k3':¬(k=3):=by omega
  refine Wp.bq (xAd (cj4 f3 fK n3 nn)) ?_;refine az.jb xA2 xAb (ca) (dp _ (by simp only[upd,kn2,Od];exact fk)) ?_;refine az.evR xA1 ?_;refine az.nil ⟨by simp[bg,aN,apart,aU],?_⟩;cases hb:hdB p.v with
  |false=>
   rw[hb] at dE;rw[Ob ah];refine Wp.dD (xAd dE) xAb eY (trivial) ?_;exact ⟨rfl,by simp only[upd,n1,Od];exact M.o1⟩
  |true=>
  rw[hb] at dE;rw[Oi rfl];cases bh with
  |false=>
   rw[Ob ah];refine Wp.dD (xAd dE) xAb eY (trivial) ?_;exact ⟨rfl,by simp only[upd,n1,Od];exact M.o1⟩
  |true=>
  rw[Oi rfl];have hi:=hbpl rfl;refine Wp.aH (xAd dE) ?_;refine aw.bO xA2 xAb (gV) ?_;refine aw.nil ?_;rw[<-hT];unfold my el2 el1 jl gI c64 zz;simp only[hdA,tlA,blX,thA,elA];refine Wp.bq (xAd (iw fK n3 nn z0 @N8.{0} @Oa.{0} Int.toNat_zero @OP.{0} @OU @Ol)) ?_;refine az.nil ⟨by simp[bg,aN,apart,aU,on,nn],?_⟩;have p1:(0:Int)<=(i:Int):=by omega
  have p2:(i:Int)<(bt.length:Int):=by omega
  refine Wp.aH (xAd (cj7 f3 n3 o3 p1 p2 @N7 @Ol)) ?_;refine aw.nil ?_;have hcl:=iB bt;have hC2:=GM bt i hi;have hTk:=Ea bt i hi;have hDr:=Eb bt i hi;have hset:=GN bt i hi (⟨(bt.getD i default).1.n,(bt.getD i default).1.st,(bt.getD i default).1.l++[⟨key.o,v0,hsz,hre,him,hg,hu,s⟩]⟩,m);have hmem:bt.getD i default∈bt:=by
   have e:bt.getD i default=bt[i]:=by simp[List.getD,N5 hi]
   rw[e];exact Pk hi
  have htk:=M.tk _ hmem;have htm:=M.tm _ hmem;have hvl:=M.vers _ hmem;have hfst:(bt.set i (⟨(bt.getD i default).1.n,(bt.getD i default).1.st,(bt.getD i default).1.l++[⟨key.o,v0,hsz,hre,him,hg,hu,s⟩]⟩,m)).map Prod.fst=s8 (bt.map Prod.fst) i ⟨key.o,v0,hsz,hre,him,hg,hu,s⟩:=by
   unfold s8;have e:(bt.map Prod.fst).getD i default=(bt.getD i default).1:=by simp[List.getD,N5 hi]
   rw[e,List.map_set]
  have hms:=λ{y x:Bk × Nat} (hx:x∈bt.set i y)=>yp M.nd hi hx;rw[<-hfst];generalize bt.getD i default=bb at*
  generalize fA bt=cs at*
  obtain ⟨⟨bn,bst,bl⟩,tk⟩:=bb;simp only at hC2 hTk hset htk htm hvl hms |-;have lv:=dF bl;have e6:(bl.length+1)*72<=140737488355328:=by omega
  have e7:bl.length+1<4611686018427387904:=by omega
  have y2:i*3+2+1<=cs.length:=by omega
  have kk:¬(n+2+1=k):=by omega
  have kk2:¬(2=k):=by omega
  have kk3:¬(n+2=k):=by omega
  refine Wp.bq (xAd (bf f3 f2 fK fk n3 n2 o3 o2 on nn oq (bf kn2 kn3 hC2 hTk hDr lv e6 e7 y2 htk hf (cj4 hl @N8.{0} @Oa.{0} @Ol)))) ?_;refine az.nil ⟨by simp[bg,aN,apart,aU,n3,o3,o2,oq,n2,on,nn] <;>omega,?_⟩;refine Wp.gS (xAd (bf f3 f2 n3 n2 o3 o2 k3 kk kk2 kk3 oq (cj2 hf hd))) ?_;refine az.nil ⟨by simp[bg,aN,apart,aU,n3,o3,o2,oq,n2,on,nn] <;>omega,?_⟩;have hvs:bV (bt.set i (⟨bn,bst,bl++[⟨key.o,v0,hsz,hre,him,hg,hu,s⟩]⟩,m)) k= .tsl 3 k 0 bt.length none:=by
   unfold bV;rw[Ob (by simpa using ho),List.length_set]
  have k0:¬(0=k):=by omega
  have k1:¬(1=k):=by omega
  have k4:¬(4=k):=by omega
  refine ⟨rfl,_,rfl,⟨k,by simp only[upd,n3,o3,k3,Od,Nat.reduceEqDiff,reduceIte];rw[hvs];exact f3,λ_=>⟨y1,by simp only;omega,_,by simp only[upd,k2,Of,Od];exact rfl,?_⟩⟩,by simp only[upd,Of],by simp only[upd,n0,o0,k0,Od,Nat.reduceEqDiff,reduceIte];exact M.o0,by simp only[upd,n1,o1,k1,Od,Nat.reduceEqDiff,reduceIte];exact M.o1,by simp only[upd,n4,o4,k4,Od,Nat.reduceEqDiff,reduceIte];exact M.o4,by simp only;omega,?_,?_,?_,by rw[List.length_set];omega,?_,pin⟩
  ·rw[hset];simp[o9,vss,cz];exact aA.refl _
  ·intro x hx;rcases hms hx with rfl|⟨h1,h2⟩
   ·exact PL
   ·refine QG _ (Pe.2 ⟨M.tk x h1,by simpa using h2⟩)
  ·intro x hx;rcases hms hx with rfl|⟨h1,h2⟩
   ·exact OL _
   ·have:=M.tm x h1;simp only;omega
  ·rw[List.map_set];refine Ec M.nd λhm=>?_;obtain ⟨x,hx,e⟩:=OC.1 hm;have:=M.tm x hx;omega
  ·intro x hx;rcases hms hx with rfl|⟨h1,h2⟩
   ·simp only[Og,List.length_cons,List.length_nil];omega
   ·have:=M.vers x h1;omega
theorem s9{L:List Pr}{J:Nat}{R:Option SS}{e:aO}{s':St}(h:QA L J R e s'):aO.inBlock 0 (QA L J R) e s':=by
 cases R with
 |none=>
  have h':=h;obtain ⟨h1,-⟩:=h';subst h1;exact h
 |some S=>
  have h':=h;obtain ⟨h1,-⟩:=h';subst h1;exact h
theorem GO{L:List Pr}{F:Nat->Option Av.Obj}{n:Nat}{toks:List Nat}{m:Nat}{bt:List (Bk × Nat)}{q:List Pc}{J k:Nat}{p:Pr}{key:Ky}(M:Mid L F n toks m bt q J k p key)(hok:key.ok)(hpv:p.v.length<=140737488355328):
  Wp Tryz.prog 161 gI ⟨tm [(0,.ptr 3 0),(3,.ptr n 0),(4,.ptr (n+1) 0)],⟨F,n+2,toks,m⟩⟩ (QA L J (lJ (bt.map Prod.fst,q) key p.v)):=by
 have WB:=λhk=>KW M (key:=key) hk;have WC:=λhk=>KX M hk hok hpv;have WV:=λhk=>KY M hk hok hpv;have hk:=hok.k;rw[AG];generalize hB:nt=B at*
 generalize hC:mw=C at*
 generalize hV:my=V at*
 generalize hD:elD=D at*
 unfold el2 el1 jl gI c64 zz;simp only[hdA,tlA,blX,thA,elA];have fK:=M.K;by_cases h1:key.k=1
 ·have d1:decide (key.k=1)=true:=N9 h1;refine rf0 (cj2 fK d1) ?_;refine Wp.mono (Wp.le (aM.of (aY ?_) (OLe.bZ _) (λx hx=>hx) (N4 _) (N4 _)) (WB h1)) (λe s' h=>s9 h);exact xSb
 have d1:decide (key.k=1)=false:=N6 h1;by_cases h3:key.k=3
 ·have d3:decide (key.k=3)=true:=N9 h3;refine rf0 (cj3 fK d1 d3) ?_;refine Wp.mono (Wp.le (aM.of (aY ?_) (OLe.bZ _) (λx hx=>hx) (N4 _) (N4 _)) (WC h3)) (λe s' h=>s9 h);exact xSb
 have d3:decide (key.k=3)=false:=N6 h3;by_cases h2:key.k=2
 ·have d2:decide (key.k=2)=true:=N9 h2;refine rf0 (cj4 fK d1 d3 d2) ?_;refine Wp.mono (Wp.le (aM.of (aY ?_) (OLe.bZ _) (λx hx=>hx) (N4 _) (N4 _)) (WV h2)) (λe s' h=>s9 h);exact xSb
 have d2:decide (key.k=2)=false:=N6 h2;have hR:lJ (bt.map Prod.fst,q) key p.v=none:=by
  unfold lJ;rw[Ob h1,Ob h3,Ob h2]
 rw[hR];refine rf0 (cj4 fK d1 d3 d2) ?_;rw[<-hD];unfold elD el2 el1 jl gI c64 zz;simp only[hdA,tlA,blX,thA,elA];refine Wp.vk xAc xAb eY (trivial) ?_;exact ⟨rfl,M.o1⟩
theorem mR{F:Nat->Option Av.Obj}{k:Nat}{cs cs':List AV}(h:F k=some (.cells cs))(hs:aA cs cs'):OLe F (upd F k (some (.cells cs'))):=λj o' hj=>by
 simp only[upd] at hj;split at hj
 ·rename_i e;subst e;cases hj;exact ⟨_,h,hs⟩
 ·exact ⟨o',hj,cm.refl _⟩
set_option maxHeartbeats 2000000 in
theorem J5(L:List Pr)(h:H)(bt:List (Bk × Nat))(q:List Pc)(J:Nat)(hJ:J<=5000)(I:mX L h bt q J)(p:Pr)(hpk:p.k.length<=140737488355328)(hpv:p.v.length<=140737488355328):
  Wp Tryz.prog 161 c64 ⟨fH [.ptr 3 0,.agg [.str p.k,.str p.v]],h⟩ (QA L J (lA (bt.map Prod.fst,q) p)):=by
 obtain ⟨F,n,toks,m⟩:=h;obtain ⟨k,f3,hrow⟩:=I.row;have f2:=I.mp;have f0:=I.o0;have f1:=I.o1;have f4:=I.o4;have hn:=I.hn;have htk:=I.tk;have htm:=I.tm;simp only at f3 hrow f2 f0 f1 f4 hn htk htm;obtain ⟨F',hle,g3,g2,g0,g1,g4,gk⟩:∃F',OLe F F'/\F' 3=some (.cells [bV bt k,.mp 2])/\F' 2=some (.map (gH q))/\F' 0=some (.cells [.sl 2 (prs L) .any])/\F' 1=some (.cells [.sl 3 [] (.exact 0)])/\F' 4=some (.cells [.ptr 3 0])/\(bt≠[]->5<=k/\k<n/\F' k=some (.cells (fA bt))):=by
  by_cases ho:bt=[]
  ·exact ⟨F,OLe.bZ _,f3,f2,f0,f1,f4,λx=>absurd ho x⟩
  ·obtain ⟨a,b,cs,c,d⟩:=hrow ho;refine ⟨upd F k (some (.cells (fA bt))),mR c d,?_,?_,?_,?_,?_,λ_=>⟨a,b,by simp[upd]⟩⟩;all_goals
    simp only[upd];rw[Ob ae];assumption
 refine Wp.le (aM.of (λ_=>ay.refl _) hle (λx hx=>hx) (N4 _) (N4 _)) ?_;have W:=λ(key:Ky) (M:Mid L (upd (upd (upd F' n (some (.cells [.str p.k,.str p.v]))) (n+1) (some (.cells [.int .i64 0,.str [],.str [],.sl 1 [] (.exact 0)]))) (n+1) (some (.cells [.int .i64 key.k,.str key.b,.str key.o,.sl 1 (ints key.ns) .any]))) n toks m bt q J k p key) hok=>GO M hok hpv;have n3:¬(3=n):=by omega
 have n4:¬(4=n):=by omega
 have n0:¬(0=n):=by omega
 have n1:¬(1=n):=by omega
 have n2:¬(2=n):=by omega
 have m3:¬(3=n+1):=by omega
 have m4:¬(4=n+1):=by omega
 have m0:¬(0=n+1):=by omega
 have m1:¬(1=n+1):=by omega
 have m2:¬(2=n+1):=by omega
 have nn:¬(n=n+1):=by omega
 have cp:=IJ p.k hpk;have hpe:mu p.k=if cF p.k then 0 else 4:=rfl
 have hS:lA (bt.map Prod.fst,q) p=if cF p.k=true then lJ (bt.map Prod.fst,q) (bc p.k) p.v else none:=rfl
 rw[hS,Jd];generalize hT:gI=T at*
 unfold c64 zz;simp only[hdA,tlA];cases hb:cF p.k with
 |false=>
  rw[hb] at hpe;rw[Ob ah] at hpe |-;rw[hpe] at cp;unfold di at cp;refine Wp.aH xAc ?_;refine aw.nil ?_;refine Wp.aH xAc ?_;refine aw.bO xA2 xAb (cp) ?_;refine aw.evF (xAd nn) ?_;refine aw.nil ?_;refine Wp.dD (xAd nn) xAb eY (trivial) ?_;exact ⟨rfl,by simp only[upd,n1,m1,Od];exact g1⟩
 |true=>
  rw[hb] at hpe;rw[Oi rfl] at hpe |-;rw[hpe] at cp;have hok:=(sW hb).1;have W2:=W (bc p.k);unfold di at cp;generalize bc p.k=key at*
  refine Wp.aH xAc ?_;refine aw.nil ?_;refine Wp.aH xAc ?_;refine aw.bO xA2 xAb (cp) ?_;refine aw.evF (xAd nn) ?_;refine aw.nil ?_;refine Wp.aH (xAd nn) ?_;refine aw.bO xA2 xAb (gV) ?_;refine aw.nil ?_;refine Wp.le (aM.of (aY ?_) (OLe.bZ _) (λx hx=>hx) (N4 _) (N4 _)) (W2 ?_ hok)
  ·exact xSb
  ·refine ⟨λho=>⟨(gk ho).1,(gk ho).2.1⟩,hn,?_,λho=>?_,?_,?_,?_,?_,?_,?_,htk,htm,I.nd,I.len,I.vers,I.pcs,hJ⟩
   ·simp only[upd,n3,m3,Od];exact g3
   ·obtain ⟨a,b,c⟩:=gk ho;have e1:¬(k=n):=by omega
    have e2:¬(k=n+1):=by omega
    simp only[upd,e1,e2,Od];exact c
   ·simp only[upd,n2,m2,Od];exact g2
   ·simp only[upd,n0,m0,Od];exact g0
   ·simp only[upd,n1,m1,Od];exact g1
   ·simp only[upd,n4,m4,Od];exact g4
   ·simp only[upd,nn,Od,Of]
   ·simp only[upd,Of]
theorem GP{L:List Pr}{h:H}{bt:List (Bk × Nat)}{q:List Pc}{J:Nat}(hJ:J<=5000)(I:mX L h bt q J){p:Pr}(hpk:p.k.length<=140737488355328)(hpv:p.v.length<=140737488355328){S:SS}(hS:lA (bt.map Prod.fst,q) p=some S):
  ∃r h',bB Tryz.prog 64 [.ptr 3 0,.agg [.str p.k,.str p.v]] h r h'/\(h.n<=h'.n/\h.m<=h'.m)/\∃bt',bt'.map Prod.fst=S.1/\mX L h' bt' S.2 (J+1):=by
 have W:=J5 L h bt q J hJ I p hpk hpv;rw[hS] at W;exact aV.vn (Q:=λ_ h'=>∃bt',bt'.map Prod.fst=S.1/\mX L h' bt' S.2 (J+1)) f64 ah (W.mono λe s' hq=>⟨jm hq.1,_,rfl,hq.2⟩)
theorem B7{L:List Pr}{h:H}{bt:List (Bk × Nat)}{q:List Pc}{J:Nat}(hJ:J<=5000)(I:mX L h bt q J){p:Pr}(hpk:p.k.length<=140737488355328)(hpv:p.v.length<=140737488355328)(hS:lA (bt.map Prod.fst,q) p=none):
  ∃h',eN Tryz.prog 64 [.ptr 3 0,.agg [.str p.k,.str p.v]] h v4 h'/\(h.n<=h'.n/\h.m<=h'.m)/\h'.objs 1=some (.cells [.sl 3 [] (.exact 0)]):=by
 have W:=J5 L h bt q J hJ I p hpk hpv;rw[hS] at W;obtain ⟨v,h',a,b,rfl,c⟩:=aV.xd (Q:=λv h'=>v=v4/\h'.objs 1=some (.cells [.sl 3 [] (.exact 0)])) f64 ah (W.mono λe s' hq=>⟨_,hq.1,rfl,hq.2⟩);exact ⟨h',a,b,c⟩
theorem Je:aI Tryz.prog 148 [.int .u64 0] (.int .i64 0):=by
 refine f148.aF ah (by simp[aJ,aW]) rfl ?_;unfold LX zz;refine rn0 Qw ?_;refine aG ?_;exact ay.refl _
theorem KZ:aI Tryz.prog 95 [.int .u64 0] (.int .i64 0):=by
 refine f95.aF ah (by simp[aJ,aW]) rfl ?_;unfold c95 zz;refine rn1 Qw Je ?_;refine aG ?_;exact ay.refl _
theorem No(g:AV)(hg:aW g=true):aI Tryz.prog 139 [.sl 2 [] .any,.int .i64 0,.int .i64 0,g] (.tup []):=by
 refine f139.aF ah (by simp[aJ,aW,bA,hg]) rfl ?_;unfold LW zz;refine rn0 Qw ?_;refine Wp.dJ [1,2] xA6 (λj:Nat=>[(8,.int .i64 1)]) (λj=>j=0) (λj=>j) 0 rfl ?_ ?_
 ·exact xSb
 rintro j hj;refine rn0 Qw ?_;exact ⟨trivial,_,rfl,ay.refl _⟩
theorem Np(g:AV)(hg:aW g=true):aI Tryz.prog 94 [.sl 2 [] .any,.int .i64 0,.int .i64 0,.int .i64 0,g] (.tup []):=by
 refine f94.aF ah (by simp[aJ,aW,bA,hg]) rfl ?_;have c1:=No g hg;unfold c94 zz;refine rn0 Qw ?_;refine Wp.dJ [0,1,2,3,4] xA6 (λj:Nat=>[]) (λj=>j=0) (λj=>j) 0 rfl ?_ ?_
 ·trivial
 rintro j hj;refine rn1 Qw c1 ?_;exact Wp.ret ⟨trivial,_,rfl,ay.refl _⟩
theorem Jf:aI Tryz.prog 45 [.sl 2 [] .any,.clo (.func 46) [] []] (.tup []):=by
 refine f45.aF ah (by simp[aJ,aW,bA]) rfl ?_;have c1:=Np (.clo (.func 46) [] []) rfl;unfold c45 zz;refine rn2 Qw KZ c1 ?_;exact ⟨trivial,_,rfl,ay.refl _⟩
def pT(o:List Pr):Av.Obj:= .cells (o.flatMap encA)
def rV(o:List Pr)(k:Nat):AV:=if o=[] then .sl 2 [] (.exact 0) else .tsl 2 k 0 o.length none
def rO(o:List Pr)(k:Nat)(f:Nat->Option Av.Obj):Nat->Option Av.Obj:=upd (if o=[] then f else upd f k (some (pT o))) 1 (some (.cells [rV o k]))
theorem GQ(o:List Pr)(k:Nat)(f:Nat->Option Av.Obj):rO o k f 1=some (.cells [rV o k]):=by simp[rO,upd]
theorem GR{o:List Pr}{k:Nat}{f:Nat->Option Av.Obj}(h:o≠[])(hk:k≠1):rO o k f k=some (pT o):=by simp[rO,upd,h,hk]
theorem lB{o:List Pr}{k j:Nat}{f:Nat->Option Av.Obj}(h1:j≠1)(h2:o≠[]->j≠k):rO o k f j=f j:=by
 unfold rO;by_cases ho:o=[]
 ·simp[upd,ho,h1]
 ·simp[upd,ho,h1,h2 ho]
theorem GS{o:List Pr}{k:Nat}{g f:Nat->Option Av.Obj}(h1:g 1=some (.cells [rV o k]))(h2:o≠[]->g k=some (pT o))(h3:OLe g f):OLe g (rO o k f):=by
 intro j p hp;unfold rO at hp;simp only[upd] at hp;split at hp
 ·rename_i e;subst e;cases hp;exact ⟨_,h1,cm.refl _⟩
 ·split at hp
  ·exact h3 j p hp
  ·rename_i ho;simp only[upd] at hp;split at hp
   ·rename_i e;subst e;cases hp;exact ⟨_,h2 ho,cm.refl _⟩
   ·exact h3 j p hp
theorem yq(o:List Pr)(p:Pr):o.flatMap encA++([.agg [.str p.k,.str p.v]]:List AV).flatMap cellsOf=(o++[p]).flatMap encA:=by simp[encA,cellsOf]
theorem AH(o:List Pr):(o.flatMap encA).length=o.length*2:=xA o
theorem OLe.one{g:Nat->Option Av.Obj}{L:Nat}{A:Av.Obj}(h:g L=some A):OLe g (upd aB L (some A)):=by
 intro j p hp;simp only[upd,aB] at hp;split at hp
 ·rename_i e;subst e;cases hp;exact ⟨_,h,cm.refl _⟩
 ·cases hp
theorem wq{o:List Pr}{k L:Nat}{A B:Option Av.Obj}(h1:L≠1)(h2:o≠[]->k≠L):upd (rO o k (upd aB L A)) L B=rO o k (upd aB L B):=by
 funext j;unfold rO;by_cases ho:o=[]
 ·simp only[ho,Of,upd];by_cases a:j=L
  ·subst a;simp[h1]
  ·simp[a]
 ·simp only[ho,Od,upd];by_cases a:j=L
  ·subst a;simp[h1,Ql (h2 ho)]
  ·simp[a]
theorem K0{o:List Pr}{k L:Nat}{A:Option Av.Obj}(h1:L≠1)(h2:o≠[]->k≠L):(λj=>if j=L then none else rO o k (upd aB L A) j)=rO o k aB:=by
 funext j;unfold rO;by_cases a:j=L
 ·subst a;by_cases ho:o=[]
  ·simp[upd,ho,h1,aB]
  ·simp[upd,ho,h1,Ql (h2 ho),aB]
 ·by_cases ho:o=[]
  ·simp[upd,ho,a]
  ·simp[upd,ho,a]
theorem GU(L:Nat):upd (aB:Nat->Option Av.Obj) L none=aB:=by
 funext j;simp[upd,aB]
theorem K3{o:List Pr}{k L:Nat}{B:Option Av.Obj}(h1:L≠1)(h2:o≠[]->k≠L):upd (rO o k aB) L B=rO o k (upd aB L B):=by
 have:=wq (o:=o) (k:=k) (L:=L) (A:=none) (B:=B) h1 h2
 rwa [GU] at this
def qB(R:List (List Ch))(j:Nat):List Pr:=(R.take j).flatten.map dy
def hIn(o:List Pr)(k L:Nat)(lp:Av.Obj)(n m:Nat):H:=⟨rO o k (upd aB L (some lp)),n,[],m⟩
set_option maxHeartbeats 4000000 in
theorem Jg(m:List Bk)(hf:Few m)(hF:imB m=true->(aZ m).length<=100000){Q:AV->H->Prop}
  (q1:∀h,(if imB m=true then aP (aZ m) else [])=[]->Q (.tup [.sl 2 [] (.exact 0),.int .i64 (imE m)]) h)
  (q2:imB m=true->∀k h,h.objs k=some (.cells ((aP (aZ m)).flatMap encA))->h.toks=[]->k<h.n->Q (.tup [.tsl 2 k 0 (aP (aZ m)).length none,.int .i64 0]) h):
  ∃r h',bB Tryz.prog 13 [cC m] (H0 0 0) r h'/\Q r h':=by
 refine f13.fe ah ?_;unfold c13;have h1:=vL m hf;have len:=eK m;unfold imE at*
 cases hm:imB m with
 |false=>
  rw[hm] at h1 q1;simp only[Oq,Od,true_implies] at h1 q1;unfold cC at*
  refine tA h1 ?_;refine aG ?_;exact q1 _
 |true=>
  rw[hm] at h1 q1;simp only[Of] at h1 q1
  replace q2:=q2 hm
  unfold cC at*
  obtain ⟨hl,hok⟩:=sG hm
  replace hF:=hF hm
  refine rf1 @len h1 ?_;refine Wp.le (s':=⟨tm [(5,.ptr 1 0),(17,.sl 3 (bks m) .any),(18,.int .i64 m.length),(19,.int .i64 0)],⟨rO [] 0 aB,2,[],0⟩⟩) (aM.of (aY ?_) (GS ?_ (λh=>absurd rfl h) (OLe.none _)) (λa ha=>ha) (N4 _) (N4 _)) ?_
  ·exact xSb
  ·simp[upd,rV]
  refine Wp.cO [5,17,18] xA7 (λb:Nat × Nat × Nat × Nat=>[(19,.int .i64 (b.1:Nat))]) (λb=>⟨rO (aZ (m.take b.1)) b.2.1 aB,b.2.2.1,[],b.2.2.2⟩)
   (λb=>b.1<=m.length/\2<=b.2.2.1/\(aZ (m.take b.1)≠[]->b.2.1<b.2.2.1/\b.2.1≠1)) (λb=>m.length - b.1) (0,0,2,0) ⟨Ot _,N4 _,λh=>absurd rfl h⟩ rfl ?_ ?_
  ·exact xSb
  rintro ⟨j,k,n,mm⟩ ⟨hj,hn2,hk⟩;simp only at hj hn2 hk;by_cases hc:j<m.length
  ·obtain ⟨g1,g2,g3,e1⟩:=dZ hc (OI hl aq);have hat:=gC m j .any hc;have hb:=hok j hc;have hfe:=hf.at j;have hsn:=sO m j hc;have hle:=xO m (j+1);rw[hsn,Og] at hle;have c1:=F9 (m.getD j default);have hTH:=Gu (m.getD j default) hb hfe;have hFB:gD (m.getD j default)=(cw (m.getD j default)).flatten.map dy:=rfl;rw[hFB] at hsn hle;generalize cw (m.getD j default)=R at*
   generalize hP0:aZ (m.take j)=P0 at*
   generalize m.getD j default=b at*
   clear hFB;obtain ⟨nm,st,vl⟩:=b;unfold eA at hat c1;have n1:¬(1=n):=by omega
   refine rf1 (cj6 g1 g2 g3 @len hat @N7) c1 ?_;refine Wp.le (s':=⟨tm [(5,.ptr 1 0),(17,.sl 3 (bks m) .any),(18,.int .i64 m.length),(19,.int .i64 j),(24,.clo (.func 91) [] [.ref [.str nm,.int .i64 st,.sl 8 (vss vl) .any]])],⟨rO P0 k aB,n+1,[],mm⟩⟩) (aM.of (aY ?_) ?_ (λa ha=>ha) (N4 _) (N4 _)) ?_
   ·exact xSb
   ·intro a u hu;have hne:a≠n:=by
     rintro rfl;rw[lB ae (λh=>by have:=(hk h).1;omega)] at hu;cases hu
    exact ⟨u,by simp only[upd,hne,Od];exact hu,cm.refl _⟩
   generalize hL:n+1=L at*
   have hkL:P0≠[]->k<L/\k≠1:=λh=>⟨by have:=(hk h).1;omega,(hk h).2⟩;have hL1:L≠1:=by omega
   have hL2:1<L:=by omega
   clear hk;refine Wp.E6 (fi:=91) (first:=[]) (caps:=[.ref [.str nm,.int .i64 st,.sl 8 (vss vl) .any]]) (by simp only[go_sem,reduceIte,Nat.reduceEqDiff]) (Tryz.func91) rfl (Ox (by kernel_rfl)) (lB hL1 (λh=>by show L≠k;have:=(hkL h).1;omega)) λasg body a1 a2 a3 a4=>?_;generalize hT:tm [(5,AV.ptr 1 0),(17,.sl 3 (bks m) .any),(18,.int .i64 m.length),(19,.int .i64 j),(24,.clo (.func 91) [] [.ref [.str nm,.int .i64 st,.sl 8 (vss vl) .any]])]=tt at*
   have t5:tt 5= .ptr 1 0:=by rw[<-hT];rfl
   refine (hTH L (λi h=>∃k' n' m',h=hIn (P0++qB R i) k' L (.loop 45 tt [25] asg body .ready none) n' m'/\L<n'/\(P0++qB R i≠[]->k'<n'/\k'≠1/\k'≠L)) (λ_=>False) ?_ ?_ ?_ _ ?_).mono ?_
   ·rintro i h ⟨k',n',m',rfl,q1,q2⟩;refine ⟨λa ha=>?_,λt ht=>by cases ht⟩;have ha:n'<=a:=ha;show rO _ _ _ a=none;rw[lB ae (λh=>by have:=(q2 h).1;omega)];have:a≠L:=by omega
    simp[upd,this,aB]
   ·rintro i h n2 m2 ⟨k',n',m',rfl,q1,q2⟩ hn hm;have hn:n'<=n2:=hn;exact ⟨k',n2,m2,rfl,ae,λh=>⟨by have:=(q2 h).1;omega,(q2 h).2⟩⟩
   ·rintro i h t m2 hi ⟨k',n',m',rfl,q1,q2⟩ ht1 ht2;have hob:rO (P0++qB R i) k' (upd aB L (some (Av.Obj.loop 45 tt [25] asg body .ready none))) L=some (.loop 45 tt [25] asg body .ready none):=by
     rw[lB hL1 (λh=>Ql (q2 h).2.2)];simp[upd]
    refine nJ (t:=tt) (ps:=[25]) hob a1 a2 a3 a4 rfl ah ?_;refine Wp.oy (by simp only[go_sem,reduceIte,Nat.reduceEqDiff,kh];exact rfl) al ⟨rfl,tt,hob,?_⟩;clear hob;simp only[hIn];rw[wq hL1 (λh=>(q2 h).2.2)];have hsr:=uH R i hi;have hlr:=BR R (i+1);rw[hsr,Og] at hlr;have hr1:qB R i=(R.take i).flatten.map dy:=rfl;have hr2:qB R (i+1)=qB R i++(R.getD i []).map dy:=hsr;rw[hr2];have cl:=fj (R.getD i []);generalize R.getD i []=r at*
    have hb2:(P0++qB R i).length+r.length<=100000:=by
     have q1:r.length=(r.map dy).length:=(PF _).symm;rw[Og,q1,hr1];exact OI ae hF
    rw[<-OX];generalize P0++qB R i=P1 at*
    clear hr1 hr2 hsr hlr ht1;refine rf0 (cj2 cl t5) ?_;refine Wp.le (s':=⟨tm [(5,.ptr 1 0),(26,.sl 3 (chs r) .any),(27,.int .i64 r.length),(28,.int .i64 0)],⟨rO P1 k' (upd aB L (some (Av.Obj.loop 45 tt [25] asg body .busy none))),n',[],m2⟩⟩) (aM.of (aY ?_) (OLe.bZ _) (λa ha=>by cases ha) (N4 _) (N4 _)) ?_
    ·simp only[aQ,go_sem,reduceIte,Nat.reduceEqDiff,Nat.reduceAdd,bx,t5];and_intros<;>first|exact trivial|exact ay.refl _|exact ay.any _|exact ay.cap|(refine ay.int ?_;omega)
    generalize hbz:Av.Obj.loop 45 tt [25] asg body .busy none=bz at*
    refine Wp.cO [5,26,27] xA7 (λb:Nat × Nat × Nat=>[(28,.int .i64 (b.1:Nat))]) (λb=>⟨rO (P1++(r.take b.1).map dy) b.2.1 (upd aB L (some bz)),b.2.2,[],m2⟩)
     (λb=>b.1<=r.length/\L<b.2.2/\(P1++(r.take b.1).map dy≠[]->b.2.1<b.2.2/\b.2.1≠1/\b.2.1≠L)) (λb=>r.length - b.1) (0,k',n') ⟨Ot _,q1,by simpa using q2⟩ ah ?_ ?_
    ·exact xSb
    rintro ⟨i2,k2,n2⟩ ⟨hi2,hn3,hk2⟩;simp only at hi2 hn3 hk2;by_cases hci:i2<r.length
    ·obtain ⟨i1,i3,i4,i5⟩:=dZ hci (OI (OI (Nat.le_add_left _ _) hb2) aq);have hai:=xt r i2 .any hci;have hsi:=sN dy r i2 hci;have hPn:(P1++(r.take i2).map dy).length<=100000:=by
      rw[Og,PF,OV];omega
     have hsn2:P1++(r.take (i2+1)).map dy=(P1++(r.take i2).map dy)++[dy (r.getD i2 default)]:=by rw[hsi,OX]
     generalize r.getD i2 default=c at*
     generalize P1++(r.take i2).map dy=P at*
     clear hsi;obtain ⟨ck,cv,cd⟩:=c;unfold sf at hai;have x1:¬(1=n2):=by omega
     have x2:¬(1=n2+1):=by omega
     have x3:¬(n2=n2+1):=by omega
     have x4:¬(L=n2):=by omega
     have x5:¬(L=n2+1):=by omega
     have x6:¬(L=1):=hL1;have hF1:=GQ P k2 (upd aB L (some bz));have hFL:rO P k2 (upd aB L (some bz)) L=some bz:=by
      rw[lB hL1 (λh=>Ql (hk2 h).2.2)];simp[upd]
     by_cases ho:P=[]
     ·subst ho;have hv:rV [] k2= .sl 2 [] (.exact 0):=rfl;rw[hv] at hF1;generalize rO [] k2 (upd aB L (some bz))=F at*
      refine rf0 (cj6 i1 i3 i4 cl hai @N7) ?_;refine Wp.zp ?_;refine aw.op1 af (by simp only[go_sem,reduceIte,Nat.reduceEqDiff,Nat.reduceAdd,bx,ax,Of,Od,Nat.reduceMul,Nat.reduceLeDiff,x1,hF1];exact rfl) ?_;simp only[bL];refine aw.op1 af (by simp only[go_sem,reduceIte,Nat.reduceEqDiff,Nat.reduceAdd,bx,ax,Of,Od,Nat.reduceMul,Nat.reduceLeDiff,x1,hF1];exact rfl) ?_;simp only[bL];refine aw.op1 af (by simp only[go_sem,reduceIte,Nat.reduceEqDiff,Nat.reduceAdd,bx,ax,Of,Od,Nat.reduceMul,Nat.reduceLeDiff,x1,hF1];exact rfl) ?_;simp only[bL];refine aw.op1 af (by simp only[go_sem,reduceIte,Nat.reduceEqDiff,Nat.reduceAdd,bx,ax,Of,Od,Nat.reduceMul,Nat.reduceLeDiff,x1,hF1];exact rfl) ?_;simp only[bL];refine aw.op1 af (by simp only[go_sem,reduceIte,Nat.reduceEqDiff,Nat.reduceAdd,bx,ax,Of,Od,Nat.reduceMul,Nat.reduceLeDiff,x1,hF1];exact rfl) ?_;simp only[bL];refine aw.op1 af (by simp only[go_sem,reduceIte,Nat.reduceEqDiff,Nat.reduceAdd,bx,ax,Of,Od,Nat.reduceMul,Nat.reduceLeDiff,x1,hF1];exact rfl) ?_;simp only[bL];refine aw.op1 af (by simp only[go_sem,reduceIte,Nat.reduceEqDiff,Nat.reduceAdd,bx,ax,Of,Od,Nat.reduceMul,Nat.reduceLeDiff,x1,hF1];exact rfl) ?_;simp only[bL];refine aw.opT af (by simp only[lF,go_sem,reduceIte,Nat.reduceEqDiff,Nat.reduceAdd,bx,List.all_cons,List.all_nil,List.length_cons,List.length_nil,Nat.reduceMul,Nat.reduceLeDiff,Nat.reduceLT,Nat.zero_lt_succ,Ol,Of,OE,PG];exact rfl) ?_;simp only[bL];refine aw.evF (xAd (cj4 x1 x2 x3 hF1)) ?_;refine dI ?_;refine ⟨(i2+1,n2+1,n2+2),⟨hci,by show L<n2+2;omega,λ_=>⟨by show n2+1<n2+2;omega,by show n2+1≠1;omega,by show n2+1≠L;omega⟩⟩,PB hci (OL _),?_⟩;rw[hsn2];refine aM.of (aY ?_) (GS ?_ (λ_=>?_) (OLe.one ?_)) (λ_ h=>h) (N4 _) (N4 _)
      ·exact cM i5
      ·simp[upd,rV,dy]
      ·simp only[upd];rw[Ob (show ¬(n2+1=1) by omega),Oi trivial];simp[pT,encA,dy,cellsOf]
      ·simp only[upd,x4,x5,x6,Od];exact hFL
     ·have hv:rV P k2= .tsl 2 k2 0 P.length none:=by rw[rV,Ob ho]
      obtain ⟨y1,y2,y3⟩:=hk2 ho;have hFk:=GR (f:=upd aB L (some bz)) ho y2;rw[hv] at hF1;generalize rO P k2 (upd aB L (some bz))=F at*
      have x7:¬(k2=n2):=by omega
      have x8:¬(k2=1):=y2;have x9:¬(1=k2):=Ql y2;have x10:¬(L=k2):=Ql y3;have hcl:=AH P;have r1:(P.length+1)*32<=140737488355328:=OI (PD _ (Nat.succ_le_succ hPn)) aq;have r2:P.length+1<4611686018427387904:=by omega
      have hcs:=yq P ⟨ck,cv⟩;simp only at hcs;refine rf0 (cj6 i1 i3 i4 cl hai @N7) ?_;refine Wp.zp ?_;refine aw.evF (xAd (cj2 x1 hF1)) ?_;refine aw.opK af (by simp only[mT,go_sem,reduceIte,Nat.reduceEqDiff,Nat.reduceAdd,bx,List.all_cons,List.all_nil,List.length_cons,List.length_nil,x7,hFk,pT,hcl,r1,r2,Ol,Of,Od,OE,PG,hcs];exact rfl) ?_;simp only[bL];refine aw.evF (xAd (cj5 x1 x2 x3 x9 hF1)) ?_;refine dI ?_;refine ⟨(i2+1,n2+1,n2+2),⟨hci,by show L<n2+2;omega,λ_=>⟨by show n2+1<n2+2;omega,by show n2+1≠1;omega,by show n2+1≠L;omega⟩⟩,PB hci (OL _),?_⟩;rw[hsn2];refine aM.of (aY ?_) (GS ?_ (λ_=>?_) (OLe.one ?_)) (λ_ h=>h) (N4 _) (N4 _)
      ·exact cM i5
      ·have:P++[dy ⟨ck,cv,cd⟩]≠[]:=by simp
       simp[upd,rV,this]
      ·simp only[upd];rw[Ob (show ¬(n2+1=1) by omega),Oi trivial];simp[pT,dy]
      ·simp only[upd,x4,x5,x6,x10,Od];exact hFL
    ·have hi3:i2=r.length:=by omega
     subst hi3;have ig:=fX r.length;rw[OG] at hk2 |-;refine rf0 ig ?_;simp only[aO.inBlock];refine ⟨tt,true,.ready,none,?_,.normal,λ_ _=> .inl ⟨rfl,k2,n2,m2,?_,hn3,hk2⟩⟩
     ·show rO _ _ _ L=_;rw[lB hL1 (λh=>Ql (hk2 h).2.2),<-hbz];simp[upd]
     ·simp only[hIn];rw[wq hL1 (λh=>(hk2 h).2.2)]
   ·exact ⟨k,L+1,mm,by simp only[hIn,qB,List.take_zero,List.flatten_nil,OQ,OR];rw[K3 hL1 (λh=>by have:=(hkL h).1;omega)],ae,by simpa [qB] using λh=>⟨by have:=(hkL h).1;omega,(hkL h).2,by have:=(hkL h).1;omega⟩⟩
   ·rintro r h' ⟨rfl,⟨k',n',m',rfl,q1,q2⟩|hx⟩
    case inr=>exact absurd hx (λh=>h)
    have hall:qB R R.length=R.flatten.map dy:=by unfold qB;rw[OG]
    rw[hall,<-hsn] at q2 |-;refine ⟨tt,.ready,none,.normal,?_,by simp,.none,?_⟩
    ·show rO _ _ _ L=_;rw[lB hL1 (λh=>Ql (q2 h).2.2)];simp[upd]
    ·simp only[hIn];rw[K0 hL1 (λh=>(q2 h).2.2)];simp only[aO.inBlock,aO.andThen];rw[<-hT];refine rf0 e1 ?_;refine ⟨(j+1,k',n',m'),⟨hc,by show 2<=n';omega,λh=>⟨(q2 h).1,(q2 h).2.1⟩⟩,PB hc (OL _),?_⟩;refine aM.tm ?_;exact xSb
  ·have hj2:j=m.length:=by omega
   subst hj2;have g1:=fX m.length;rw[OG] at hk |-;have hF1:=GQ (aZ m) k aB;by_cases ho:aZ m=[]
   ·have hv:rV (aZ m) k= .sl 2 [] (.exact 0):=by rw[rV,Oi ho]
    have he:aP (aZ m)=[]:=by rw[ho];rfl
    rw[hv] at hF1;generalize rO (aZ m) k aB=F at*
    rw[he] at q1;refine rf1 (cj2 g1 hF1) Jf ?_;refine aG ?_;exact q1 _ rfl
   ·have hv:rV (aZ m) k= .tsl 2 k 0 (aZ m).length none:=by rw[rV,Ob ho]
    obtain ⟨y1,y2⟩:=hk ho;have hFk:=GR (f:=aB) ho y2;rw[hv] at hF1;obtain ⟨p1,p2⟩:=sP (gF hm) (sR hm);have hsort:=KA (aZ m) (aP (aZ m)) (Qn.2 ho) ae p1 (Gi (gF hm)) (Ai (gF hm)) (iz _) p2 (id:=k) (h:=⟨rO (aZ m) k aB,n,[],mm⟩) hFk rfl;have x9:¬(1=k):=Ql y2;generalize rO (aZ m) k aB=F at*
    refine rf0 (cj2 g1 hF1) ?_;refine aw.jb (h':=⟨upd F k (some (.cells ((aP (aZ m)).flatMap encA))),n,[],mm⟩) af xA4 ⟨N4 _,N4 _⟩ hsort ?_;refine aw.evF xAc ?_;refine rf0 (cj2 x9 hF1) ?_;refine aG ?_;rw[<-p1];exact q2 k _ (by simp[upd]) rfl y1
theorem te(m:List Bk)(hf:Few m)(hF:imB m=true->(aZ m).length<=100000):aI Tryz.prog 13 [cC m] (.tup [.sl 2 (prs (if imB m=true then aP (aZ m) else [])) .any,.int .i64 (imE m)]):=by
 obtain ⟨r,h',hc,u⟩:=Jg m hf hF (Q:=λq h=>UpK h q (.tup [.sl 2 (prs (if imB m=true then aP (aZ m) else [])) .any,.int .i64 (imE m)])) (λh e=>by
  rw[e];exact .inl (ay.tup (aA.cons ay.cap (aA.refl _)))) (λhm k h e _ _=>by
  have hE:imE m=0:=by unfold imE;rw[Oi hm]
  rw[Oi hm,hE];refine .inr ⟨(aP (aZ m)).map encA,k,2,[.int .i64 0],by rw[PF],λx hx=>?_,?_,?_⟩
  ·obtain ⟨p,-,rfl⟩:=OC.1 hx;rfl
  ·simpa [List.flatMap] using e
  ·refine ay.of_eq ?_;simp[prs,fh,encA])
 exact (hc.upK u).Bi (cP _ (by simp[aJ,dR])) (ay.refl _) (dV _ (by simp[aW,aJ,bA,dX]))
def GV(p:Pr):Bool:=decide ((bc p.k).k=1)
def Jh(p:Pr):Bk:=⟨(bc p.k).b,stV p.v,[]⟩
def bk1(l:List Pr):List Bk:=(l.filter GV).map Jh
def cell0(b:Bk):List AV:=[.str b.n,.int .i64 b.st,.sl 8 [] (.exact 0)]
def zIm:Av.Obj:= .cells [.sl 3 [] (.exact 0)]
def mV(o:List Bk)(k:Nat):AV:=if o=[] then .sl 3 [] (.exact 0) else .tsl 3 k 0 o.length none
def fN(v:AV):Nat->Option Av.Obj:=upd (upd aB 0 (some zIm)) 1 (some (.cells [v]))
def mO(o:List Bk)(k:Nat):Nat->Option Av.Obj:=if o=[] then fN (mV o k) else upd (fN (mV o k)) k (some (.cells (o.flatMap cell0)))
def QI(A:AV):aO->St->Prop:=λe s'=>jf e/\∃q,je [.cell 2 (some 1),.tmp 3] s'.t s'.h=some q/\UpF s'.h q A
def gW:AC:=tlA (tlA (tlA c21))
theorem Ji:c21= .seq (hdA c21) (.seq (hdA (tlA c21)) (.seq (hdA (tlA (tlA c21))) gW)):=rfl
def qC:AV:= .tup [.agg [.sl 3 [] .any],.int .i64 4]
theorem bT(l:List Pr)(j:Nat)(d:AV)(h:j<l.length):(prs l).getD j d= .agg [.str (l.getD j default).k,.str (l.getD j default).v]:=by
 simp[prs,fh,List.getD,N5 h]
theorem GW(l:List Pr)(j:Nat)(h:j<l.length):bk1 (l.take (j+1))=if GV (l.getD j default) then bk1 (l.take j)++[Jh (l.getD j default)] else bk1 (l.take j):=by
 have e:l.getD j default=l[j]:=by simp[List.getD,N5 h]
 unfold bk1;rw[OD h,e,List.filter_append];cases hi:GV l[j] <;>simp[hi]
theorem AI(l:List Pr):(bk1 l).length<=l.length:=by
 unfold bk1;rw[PF];exact List.length_filter_le _ _
theorem uP:∀P:List Bk,(P.flatMap cell0).length=P.length*3
 |[]=>rfl
 |a::P=>by
  have:=uP P;simp only[PS,Og,List.length_cons];have:(cell0 a).length=3:=rfl;omega
theorem K4(l:List Pr)(hl:l.length<=2000)(hk:∀p∈l,p.k.length<=140737488355328)(A:AV)
  (hbad:l.all (λp=>cF p.k)=false->ay qC A)
  (HR:l.all (λp=>cF p.k)=true->∀k n m,2<=n->(bk1 l≠[]->2<=k/\k<n)->Wp Tryz.prog 146 gW ⟨tm [(0,.sl 2 (prs l) .any),(2,.ptr 0 0),(4,.ptr 1 0)],⟨mO (bk1 l) k,n,[],m⟩⟩ (QI A)):
  Wp Tryz.prog 146 c21 ⟨fH [.sl 2 (prs l) .any],H0 0 0⟩ (QI A):=by
 rw[Ji];generalize gW=R at*
 unfold c21 zz;simp only[hdA,tlA];have lp:=ba l;refine dI ?_;refine Wp.cO [0,2,4] xA7 (λj:Nat × Nat × Nat × Nat=>[(5,.int .i64 (j.1:Nat))]) (λj=>⟨mO (bk1 (l.take j.1)) j.2.1,j.2.2.1,[],j.2.2.2⟩) (λj=>j.1<=l.length/\2<=j.2.2.1/\(bk1 (l.take j.1)≠[]->2<=j.2.1/\j.2.1<j.2.2.1)/\(l.take j.1).all (λp=>cF p.k)=true) (λj=>l.length - j.1) (0,0,2,0) ⟨Ot _,by decide,λh=>absurd rfl h,rfl⟩ rfl ?_ ?_
 ·exact xSb
 rintro ⟨j,k,n,m⟩ ⟨hj,hn2,hkn,hall⟩;simp only at hj hn2 hkn hall;by_cases hc:j<l.length
 ·obtain ⟨g1,g2,g3,e1⟩:=dZ hc ae;have hat:=bT l j .any hc;have hsn:=GW l j hc;have hle:=AI (l.take j);have hlt:(l.take j).length=j:=by simp;omega
  have hget:l.getD j default=l[j]:=by simp[List.getD,N5 hc]
  have hmem:l.getD j default∈l:=by rw[hget];exact Pk hc
  have halls:(l.take (j+1)).all (λp=>cF p.k)=cF (l.getD j default).k:=by
   rw[OD hc,List.all_append,hall,hget];simp
  have cp:=yb (l.getD j default).k (hk _ hmem);have hpe:mu (l.getD j default).k=if cF (l.getD j default).k then 0 else 4:=rfl
  have n0:¬(0=n):=by omega
  have n1:¬(1=n):=by omega
  have n2:¬(n=0):=by omega
  have n3:¬(n=1):=by omega
  have z1:¬(1=n+1):=by omega
  have z2:¬(n+1=1):=by omega
  have z3:¬(0=n+1):=by omega
  have z4:¬(n+1=n):=by omega
  have z5:¬(n=n+1):=by omega
  have f0:mO (bk1 (l.take j)) k 0=some zIm:=by
   unfold mO;by_cases ho:bk1 (l.take j)=[]
   ·rw[Oi ho];rfl
   ·obtain ⟨k1,k2⟩:=hkn ho;rw[Ob ho];simp only[upd,fN];rw[Ob ae];rfl
  have f1:mO (bk1 (l.take j)) k 1=some (.cells [mV (bk1 (l.take j)) k]):=by
   unfold mO;by_cases ho:bk1 (l.take j)=[]
   ·rw[Oi ho];rfl
   ·obtain ⟨k1,k2⟩:=hkn ho;rw[Ob ho];simp only[upd,fN];rw[Ob ae];rfl
  have fn:∀a,n<=a->mO (bk1 (l.take j)) k a=none:=λa ha=>by
   have a0:a≠0:=by omega
   have a1:a≠1:=by omega
   unfold mO;by_cases ho:bk1 (l.take j)=[]
   ·rw[Oi ho];simp[fN,upd,aB,a0,a1]
   ·obtain ⟨k1,k2⟩:=hkn ho;have ak:a≠k:=by omega
    rw[Ob ho];simp[fN,upd,aB,a0,a1,ak]
  unfold zIm at f0;cases hb:cF (l.getD j default).k with
  |false=>
   rw[hb] at hpe;rw[hpe] at cp;have hA:ay qC A:=hbad (by
    rw[List.all_eq_false];exact ⟨_,hmem,by rw[hb];simp⟩)
   unfold di at cp;generalize bc (l.getD j default).k=key at*
   generalize mO (bk1 (l.take j)) k=F at*
   refine rf1 (iw g1 g2 g3 lp hat f0 f1 n0 n1 @N7) cp ?_;refine Wp.ret (show QI A .ret _ from ⟨trivial,_,rfl,.inl (ay.trans ?_ hA)⟩);exact ay.tup (aA.cons (ay.agg (aA.cons ay.cap aA.nil)) (aA.cons (ay.refl _) aA.nil))
  |true=>
   rw[hb] at hpe halls;rw[hpe] at cp;have hk1:GV (l.getD j default)=decide ((bc (l.getD j default).k).k=1):=rfl;have hbo:Jh (l.getD j default)=⟨(bc (l.getD j default).k).b,stV (l.getD j default).v,[]⟩:=rfl;unfold di at cp;generalize bc (l.getD j default).k=key at*
   cases dk:decide (key.k=1) with
   |false=>
    rw[hk1,dk] at hsn;simp only[Oq,Od] at hsn;generalize hF:mO (bk1 (l.take j)) k=F at*
    refine rf1 (fD g1 g2 g3 lp hat f0 f1 n0 n1 dk @N7) cp ?_;refine ⟨(j+1,k,n+1,m),⟨by simp only;omega,by simp only;omega,?_,by simp only;rw[halls]⟩,by simp only;omega,?_⟩
    ·simp only;rw[hsn];exact λh=>⟨(hkn h).1,by have:=(hkn h).2;omega⟩
    ·rw[hsn,hF];refine aM.of (aY ?_) (λa u hu=>⟨u,?_,cm.refl _⟩) (λx hx=>hx) (N4 _) (N4 _)
     ·exact cM e1
     ·have an:a≠n:=by
       rintro rfl;have:=fn a (N4 _);rw[this] at hu;cases hu
      simp only[upd,an,Od];exact hu
   |true=>
    rw[hk1,dk] at hsn;simp only[Of] at hsn;have cs:=we (l.getD j default).v;rw[hbo] at hsn;generalize hP:bk1 (l.take j)=P at*
    by_cases ho:P=[]
    ·subst ho;have hv:mV [] k= .sl 3 [] (.exact 0):=rfl;rw[hv] at f1;generalize hF:mO [] k=F at*
     refine rf2 (fD g1 g2 g3 lp hat f0 f1 n0 n1 dk @N7) cp cs ?_;refine Wp.zp ?_;refine aw.op1 af (by simp only[go_sem,reduceIte,Nat.reduceEqDiff,Nat.reduceAdd,bx,ax,Of,Od,Nat.reduceMul,Nat.reduceLeDiff,n1,f1];exact rfl) ?_;simp only[bL];refine aw.op1 af (by simp only[go_sem,reduceIte,Nat.reduceEqDiff,Nat.reduceAdd,bx,ax,Of,Od,Nat.reduceMul,Nat.reduceLeDiff,n1,f1];exact rfl) ?_;simp only[bL];refine aw.op1 af (by simp only[go_sem,reduceIte,Nat.reduceEqDiff,Nat.reduceAdd,bx,ax,Of,Od,Nat.reduceMul,Nat.reduceLeDiff,n1,f1];exact rfl) ?_;simp only[bL];refine aw.op1 af (by simp only[go_sem,reduceIte,Nat.reduceEqDiff,Nat.reduceAdd,bx,ax,Of,Od,Nat.reduceMul,Nat.reduceLeDiff,n1,f1];exact rfl) ?_;simp only[bL];refine aw.op1 af (by simp only[go_sem,reduceIte,Nat.reduceEqDiff,Nat.reduceAdd,bx,ax,Of,Od,Nat.reduceMul,Nat.reduceLeDiff,n1,f1];exact rfl) ?_;simp only[bL];refine aw.op1 af (by simp only[go_sem,reduceIte,Nat.reduceEqDiff,Nat.reduceAdd,bx,ax,Of,Od,Nat.reduceMul,Nat.reduceLeDiff,n1,f1];exact rfl) ?_;simp only[bL];refine aw.op1 af (by simp only[go_sem,reduceIte,Nat.reduceEqDiff,Nat.reduceAdd,bx,ax,Of,Od,Nat.reduceMul,Nat.reduceLeDiff,n1,f1];exact rfl) ?_;simp only[bL];refine aw.opT af (by simp only[lF,go_sem,reduceIte,Nat.reduceEqDiff,Nat.reduceAdd,bx,List.all_cons,List.all_nil,List.length_cons,List.length_nil,Nat.reduceMul,Nat.reduceLeDiff,Nat.reduceLT,Nat.zero_lt_succ,Ol,Of,OE,PG];exact rfl) ?_;simp only[bL];refine aw.evF (xAd (iw n0 n1 n2 n3 z1 z2 z3 z4 z5 f1)) ?_;refine dI ?_;refine ⟨(j+1,n+1,n+2,m),⟨by simp only;omega,by simp only;omega,λ_=>⟨by simp only;omega,by simp only;omega⟩,by simp only;rw[halls]⟩,by simp only;omega,?_⟩;rw[hsn];have hmO:mO ([]++[⟨key.b,stV (l.getD j default).v,[]⟩]) (n+1)=upd (fN (.tsl 3 (n+1) 0 (0+1) none)) (n+1) (some (.cells (([]++[(⟨key.b,stV (l.getD j default).v,[]⟩:Bk)]).flatMap cell0))):=by
      unfold mO mV;rw[Ob ah,Ob ah,Og];rfl
     rw[hmO];refine aM.of (aY ?_) (λa u hu=>⟨u,?_,cm.refl _⟩) (λx hx=>hx) (N4 _) (N4 _)
     ·exact cM e1
     ·simp only[upd,fN,aB,zIm] at hu |-;by_cases an:a=n+1
      ·subst an;simp only[z2,Od,Of] at hu |-;rw[<-hu];simp[cell0,cellsOf,vss]
      ·by_cases a1:a=1
       ·subst a1;simpa [an,n2] using hu
       ·by_cases a0:a=0
        ·subst a0;simp only[an,a1,n0,Od,Of] at hu |-;rw[f0];exact hu
        ·simp[an,a1,a0] at hu
    ·have hv:mV P k= .tsl 3 k 0 P.length none:=by unfold mV;rw[Ob ho]
     obtain ⟨y1,y2⟩:=hkn ho;have fk:mO P k k=some (.cells (P.flatMap cell0)):=by unfold mO;rw[Ob ho];simp[upd]
     rw[hv] at f1;generalize hF:mO P k=F at*
     have x0:¬(0=k):=by omega
     have x7:¬(k=n):=by omega
     have x8:¬(k=1):=by omega
     have x9:¬(1=k):=by omega
     have hcl:=uP P;have r1:(P.length+1)*48<=140737488355328:=by omega
     have r2:P.length+1<4611686018427387904:=by omega
     refine rf2 (fD g1 g2 g3 lp hat f0 f1 n0 n1 dk @N7) cp cs ?_;refine aw.opK af (by simp only[mT,go_sem,reduceIte,Nat.reduceEqDiff,Nat.reduceAdd,bx,List.all_cons,List.all_nil,List.length_cons,List.length_nil,x7,fk,hcl,r1,r2,Ol,Of,Od,OE,PG];exact rfl) ?_;simp only[bL];refine aw.evF (xAd (fD n0 n1 n2 n3 z1 z2 z3 z4 z5 x9 f1)) ?_;refine dI ?_;refine ⟨(j+1,n+1,n+2,m),⟨by simp only;omega,by simp only;omega,λ_=>⟨by simp only;omega,by simp only;omega⟩,by simp only;rw[halls]⟩,by simp only;omega,?_⟩;rw[hsn];have hmO:mO (P++[⟨key.b,stV (l.getD j default).v,[]⟩]) (n+1)=upd (fN (.tsl 3 (n+1) 0 (P.length+1) none)) (n+1) (some (.cells ((P++[(⟨key.b,stV (l.getD j default).v,[]⟩:Bk)]).flatMap cell0))):=by
      unfold mO mV;rw[Ob ah,Ob ah,Og];rfl
     rw[hmO];refine aM.of (aY ?_) (λa u hu=>⟨u,?_,cm.refl _⟩) (λx hx=>hx) (N4 _) (N4 _)
     ·exact cM e1
     ·simp only[upd,fN,aB,zIm] at hu |-;by_cases an:a=n+1
      ·subst an;simp only[z2,Od,Of] at hu |-;rw[<-hu];simp[cell0,cellsOf,vss]
      ·by_cases a1:a=1
       ·subst a1;simpa [an,n2] using hu
       ·by_cases a0:a=0
        ·subst a0;simp only[an,a1,n0,x0,Od,Of] at hu |-;rw[f0];exact hu
        ·simp[an,a1,a0] at hu
 ·have hj2:j=l.length:=by omega
  subst hj2;rw[OG] at hkn hall |-;have ig:=fX l.length;have W:=HR hall k n m hn2 hkn;refine rf0 (cj2 ig lp) ?_;show Wp Tryz.prog 146 R _ _;refine Wp.le (aM.of (aY ?_) (OLe.bZ _) (λx hx=>hx) (N4 _) (N4 _)) W;exact xSb
theorem Jj(a b:List Pr)(ha:a.length<=1000000)(hb:b.length<=1000000):aI Tryz.prog 17 [.sl 2 (prs a) .any,.sl 2 (prs b) .any] (.bool (decide (a=b))):=by
 refine f17.aF ah (by simp[aJ,aW,bA,dX]) rfl ?_;unfold c17 zz;have lea:=ba a;have leb:=ba b;by_cases hlen:a.length=b.length
 ·have e0:decide (((a.length:Nat):Int)=((b.length:Nat):Int))=true:=N9 ae;refine rn0 (cj4 lea leb e0 @Oy) ?_;refine Wp.dJ [0,1] xA6 (λj:Nat=>[(5,.int .i64 (j:Nat))]) (λj=>j<=a.length/\a.take j=b.take j) (λj=>a.length - j) 0 ⟨Ot _,rfl⟩ ?_ ?_
  ·exact xSb
  rintro j ⟨hj,hpre⟩;by_cases hc:j<a.length
  ·obtain ⟨g1,g2,g3,e1⟩:=dZ hc (OI ha aq);have g4:(j:Int)<(b.length:Int):=by omega
   have hat:=bT a j .any hc;have hbt:=bT b j .any ae;have ea:a.getD j default=a[j]:=by simp[List.getD,N5 hc]
   have eb:b.getD j default=b[j]:=by simp[List.getD,N5 (show j<b.length by omega)]
   by_cases hp:a.getD j default=b.getD j default
   ·have hnext:a.take (j+1)=b.take (j+1):=by
     rw[OD hc,OD (show j<b.length by omega),hpre,<-ea,<-eb,hp]
    rw[<-hp] at hbt;generalize a.getD j default=p at*
    refine rn0 (bf g1 g2 g3 g4 lea leb hat hbt @N7 @PJ.{0} @Rb.{0} (cj4 @OE @PG @Oz.{0,0} @Oy)) ?_;refine ⟨j+1,⟨ae,hnext⟩,PB hc (OL _),?_⟩;exact vj e1
   ·have hne:decide (a=b)=false:=N6 λh=>hp (by rw[h]);rw[hne];generalize a.getD j default=p at*
    generalize b.getD j default=q at*
    have dpq:(decide (p.k=q.k)&&decide (p.v=q.v))=false:=by
     rw[Bool.and_eq_false_iff];by_cases h1:p.k=q.k
     ·refine .inr (N6 λh2=>hp ?_);obtain ⟨pk,pv⟩:=p;obtain ⟨qk,qv⟩:=q;simp only at h1 h2;rw[h1,h2]
     ·exact .inl (N6 h1)
    refine rn0 (bf g1 g2 g3 g4 lea leb hat hbt dpq @N7 @Oz.{0,0} @OB) ?_;refine aG ?_;exact ay.refl _
  ·have hj2:j=a.length:=by omega
   subst hj2;have g1:=fX a.length;have he:decide (a=b)=true:=by
    rw[OG,hlen,OG] at hpre;exact N9 hpre
   rw[he];refine rn0 (cj2 g1 lea) ?_;refine aG ?_;exact ay.refl _
 ·have e0:decide (((a.length:Nat):Int)=((b.length:Nat):Int))=false:=N6 ae;have hne:decide (a=b)=false:=N6 λh=>hlen (by rw[h]);rw[hne];refine rn0 (cj4 lea leb e0 @OB) ?_;refine aG ?_;exact ay.refl _
theorem Jk(a b:List Pr)(ha:a.length<=1000000)(hb:b.length<=1000000):aI Tryz.prog 65 [.sl 2 (prs a) .any,.sl 2 (prs b) .any] (.bool (decide (a=b))):=by
 refine f65.aF ah (by simp[aJ,aW,bA,dX]) rfl ?_;unfold c65 zz;have lea:=ba a;have leb:=ba b;by_cases hlen:a.length=b.length
 ·have e0:decide (((a.length:Nat):Int)=((b.length:Nat):Int))=true:=N9 ae;refine rn0 (cj4 lea leb e0 @Oy) ?_;refine Wp.dJ [0,1,12] xA6 (λj:Nat=>[(13,.int .i64 (j:Nat))]) (λj=>j<=a.length/\a.take j=b.take j) (λj=>a.length - j) 0 ⟨Ot _,rfl⟩ ?_ ?_
  ·exact xSb
  rintro j ⟨hj,hpre⟩;by_cases hc:j<a.length
  ·obtain ⟨g1,g2,g3,e1⟩:=dZ hc (OI ha aq);have g4:(j:Int)<(b.length:Int):=by omega
   have hat:=bT a j .any hc;have hbt:=bT b j .any ae;have ea:a.getD j default=a[j]:=by simp[List.getD,N5 hc]
   have eb:b.getD j default=b[j]:=by simp[List.getD,N5 (show j<b.length by omega)]
   by_cases hp:a.getD j default=b.getD j default
   ·have hnext:a.take (j+1)=b.take (j+1):=by
     rw[OD hc,OD (show j<b.length by omega),hpre,<-ea,<-eb,hp]
    rw[<-hp] at hbt;generalize a.getD j default=p at*
    refine rn0 (bf g1 g2 g3 g4 lea leb hat hbt @N7 @PJ.{0} @Rb.{0} (cj4 @OE @PG @Oz.{0,0} @Oy)) ?_;refine ⟨j+1,⟨ae,hnext⟩,PB hc (OL _),?_⟩;exact vj e1
   ·have hne:decide (a=b)=false:=N6 λh=>hp (by rw[h]);rw[hne];generalize a.getD j default=p at*
    generalize b.getD j default=q at*
    have dpq:(decide (p.k=q.k)&&decide (p.v=q.v))=false:=by
     rw[Bool.and_eq_false_iff];by_cases h1:p.k=q.k
     ·refine .inr (N6 λh2=>hp ?_);obtain ⟨pk,pv⟩:=p;obtain ⟨qk,qv⟩:=q;simp only at h1 h2;rw[h1,h2]
     ·exact .inl (N6 h1)
    refine rn0 (bf g1 g2 g3 g4 lea leb hat hbt dpq @N7 @Oz.{0,0} @OB) ?_;refine aG ?_;exact ay.refl _
  ·have hj2:j=a.length:=by omega
   subst hj2;have g1:=fX a.length;have he:decide (a=b)=true:=by
    rw[OG,hlen,OG] at hpre;exact N9 hpre
   rw[he];refine rn0 (cj2 g1 lea) ?_;refine aG ?_;exact ay.refl _
 ·have e0:decide (((a.length:Nat):Int)=((b.length:Nat):Int))=false:=N6 ae;have hne:decide (a=b)=false:=N6 λh=>hlen (by rw[h]);rw[hne];refine rn0 (cj4 lea leb e0 @OB) ?_;refine aG ?_;exact ay.refl _
def jU(b:Bk):List AV:=[.str b.n,.int .i64 b.st,.sl 8 (vss b.l) .any]
theorem yr(m:List Bk):(m.map jU).map AV.agg=bks m:=by
 rw[Qr];rfl
def tf:AC:=tlA gW
def yt(l:List Pr)(m:List Bk):AV:=if (decide (imE m=0)&&decide ((if imB m=true then aP (aZ m) else [])=l))=true then .tup [cC m,.int .i64 0] else qC
theorem K5(l:List Pr)(hl:l.length<=2000)(m:List Bk)(hf:Few m)(hF:imB m=true->(aZ m).length<=100000)(n mm:Nat):
  Wp Tryz.prog 146 tf ⟨tm [(0,.sl 2 (prs l) .any),(2,.ptr 0 0),(4,.ptr 1 0)],⟨fN (.sl 3 (bks m) .any),n,[],mm⟩⟩ (QI (yt l m)):=by
 have cp:=DW m hf hF;have hen:cC m= .agg [.sl 3 (bks m) .any]:=rfl;rw[hen] at cp;have hsl:(if imB m=true then aP (aZ m) else []).length<=1000000:=by
  split
  ·rename_i hb;have:=vS (aZ m);have:=hF hb;omega
  ·simp
 have cs:=Jj (if imB m=true then aP (aZ m) else []) l hsl ae;have hA:yt l m=if (decide (imE m=0)&&decide ((if imB m=true then aP (aZ m) else [])=l))=true then .tup [cC m,.int .i64 0] else qC:=rfl
 rw[hA,hen];generalize (if imB m=true then aP (aZ m) else [])=again at*
 unfold tf gW c21 fN zIm zz;simp only[tlA];cases de:decide (imE m=0) with
 |false=>
  rw[Pv,Ob ah];refine rf1 de cp ?_;refine Wp.ret (show QI _ .ret _ from ⟨trivial,_,rfl,.inl ?_⟩);exact ay.tup (aA.cons (ay.agg (aA.cons ay.cap aA.nil)) (aA.cons (ay.refl _) aA.nil))
 |true=>
  rw[OM];cases dg:decide (again=l) with
  |false=>
   rw[dg] at cs;rw[Ob ah];refine rf2 de cp cs ?_;refine Wp.ret (show QI _ .ret _ from ⟨trivial,_,rfl,.inl ?_⟩);exact ay.tup (aA.cons (ay.agg (aA.cons ay.cap aA.nil)) (aA.cons (ay.refl _) aA.nil))
  |true=>
   rw[dg] at cs;rw[Oi rfl];refine rf2 de cp cs ?_;refine Wp.ret (show QI _ .ret _ from ⟨trivial,_,rfl,.inl ?_⟩);exact ay.refl _
def mY(L:List Pr):List Bk:=match kG L L.length with
 |some S=>S.1
 |none=>[]
def gN(L:List Pr):Bool:=match kG L L.length with
 |some S=>decide (S.2=[])&&(decide (imE S.1=0)&&decide ((if imB S.1=true then aP (aZ S.1) else [])=L))
 |none=>false
def QM(L:List Pr):aO->St->Prop:=λe s'=>if gN L=true then e= .normal/\s'.h.objs 3=some (.cells [.sl 3 (bks (mY L)) .any,.mp 2])/\s'.h.objs 1=some (.cells [.sl 3 [] (.exact 0)])/\s'.h.objs 4=some (.cells [.ptr 3 0]) else e= .panic v4/\s'.h.objs 1=some (.cells [.sl 3 [] (.exact 0)])
theorem pU{L:List Pr}(h:gN L=false){s':St}(h1:s'.h.objs 1=some (.cells [.sl 3 [] (.exact 0)])):QM L (.panic v4) s':=by
 unfold QM;rw[h,Ob ah];exact ⟨rfl,h1⟩
theorem yu{L:List Pr}{j:Nat}(h:kG L j=none):∀k,kG L (j+k)=none
 |0=>h
 |k+1=>by
  have:=yu h k;rw[show j+(k+1)=(j+k)+1 by omega];simp only[kG];rw[this];rfl
theorem GX{L:List Pr}{j:Nat}(hj:j<=L.length)(h:kG L j=none):gN L=false:=by
 have:=yu h (L.length - j);rw[show j+(L.length - j)=L.length by omega] at this;unfold gN;rw[this]
theorem Jl(m:List Bk)(v:Vs):∀i,i<m.length->((s8 m i v).map λb=>b.l.length).sum=(m.map λb=>b.l.length).sum+1:=by
 unfold s8;induction m with
 |nil=>intro i hi;simp at hi
 |cons b m ih=>
  intro i hi;cases i with
  |zero=>simp[List.getD];omega
  |succ i=>
   have:=ih i (by simpa using hi);simp only[List.set_cons_succ,OJ,List.sum_cons];have e:(b::m).getD (i+1) default=m.getD i default:=by simp[List.getD]
   rw[e,this];omega
theorem Ed{S S':SS}{p:Pr}(h:lA S p=some S'):S'.1.length+(S'.1.map λb=>b.l.length).sum<=S.1.length+(S.1.map λb=>b.l.length).sum+1:=by
 unfold lA at h;split at h
 ·unfold lJ at h;split at h
  ·split at h
   ·cases h;simp;omega
   ·cases h
  ·split at h
   ·split at h
    ·cases h;simp only;omega
    ·cases h
   ·split at h
    ·split at h
     ·split at h
      ·rename_i ht;cases h;have hi:lI (S.1.map Bk.n) (bc p.k).b<S.1.length:=by
        unfold gU at ht;simp only[Oh,Ov,PF] at ht;exact ht.1
       have hl:∀v,(s8 S.1 (lI (S.1.map Bk.n) (bc p.k).b) v).length=S.1.length:=λv=>by simp[s8]
       simp only;rw[Jl _ _ _ hi,hl];omega
      ·cases h
     ·cases h
    ·cases h
 ·cases h
theorem pW(L:List Pr):∀(j:Nat){S:SS},kG L j=some S->S.1.length+(S.1.map λb=>b.l.length).sum<=j
 |0,S,h=>by cases h;simp
 |j+1,S,h=>by
  simp only[kG] at h;obtain ⟨S0,h0,h1⟩:=Oe.1 h;have:=pW L j h0;split at h1
  ·have:=Ed h1;omega
  ·cases h1
theorem AJ{m:List Bk}(h:imB m=true):(aZ m).length<=m.length+17*(m.map λb=>b.l.length).sum:=by
 have key:∀b∈m,(gD b).length<=1+17*b.l.length:=λb hx=>by
  have ho:=jJ h hx;have e:(gD b).length=1+((b.l.map (cW b.n)).flatten).length:=by
   unfold gD cw;rw[PF,List.flatten_cons,Og];rfl
  rw[e];have hv:∀l:List Vs,(∀v∈l,v.okV=true)->((l.map (cW b.n)).flatten).length<=17*l.length:=by
   intro l;induction l with
   |nil=>intro _;simp
   |cons v l ih=>
    intro hv;have h1:=ih λu hu=>hv u (by simp[hu]);have h2:=lu (oW (hv v ah)).2;have h3:(cW b.n v).length=dG v.b+1:=by simp[cW]
    simp only[OJ,List.flatten_cons,Og,List.length_cons,h3];omega
  have:=hv b.l λv hv=>qw ho hv;omega
 clear h;induction m with
 |nil=>simp[aZ]
 |cons b m ih=>
  have h1:=ih λu hu=>key u (by simp[hu]);have h2:=key b ah;unfold aZ at*
  simp only[OJ,List.flatten_cons,Og,List.length_cons,List.sum_cons];omega
theorem mX.ext{L:List Pr}{F F':Nat->Option Av.Obj}{n n':Nat}{toks:List Nat}{m:Nat}{bt:List (Bk × Nat)}{q:List Pc}{J:Nat}(I:mX L ⟨F,n,toks,m⟩ bt q J)(hF:∀a,a<n->F' a=F a)(hn:n<=n'):mX L ⟨F',n',toks,m⟩ bt q J:=by
 obtain ⟨k,f3,hrow⟩:=I.row;have h5:=I.hn;simp only at h5;refine ⟨⟨k,(hF 3 ae).trans f3,λho=>?_⟩,(hF 2 ae).trans I.mp,(hF 0 ae).trans I.o0,(hF 1 ae).trans I.o1,(hF 4 ae).trans I.o4,by simp only;omega,I.tk,I.tm,I.nd,I.len,I.vers,I.pcs⟩;obtain ⟨a,b,cs,c,d⟩:=hrow ho;simp only at b;exact ⟨a,by simp only;omega,cs,(hF k b).trans c,d⟩
theorem tg:∀bt:List (Bk × Nat),aA (fA bt) (((bt.map Prod.fst).map jU).flatten)
 |[]=>aA.nil
 |x::bt=>by
  have ih:=tg bt;have e1:fA (x::bt)= .str x.1.n:: .int .i64 x.1.st:: .sl 8 (vss x.1.l) (.own x.2)::fA bt:=rfl;have e2:(((x::bt).map Prod.fst).map jU).flatten= .str x.1.n:: .int .i64 x.1.st:: .sl 8 (vss x.1.l) .any::((bt.map Prod.fst).map jU).flatten:=rfl;rw[e1,e2];exact aA.cons (ay.refl _) (aA.cons (ay.refl _) (aA.cons ay.cap ih))
def mz:AC:=tlA c63
theorem Jm{L:List Pr}{h:H}{bt:List (Bk × Nat)}{q:List Pc}{J:Nat}(I:mX L h bt q J)(N:Nat):∃h',aM ⟨tm [(0,.ptr 0 0),(1,.ptr 4 0)],h⟩ ⟨tm [(0,.ptr 0 0),(1,.ptr 4 0)],h'⟩/\h'.objs 3=some (.cells [.sl 3 (bks (bt.map Prod.fst)) .any,.mp 2])/\h'.objs 2=some (.map (gH q))/\h'.objs 0=some (.cells [.sl 2 (prs L) .any])/\h'.objs 1=some (.cells [.sl 3 [] (.exact 0)])/\h'.objs 4=some (.cells [.ptr 3 0]):=by
 obtain ⟨F,n,toks,m⟩:=h;obtain ⟨k,f3,hrow⟩:=I.row;have f2:=I.mp;have f0:=I.o0;have f1:=I.o1;have f4:=I.o4;simp only at f3 hrow f2 f0 f1 f4;by_cases ho:bt=[]
 ·subst ho;have hv:bV [] k= .sl 3 [] (.exact 0):=rfl;rw[hv] at f3;refine ⟨⟨upd F 3 (some (.cells [.sl 3 [] .any,.mp 2])),n,toks,m⟩,aM.of (λ_=>ay.refl _) (mR f3 (aA.cons ay.cap (aA.cons (ay.refl _) aA.nil))) (λx hx=>hx) (N4 _) (N4 _),by simp[upd,bks],?_,?_,?_,?_⟩;all_goals
   simp only[upd];rw[Ob aq];assumption
 ·have hv:bV bt k= .tsl 3 k 0 bt.length none:=by unfold bV;rw[Ob ho]
  rw[hv] at f3;obtain ⟨a,b,cs,c,d⟩:=hrow ho;have hrl:((bt.map Prod.fst).map jU).length=bt.length:=by simp
  have hr3:∀x∈(bt.map Prod.fst).map jU,x.length=3:=λx hx=>by
   obtain ⟨b,-,rfl⟩:=OC.1 hx;rfl
  have hsub:aA cs (((bt.map Prod.fst).map jU).flatten):=λG w v h=>tg bt G w v (d G w v h);have s1:aM ⟨tm [(0,.ptr 0 0),(1,.ptr 4 0)],⟨F,n,toks,m⟩⟩ ⟨tm [(0,.ptr 0 0),(1,.ptr 4 0)],⟨upd F k (some (.cells (((bt.map Prod.fst).map jU).flatten))),n,toks,m⟩⟩:=aM.of (λ_=>ay.refl _) (mR c hsub) (λx hx=>hx) (N4 _) (N4 _);have k3:¬(3=k):=by omega
  have s2:=aM.LB (tm [(0,.ptr 0 0),(1,.ptr 4 0)]) ⟨upd F k (some (.cells (((bt.map Prod.fst).map jU).flatten))),n,toks,m⟩ k 3 (rows:=(bt.map Prod.fst).map jU) (sz:=3) (c:=none) (rest:=[.mp 2]) hr3 k3 (by simp only[upd,Of]) (by rw[hrl];simp only[upd,k3,Od];exact f3);rw[yr] at s2;have k0:¬(0=k):=by omega
  have k1:¬(1=k):=by omega
  have k2:¬(2=k):=by omega
  have k4:¬(4=k):=by omega
  refine ⟨_,aM.trans s1 (aM.trans s2 (aM.of (aY ?_) (OLe.bZ _) (λx hx=>hx) (N4 _) (N4 _))),by simp only[upd,Of],?_,?_,?_,?_⟩
  ·simp only[aQ,go_sem,reduceIte,Nat.reduceEqDiff,Nat.reduceAdd,bx,unT,Ov,k0,k4];and_intros<;>first|exact trivial|exact ay.refl _|exact ay.any _|exact ay.refl _|(refine ay.int ?_;omega)
  ·simp only[upd,H.drop,k2,decide_false,Od,Oq,Nat.reduceEqDiff,reduceIte];exact f2
  ·simp only[upd,H.drop,k0,decide_false,Od,Oq,Nat.reduceEqDiff,reduceIte];exact f0
  ·simp only[upd,H.drop,k1,decide_false,Od,Oq,Nat.reduceEqDiff,reduceIte];exact f1
  ·simp only[upd,H.drop,k4,decide_false,Od,Oq,Nat.reduceEqDiff,reduceIte];exact f4
set_option maxHeartbeats 2000000 in
theorem GY{L:List Pr}(hl:L.length<=4000){h:H}{bt:List (Bk × Nat)}{q:List Pc}(I:mX L h bt q L.length)(hR:kG L L.length=some (bt.map Prod.fst,q)):
  Wp Tryz.prog 54 mz ⟨tm [(0,.ptr 0 0),(1,.ptr 4 0)],h⟩ (QM L):=by
 obtain ⟨h',hle,f3,f2,f0,f1,f4⟩:=Jm I 54;refine Wp.le hle ?_;have hS:mY L=bt.map Prod.fst:=by unfold mY;rw[hR]
 have hO:gN L=(decide (q=[])&&(decide (imE (bt.map Prod.fst)=0)&&decide ((if imB (bt.map Prod.fst)=true then aP (aZ (bt.map Prod.fst)) else [])=L))):=by unfold gN;rw[hR]
 have hcnt:=pW L _ hR;have hfew:Few (bt.map Prod.fst):=λb hb=>by
  obtain ⟨x,hx,rfl⟩:=OC.1 hb;have:=I.vers x hx;omega
 have hbd:imB (bt.map Prod.fst)=true->(aZ (bt.map Prod.fst)).length<=100000:=λhb=>by
  have:=AJ hb;simp only at hcnt;omega
 have cp:=te (bt.map Prod.fst) hfew hbd;have hsl:(if imB (bt.map Prod.fst)=true then aP (aZ (bt.map Prod.fst)) else []).length<=1000000:=by
  split
  ·rename_i hb;have:=vS (aZ (bt.map Prod.fst));have:=hbd hb;omega
  ·simp
 have ce:=Jk (if imB (bt.map Prod.fst)=true then aP (aZ (bt.map Prod.fst)) else []) L hsl ae;have hen:cC (bt.map Prod.fst)= .agg [.sl 3 (bks (bt.map Prod.fst)) .any]:=rfl;rw[hen] at cp;have hq:=GF q;have dq:decide ((((gH q).length:Nat):Int)=0)=decide (q=[]):=by
  rw[hq,Ra,<-List.length_eq_zero_iff];omega
 clear hR I hbd hfew hcnt hle;generalize hm:bt.map Prod.fst=mm at*
 generalize (if imB mm=true then aP (aZ mm) else [])=again at*
 have cut:mz= .seq (hdA mz) (.seq (hdA (tlA mz)) (tlA (tlA mz))):=rfl;rw[cut];unfold mz c63 zz;simp only[hdA,tlA];cases hqe:decide (q=[]) with
 |false=>
  rw[hqe] at dq;rw[hqe,Pv] at hO;refine Wp.dD (xAd (cj4 f4 f3 f2 dq)) xAb eY (trivial) ?_;exact pU hO f1
 |true=>
 rw[hqe] at dq;rw[hqe,OM] at hO;refine Wp.aH (xAd (cj4 f4 f3 f2 dq)) ?_;refine aw.bO xA2 xAb (gV) ?_;refine aw.nil ?_;refine Wp.aH (xAd (cj2 f4 f3)) ?_;refine aw.bO xA2 xAb (cp) ?_;refine aw.evF xAc ?_;refine aw.nil ?_;cases hde:decide (imE mm=0) with
 |false=>
  rw[hde,Pv] at hO;refine Wp.vk (xAd hde) xAb eY (trivial) ?_;exact pU hO f1
 |true=>
 rw[hde,OM] at hO;cases hdg:decide (again=L) with
 |false=>
  rw[hdg] at hO ce;refine Wp.Dp (bu.eval (log:=[]) (bJ (by simp only[go_sem,reduceIte,Nat.reduceEqDiff,Nat.reduceAdd,bx,ax,Of,Od,hde,f0];exact rfl)) (bu.step (x:= .bool false) (λops i o ho hit=>mU.oF (N:=54) (full:=false) (.inl (bF _)) (eG ho hit xA2 rfl xAb (ce _ _))) (bu.eval (log:=[]) (bJ (by simp only[go_sem,reduceIte,Nat.reduceEqDiff,Nat.reduceAdd,bx,ax,Of,Od,hde];exact rfl)) (bu.here λops i o ho hit=>tB.of (bF _) (ff ho hit rfl rfl xAb (eY _ _)))))) ?_;exact pU hO f1
 |true=>
  rw[hdg] at hO ce;refine Wp.cA (xAd (cj2 hde f0)) ?_;refine aw.bO xA2 xAb (ce) ?_;refine aw.evF xAc ?_;refine aw.bO xA2 xAb (gV) ?_;refine aw.nil ?_;unfold QM;rw[hO,Oi rfl,hS];exact ⟨rfl,f3,f1,f4⟩
theorem GZ{L:List Pr}{j:Nat}{S:SS}(h:kG L j=some S):kG L (j+1)=if (decide (j=0)||Op.bytesLess (L.getD (j - 1) default).k (L.getD j default).k)=true then lA S (L.getD j default) else none:=by
 simp only[kG];rw[h];rfl
set_option maxHeartbeats 4000000 in
theorem K6(L:List Pr)(hl:L.length<=4000)(hks:∀p∈L,p.k.length<=140737488355328)(hvs:∀p∈L,p.v.length<=140737488355328)(h:H)(I0:mX L h [] [] 0):
  Wp Tryz.prog 54 c63 ⟨fH [.ptr 0 0,.ptr 4 0],h⟩ (QM L):=by
 have cut:c63= .seq (hdA c63) mz:=rfl;rw[cut];have WR:=λ{h:H} {bt:List (Bk × Nat)} {q:List Pc} (I:mX L h bt q L.length) hR=>GY hl I hR;generalize mz=R63 at*
 unfold c63 zz;simp only[hdA];have lp:=ba L;have f0:=I0.o0;refine rf0 (cj2 f0 lp) ?_;refine Wp.cO [0,1,6,7] xA7 (λj:Nat × H=>[(8,.int .i64 (j.1:Nat))]) (λj=>j.2) (λj=>j.1<=L.length/\∃bt q,kG L j.1=some (bt.map Prod.fst,q)/\mX L j.2 bt q j.1) (λj=>L.length - j.1) (0,h) ⟨Ot _,[],[],rfl,I0⟩ rfl ?_ ?_
 ·exact xSb
 rintro ⟨j,h1⟩ ⟨hj,bt,q,hrun,I⟩;simp only at hj hrun I;by_cases hc:j<L.length
 ·obtain ⟨g1,g2,g3,e1⟩:=dZ hc ae;have hat:=bT L j .any hc;have hget:L.getD j default=L[j]:=by simp[List.getD,N5 hc]
  have hmem:L.getD j default∈L:=by rw[hget];exact Pk hc
  have hpk:=hks _ hmem;have hpv:=hvs _ hmem;have hstep:=GZ hrun;obtain ⟨F,n,toks,m⟩:=h1;have hn:=I.hn;have g0:=I.o0;have g4:=I.o4;simp only at hn g0 g4;have n0:¬(0=n):=by omega
  have n4:¬(4=n):=by omega
  have bad:kG L (j+1)=none->gN L=false:=λhb=>GX ae hb;have hprev:j≠0->(prs L).getD (j - 1) .any= .agg [.str (L.getD (j - 1) default).k,.str (L.getD (j - 1) default).v]:=λh0=>bT L (j - 1) .any ae;generalize L.getD j default=p at*
  generalize L.getD (j - 1) default=p0 at*
  have I2:∀o o':Av.Obj,mX L ⟨upd (upd F n (some o)) n (some o'),n+1,toks,m⟩ bt q j:=λo o'=>I.ext (λa ha=>by
   have:a≠n:=by omega
   simp only[upd,Ob this]) (Nat.le_succ _)
  refine Wp.aH (xAd (cj2 g1 lp)) ?_;refine aw.nil ?_;refine Wp.seq ?_;refine Wp.cond_true (by simp only[go_sem,reduceIte,Nat.reduceEqDiff,Nat.reduceAdd,bx,g1,lp]) ?_;refine Wp.skip ?_;refine Wp.seq (Wp.block ?_);refine Wp.aH (xAd (cj5 g2 g3 lp hat @N7)) ?_;refine aw.nil ?_;have key:∀(b:Bool),b=(decide (j=0)||Op.bytesLess p0.k p.k)->True:=λ_ _=>trivial;by_cases h0:j=0
  ·have d0:decide ((j:Int)=0)=true:=N9 ae;have hcond:(decide (j=0)||Op.bytesLess p0.k p.k)=true:=by simp[h0]
   rw[Oi hcond] at hstep;refine Wp.bq (xAd d0) ?_;refine az.bO xA2 xAb (gV) ?_;refine az.evR xA1 ?_;refine az.nil ⟨by simp[bg,aN,apart,aU],?_⟩;cases hS:lA (bt.map Prod.fst,q) p with
   |none=>
    rw[hS] at hstep;obtain ⟨h2,cI,hnm,ho1⟩:=B7 ae (I2 (.cells [.str [],.str []]) (.cells [.str p.k,.str p.v])) hpk hpv hS;refine Wp.rZ (by simp only[go_sem,reduceIte,Nat.reduceEqDiff,Nat.reduceAdd,bx,ax,Of,Od,g4,n4];exact rfl) xAb hnm cI ?_;exact pU (bad hstep) ho1
   |some S=>
    rw[hS] at hstep;obtain ⟨r,h2,cI,hnm,bt2,hfst,I3⟩:=GP ae (I2 (.cells [.str [],.str []]) (.cells [.str p.k,.str p.v])) hpk hpv hS;refine Wp.cA (xAd (cj2 g4 n4)) ?_;refine aw.jb xA2 xAb hnm (cI) ?_;refine aw.nil ?_;refine Wp.cA (xAd e1) ?_;refine aw.nil ?_;refine ⟨(j+1,h2),⟨by simp only;omega,bt2,S.2,by simp only;rw[hstep,hfst],I3⟩,by simp only;omega,?_⟩;refine aM.of (aY ?_) (OLe.bZ _) (λx hx=>hx) (N4 _) (N4 _);exact cM e1
  ·have d0:decide ((j:Int)=0)=false:=N6 ae;have ej:IntKind.i64.wrap ((j:Int) - 1)=((j - 1:Nat):Int):=by rw[IntWalk.i64_in _ ae];omega
   have p1:(0:Int)<=((j - 1:Nat):Int):=by omega
   have p2:((j - 1:Nat):Int)<(L.length:Int):=by omega
   have hat2:=hprev h0;have hz:decide (j=0)=false:=N6 h0;rw[hz,PI] at hstep;cases hb:Op.bytesLess p0.k p.k with
   |false=>
    rw[hb,Ob ah] at hstep;refine Wp.dD (xAd (iw d0 g0 n0 ej p1 p2 lp hat2 hb @N7)) xAb eY (⟨by simp[aN,apart,aU],rfl⟩) ?_;exact pU (bad hstep) (I2 (.cells [.str [],.str []]) (.cells [.str p.k,.str p.v])).o1
   |true=>
    rw[hb,Oi rfl] at hstep;refine Wp.bq (xAd (iw d0 g0 n0 ej p1 p2 lp hat2 hb @N7)) ?_;refine az.bO xA2 xAb (gV) ?_;refine az.evR xA1 ?_;refine az.nil ⟨by simp[bg,aN,apart,aU],?_⟩;cases hS:lA (bt.map Prod.fst,q) p with
    |none=>
     rw[hS] at hstep;obtain ⟨h2,cI,hnm,ho1⟩:=B7 ae (I2 (.cells [.str [],.str []]) (.cells [.str p.k,.str p.v])) hpk hpv hS;refine Wp.rZ (by simp only[go_sem,reduceIte,Nat.reduceEqDiff,Nat.reduceAdd,bx,ax,Of,Od,g4,n4];exact rfl) xAb hnm cI ?_;exact pU (bad hstep) ho1
    |some S=>
     rw[hS] at hstep;obtain ⟨r,h2,cI,hnm,bt2,hfst,I3⟩:=GP ae (I2 (.cells [.str [],.str []]) (.cells [.str p.k,.str p.v])) hpk hpv hS;refine Wp.cA (xAd (cj2 g4 n4)) ?_;refine aw.jb xA2 xAb hnm (cI) ?_;refine aw.nil ?_;refine Wp.cA (xAd e1) ?_;refine aw.nil ?_;refine ⟨(j+1,h2),⟨by simp only;omega,bt2,S.2,by simp only;rw[hstep,hfst],I3⟩,by simp only;omega,?_⟩;refine aM.of (aY ?_) (OLe.bZ _) (λx hx=>hx) (N4 _) (N4 _);exact cM e1
 ·have hj2:j=L.length:=by omega
  subst hj2;have ig:=fX L.length;refine Wp.aH (xAd (cj2 ig lp)) ?_;refine aw.nil ?_;refine Wp.seq ?_;refine Wp.cond_false (by simp only[go_sem,reduceIte,Nat.reduceEqDiff,Nat.reduceAdd,bx,ig]) ?_;refine Wp.exit ?_;show Wp Tryz.prog 54 R63 _ _;refine Wp.le (aM.of (aY ?_) (OLe.bZ _) (λx hx=>hx) (N4 _) (N4 _)) (WR I hrun);exact xSb
def qD(L:List Pr):AV:=if gN L=true then .tup [cC (mY L),.int .i64 0] else qC
theorem fT{α:Type}(f:Nat->α)(i:Nat)(a b:α):upd (upd f i a) i b=upd f i b:=by
 funext j;simp only[upd];split<;>rfl
def h63(L:List Pr):H:=⟨upd (upd (upd (upd (upd aB 0 (some (.cells [.sl 2 (prs L) .any]))) 1 (some (.cells [.sl 3 [] (.exact 0)]))) 2 (some (.map []))) 3 (some (.cells [.sl 3 [] (.exact 0),.mp 2]))) 4 (some (.cells [.ptr 3 0])),5,[],0⟩
theorem Nq(L:List Pr):mX L (h63 L) [] [] 0:=by
 unfold h63;exact ⟨⟨5,by simp[upd,bV],λh=>absurd rfl h⟩,by simp[upd,gH],by simp[upd],by simp[upd],by simp[upd],by simp,by simp,by simp,by simp,by simp,by simp,by simp⟩
theorem Nr(L:List Pr)(hl:L.length<=4000)(hks:∀p∈L,p.k.length<=140737488355328)(hvs:∀p∈L,p.v.length<=140737488355328):
  ∃h',bB Tryz.prog 54 [.clo (.func 63) [] [.ptr 0 0,.ptr 4 0]] (h63 L) (.int .i64 (if gN L=true then 0 else 4)) h'/\((h63 L).n<=h'.n/\(h63 L).m<=h'.m)/\h'.objs 1=some (.cells [.sl 3 [] (.exact 0)])/\
   (gN L=true->h'.objs 3=some (.cells [.sl 3 (bks (mY L)) .any,.mp 2])/\h'.objs 4=some (.cells [.ptr 3 0])):=by
 have W:=K6 L hl hks hvs (h63 L) (Nq L);unfold QM at W;cases ho:gN L with
 |true=>
  rw[ho] at W;simp only[Of] at W;obtain ⟨r,h',a,b,c,d,e⟩:=aV.vn (Q:=λ_ h'=>h'.objs 3=some (.cells [.sl 3 (bks (mY L)) .any,.mp 2])/\h'.objs 1=some (.cells [.sl 3 [] (.exact 0)])/\h'.objs 4=some (.cells [.ptr 3 0])) f63 ah (W.mono λe s' hq=>⟨jm hq.1,_,rfl,hq.2⟩);exact ⟨h',GL rfl rfl aq a,b,d,λ_=>⟨c,e⟩⟩
 |false=>
  rw[ho] at W;simp only[Oq,Od] at W;obtain ⟨v,h',a,b,rfl,c⟩:=aV.xd (Q:=λv h'=>v=v4/\h'.objs 1=some (.cells [.sl 3 [] (.exact 0)])) f63 ah (W.mono λe s' hq=>⟨_,hq.1,rfl,hq.2⟩);exact ⟨h',B5 rfl rfl aq a,b,c,λh=>by cases h⟩
theorem Jn(L:List Pr)(hl:L.length<=4000)(hks:∀p∈L,p.k.length<=140737488355328)(hvs:∀p∈L,p.v.length<=140737488355328):
  aI Tryz.prog 20 [.sl 2 (prs L) .any] (qD L):=by
 have hpure:aW (qD L)=true:=by
  unfold qD;split
  ·simp[aW,aJ,bA,cC,Av.bG (λb=>fW b),bks]
  ·rfl
 refine f20.vi ah (by simp[aJ,aW,bA,dX]) hpure ?_;unfold c20 zz;obtain ⟨h',cI,hnm,f1,fok⟩:=Nr L hl hks hvs;refine Wp.aH xAc ?_;refine aw.nil ?_;refine Wp.aH xAc ?_;refine aw.nil ?_;refine Wp.le (s':=⟨tm [(1,.ptr 0 0),(2,.ptr 1 0),(4,.ptr 4 0)],h63 L⟩) (aM.of (aY ?_) (by rw[fT];exact OLe.bZ _) (λx hx=>hx) (N4 _) (N4 _)) ?_
 ·exact xSb
 refine Wp.aH xAc ?_;refine aw.jb xA2 xAb hnm (cI) ?_;cases ho:gN L with
 |false=>
  have hI:qD L=qC:=by unfold qD;rw[Ob (by rw[ho];simp)]
  rw[hI];simp only[Oq,Od];refine aw.evF xAc ?_;refine aw.nil ?_;refine rf0 f1 ?_;refine Wp.ret ⟨trivial,_,rfl,.inl ?_⟩;exact ay.tup (aA.cons (ay.agg (aA.cons ay.cap aA.nil)) (aA.cons (ay.refl _) aA.nil))
 |true=>
  have hI:qD L= .tup [cC (mY L),.int .i64 0]:=by unfold qD;rw[Oi ho]
  obtain ⟨f3,f4⟩:=fok ho;rw[hI];simp only[Of];refine aw.evF xAc ?_;refine aw.nil ?_;refine rf0 (cj3 f1 f3 f4) ?_;refine Wp.ret ⟨trivial,_,rfl,.inl ?_⟩;exact ay.refl _
def ef(B:List UInt8)(a:Nat):Av.Obj:= .cells [.sl 1 (aD B) .any,.int .i64 (a:Nat)]
theorem Ee(B:List UInt8)(a k:Nat):((aD B).take (a+k)).drop a=aD ((B.drop a).take k):=by
 unfold aD;rw[<-List.map_take,<-List.map_drop,List.drop_take,show a+k - a=k by omega]
theorem jo(id:Nat)(o o':Av.Obj)(n m:Nat):(⟨upd (upd aB id (some o)) id (some o'),n,[],m⟩:H)= .only (upd aB id (some o')) [] n m:=by
 rw[fT];rfl
set_option maxHeartbeats 1000000 in
theorem pX(B:List UInt8)(hB:B.length<=10000000)(a k:Nat)(h:a+k<=B.length):mf Tryz.prog 57 [.ptr 3 0,.int .i64 (k:Nat)] 3 (ef B a) (.str ((B.drop a).take k)) (ef B (a+k)):=by
 intro n m;refine ⟨m,N4 _,aV.kX f57 ah ?_⟩;unfold c57 ef zz;have lb:=bm B;have g1:IntKind.i64.wrap (((B.length:Nat):Int) - (a:Int))=((B.length - a:Nat):Int):=by rw[IntWalk.i64_in _ ae];omega
 have g2:decide ((k:Int)<=((B.length - a:Nat):Int))=true:=N9 ae;have e1:IntKind.i64.wrap ((a:Int)+(k:Int))=((a+k:Nat):Int):=by rw[IntWalk.i64_in _ ae];omega
 have e2:IntKind.i64.wrap (((a+k:Nat):Int) - (k:Int))=(a:Int):=by rw[IntWalk.i64_in _ ae];omega
 have p1:(0:Int)<=(a:Int):=by omega
 have p2:(a:Int)<=((a+k:Nat):Int):=by omega
 have p3:(0:Int)<=((a+k:Nat):Int):=by omega
 have p4:((a+k:Nat):Int)<=(B.length:Int):=by omega
 have cb:=Ee B a k;have ub:=bR ((B.drop a).take k);refine Wp.aH xAc ?_;refine aw.nil ?_;refine Wp.bq (xAd (cj3 lb g1 g2)) ?_;refine az.bO xA2 xAb (gV) ?_;refine az.evR xA1 ?_;refine az.nil ⟨by simp[bg,aN,apart,aU],?_⟩;refine Wp.aH (xAd e1) ?_;refine aw.nil ?_;refine Wp.bq (xAd (bf lb e1 e2 p1 p2 p3 p4 cb ub @N7 @Oz.{0,0} @O2)) ?_;refine az.nil ⟨by simp[bg,aN,apart,aU],?_⟩;refine Wp.ret ⟨trivial,_,rfl,ay.refl _,?_⟩;exact jo 3 _ _ n m
theorem pY(B:List UInt8)(hB:B.length<=10000000)(a k:Nat)(ha:a<=B.length)(hk:k<=1000000000000)(h:¬a+k<=B.length):HX Tryz.prog 57 [.ptr 3 0,.int .i64 (k:Nat)] 3 (ef B a) v4:=by
 intro n m;obtain ⟨v,h',hc,rfl,rfl⟩:=aV.HK (Q:=λv h'=>v=v4/\h'= .only (upd aB 3 (some (ef B a))) [] n m) (args:=[.ptr 3 0,.int .i64 (k:Nat)]) (h:= .only (upd aB 3 (some (ef B a))) [] n m) f57 ah (by
  unfold c57 ef zz;have lb:=bm B;have g1:IntKind.i64.wrap (((B.length:Nat):Int) - (a:Int))=((B.length - a:Nat):Int):=by rw[IntWalk.i64_in _ ae];omega
  have g2:decide ((k:Int)<=((B.length - a:Nat):Int))=false:=N6 ae;refine Wp.aH xAc ?_;refine aw.nil ?_;refine Wp.dD (xAd (cj3 lb g1 g2)) xAb eY (⟨by simp[aN,apart,aU],rfl⟩) ?_;exact ⟨_,rfl,rfl,rfl⟩)
 exact hc
set_option maxHeartbeats 1000000 in
theorem yv(B:List UInt8)(hB:B.length<=10000000)(a w:Nat)(hw:w<=8)(h:a+w<=B.length):mf Tryz.prog 59 [.ptr 3 0,.int .i64 (w:Nat)] 3 (ef B a) (.int .i64 (i64 ((B.drop a).take w))) (ef B (a+w)):=by
 intro n m;obtain ⟨m1,hm1,ct⟩:=pX B hB a w h n m;refine ⟨m1+1,ae,aV.kX f59 ah ?_⟩;have hl:((B.drop a).take w).length=w:=by rw[OV,OY];omega
 unfold c59 zz;unfold i64;generalize (B.drop a).take w=s at*
 have ls:=bm s;refine Wp.aH xAc ?_;refine aw.nil ?_;refine Wp.aH xAc ?_;refine aw.nil ?_;refine Wp.seq ?_;refine Wp.aH xAc ?_;refine aw.jb (h':= .only (upd aB 3 (some (ef B (a+w)))) [] n m1) xA2 xAb ⟨N4 _,hm1⟩ ct ?_;refine aw.evF (xAd (cj2 @ls hl)) ?_;refine aw.nil ?_;refine Wp.le (s':=⟨tm [(11,.sl 1 (aD s) .any),(12,.int .i64 w),(5,.int .u64 0),(13,.int .i64 0)],.only (upd aB 3 (some (ef B (a+w)))) [] n (m1+1)⟩) (aM.of (aY ?_) (OLe.bZ _) (λx hx=>by cases hx) (N4 _) (N4 _)) ?_
 ·simp only[aQ,go_sem,reduceIte,Nat.reduceEqDiff,Nat.reduceAdd,bx];and_intros<;>first|exact trivial|exact ay.refl _|exact ay.cap
 have hv:∀j,j<=w->val (s.take j)<256^j:=λj hj=>by
  have:=eW (s.take j)
  rwa [OV,hl,P4 hj] at this
 refine Wp.block ?_;refine Wp.cO [11,12] xA7 (λj:Nat=>[(5,.int .u64 (val (s.take j))),(13,.int .i64 j)]) (λj=> .only (upd aB 3 (some (ef B (a+w)))) [] n (m1+1)) (λj=>j<=w) (λj=>w - j) 0 (Ot _) rfl ?_ ?_
 ·exact cM @O9.{0}
 rintro j hj;by_cases hlt:j<w
 ·have d1:decide ((j:Int)<(w:Int))=true:=N9 ae;have h1:(0:Int)<=(j:Int):=by omega
  have h2:(j:Int)<(w:Int):=by omega
  have h2':(j:Int)<(s.length:Int):=by omega
  have h3:j<s.length:=by omega
  have hvj:=hv j hj;have hpw:(256:Nat)^j<=256^7:=Px ae ae;have e7:(256:Nat)^7=72057594037927936:=by decide
  rw[e7] at hpw;have hc:=(s.getD j 0).toNat_lt;have hat:=jg s j .any h3;unfold byte at hat;have hs:=oL s j h3;have o1:=sS (val (s.take j)) _ ae hc;generalize val (s.take j)=v at*
  have e1:IntKind.u64.wrap ((v:Int)*2^(min (Int.toNat 8) 64))=((v*256:Nat):Int):=by
   rw[show min (Int.toNat 8) 64=8 from rfl,IntWalk.u64_in _ ae];omega
  have e2:¬(8:Int)<0:=by omega
  generalize (s.getD j 0).toNat=c at*
  have e3:IntKind.u64.wrap (c:Int)=(c:Int):=IntWalk.u64_in _ ae;have e5:IntKind.i64.wrap ((j:Int)+1)=((j+1:Nat):Int):=by rw[IntWalk.i64_in _ ae];omega
  refine rf0 (bf d1 h1 h2 h2' @ls hl hat wY e1 e2 e3 (cj3 o1 @N7 @Ol)) ?_;refine ⟨j+1,ae,ae,?_⟩;rw[hs];refine aM.of (aY ?_) (OLe.bZ _) (λa ha=>ha) (N4 _) (N4 _);exact cM e5
 ·obtain rfl:j=w:=by omega
  have d1:decide ((j:Int)<(j:Int))=false:=N6 ae;have hPt:s.take j=s:=O8 ae;rw[hPt];refine rf0 d1 ?_;refine Wp.ret ⟨trivial,_,rfl,?_,rfl⟩;exact ay.refl _
theorem iC(B:List UInt8)(hB:B.length<=10000000)(a w:Nat)(ha:a<=B.length)(hw:w<=8)(h:¬a+w<=B.length):HX Tryz.prog 59 [.ptr 3 0,.int .i64 (w:Nat)] 3 (ef B a) v4:=by
 intro n m;obtain ⟨v,h',hc,rfl,rfl⟩:=aV.HK (Q:=λv h'=>v=v4/\h'= .only (upd aB 3 (some (ef B a))) [] n m) (args:=[.ptr 3 0,.int .i64 (w:Nat)]) (h:= .only (upd aB 3 (some (ef B a))) [] n m) f59 ah (by
  unfold c59 zz;refine Wp.aH xAc ?_;refine aw.nil ?_;refine Wp.aH xAc ?_;refine aw.nil ?_;refine Wp.seq ?_;refine Wp.xc (by simp only[go_sem,reduceIte,Nat.reduceEqDiff,Nat.reduceAdd,bx,ax,Of,Od];exact rfl) xAb ⟨N4 _,N4 _⟩ (pY B hB a w ha ae h n m) ?_;exact ⟨_,rfl,rfl,rfl⟩)
 exact hc
def tx(B:List UInt8)(a k:Nat):Option (List UInt8 × Nat):=if a+k<=B.length then some ((B.drop a).take k,a+k) else none
def nu(B:List UInt8)(a w:Nat):Option (Int × Nat):=if a+w<=B.length then some (i64 ((B.drop a).take w),a+w) else none
def nn(B:List UInt8)(a w:Nat):Option (Nat × Nat):=if a+w<=B.length then some (val ((B.drop a).take w),a+w) else none
def gu(B:List UInt8)(a:Nat):Option (Vs × Nat):=
 (nn B a 1).bind λx1=>(tx B x1.2 x1.1).bind λx2=>(nu B x2.2 8).bind λx3=>(tx B x3.2 11).bind λx4=>if hdB x4.1=true then (nn B x4.2 2).bind λx5=>(tx B x5.2 x5.1).bind λx6=>some (⟨x2.1,x3.1,(hdO x4.1).sz,(hdO x4.1).re,(hdO x4.1).im,(hdO x4.1).g,(hdO x4.1).u,x6.1⟩,x6.2) else none
def vr(B:List UInt8)(a0:Nat):Nat->Option (List Vs × Nat)
 |0=>some ([],a0)
 |j+1=>(vr B a0 j).bind λx=>(gu B x.2).map λy=>(x.1++[y.1],y.2)
theorem B8{B:List UInt8}{a0 j:Nat}(h:vr B a0 j=none):∀k,vr B a0 (j+k)=none
 |0=>h
 |k+1=>by
  have:=B8 h k;rw[show j+(k+1)=(j+k)+1 by omega];simp only[vr];rw[this];rfl
def gK(B:List UInt8)(a:Nat):Option (Bk × Nat):=
 (nn B a 1).bind λx1=>(tx B x1.2 x1.1).bind λx2=>(nn B x2.2 1).bind λx3=>(nn B x3.2 4).bind λx4=>(vr B x4.2 x4.1).bind λx5=>some (⟨x2.1,(x3.1:Nat),x5.1⟩,x5.2)
def br(B:List UInt8)(a0:Nat):Nat->Option (List Bk × Nat)
 |0=>some ([],a0)
 |j+1=>(br B a0 j).bind λx=>(gK B x.2).map λy=>(x.1++[y.1],y.2)
theorem B9{B:List UInt8}{a0 j:Nat}(h:br B a0 j=none):∀k,br B a0 (j+k)=none
 |0=>h
 |k+1=>by
  have:=B9 h k;rw[show j+(k+1)=(j+k)+1 by omega];simp only[br];rw[this];rfl
def dO(B:List UInt8):Option (List Bk):=
 (tx B 0 4).bind λx0=>if x0.1=[65,82,67,72] then (nn B x0.2 2).bind λx1=>(br B x1.2 x1.1).bind λx2=>(nn B x2.2 4).bind λx3=>if x3.1=jQ (B.take x2.2)/\x3.2=B.length then (if imE x2.1=0 then some x2.1 else none) else none else none
theorem th{B s Y:List UInt8}{a:Nat}(h:B.drop a=s++Y)(ha:a<=B.length):tx B a s.length=some (s,a+s.length)/\B.drop (a+s.length)=Y/\a+s.length<=B.length:=by
 have hl:=Pj List.length h;rw[OY,Og] at hl;have hle:a+s.length<=B.length:=by omega
 refine ⟨?_,?_,hle⟩
 ·unfold tx;rw[Oi hle,h,List.take_left]
 ·rw[<-PK,h,List.drop_left]
theorem tl{B Y:List UInt8}{a w v:Nat}(h:B.drop a=be w v++Y)(ha:a<=B.length)(hv:v<256^w):nn B a w=some (v,a+w)/\B.drop (a+w)=Y/\a+w<=B.length:=by
 obtain ⟨h1,h2,h3⟩:=th h ha;rw[aS] at h2 h3;refine ⟨?_,h2,h3⟩;unfold nn;rw[Oi h3,h,List.take_left' (aS _ _),iR,O7 hv]
theorem Ns{B Y:List UInt8}{a:Nat}{v:Int}(h:B.drop a=be 8 v.toNat++Y)(ha:a<=B.length)(h0:0<=v)(hv:v<9223372036854775808):nu B a 8=some (v,a+8)/\B.drop (a+8)=Y/\a+8<=B.length:=by
 obtain ⟨h1,h2,h3⟩:=th h ha;rw[aS] at h2 h3;refine ⟨?_,h2,h3⟩;have e8:(256:Nat)^8=18446744073709551616:=by decide
 unfold nu;rw[Oi h3,h,List.take_left' (aS _ _)];unfold i64;rw[iR,O7 (by rw[e8];omega),IntWalk.i64_in _ ae];have:((v.toNat:Nat):Int)=v:=by omega
 rw[this]
theorem K7{B Y:List UInt8}{a:Nat}{v:Vs}(h:B.drop a=gh v++Y)(ha:a<=B.length)(hv:v.okV=true):gu B a=some (v,a+(gh v).length)/\B.drop (a+(gh v).length)=Y/\a+(gh v).length<=B.length:=by
 obtain ⟨-,l1,l2⟩:=oT hv;obtain ⟨-,i1,i2⟩:=Al hv;have e1:(256:Nat)^1=256:=by decide
 have e2:(256:Nat)^2=65536:=by decide
 have hH:dK v.sz.toNat v.re.toNat v.im.toNat v.g v.u=jI v:=by
  unfold jI cR;rw[Oi (AB hv)]
 have hHl:(jI v).length=11:=by rw[<-hH];exact dN _ _ _ _ _
 obtain ⟨b1,b2⟩:=ly hv;have hlen:(gh v).length=1+v.o.length+8+11+2+v.b.length:=by
  unfold gh shB;simp only[Og,aS,dN]
 unfold gh shB at h;rw[hH] at h;simp only[OX] at h;obtain ⟨p1,q1,r1⟩:=tl h ha (by rw[e1];omega);obtain ⟨p2,q2,r2⟩:=th q1 r1;obtain ⟨p3,q3,r3⟩:=Ns q2 r2 i1 ae;obtain ⟨p4,q4,r4⟩:=th q3 r3;rw[hHl] at p4 q4 r4;obtain ⟨p5,q5,r5⟩:=tl q4 r4 (by rw[e2];omega);obtain ⟨p6,q6,r6⟩:=th q5 r5;have hpos:a+1+v.o.length+8+11+2+v.b.length=a+(gh v).length:=by omega
 rw[hpos] at p6 q6 r6;refine ⟨?_,q6,r6⟩;unfold gu;rw[p1];simp only[Option.bind_some];rw[p2];simp only[Option.bind_some];rw[p3];simp only[Option.bind_some];rw[p4];simp only[Option.bind_some];rw[Oi b1,p5];simp only[Option.bind_some];rw[p6];simp only[Option.bind_some];rw[b2]
theorem mA(l:List Vs)(v:Vs):cu (l++[v])=cu l++gh v:=by simp[cu]
theorem Nt{B:List UInt8}{a:Nat}(ha:a<=B.length)(l:List Vs):∀{Y:List UInt8},B.drop a=cu l++Y->(∀v∈l,v.okV=true)->vr B a l.length=some (l,a+(cu l).length)/\B.drop (a+(cu l).length)=Y/\a+(cu l).length<=B.length:=by
 induction l using qT with
 |h0=>intro Y h _;exact ⟨rfl,by simpa [cu] using h,by simpa [cu] using ha⟩
 |h1 l v ih=>
  intro Y h hv;rw[mA,OX] at h;obtain ⟨p1,q1,r1⟩:=ih h λu hu=>hv u (by simp[hu]);obtain ⟨p2,q2,r2⟩:=K7 q1 r1 (hv v ah);have e:a+(cu (l++[v])).length=a+(cu l).length+(gh v).length:=by rw[mA,Og];omega
  rw[e];refine ⟨?_,q2,r2⟩;rw[Og,List.length_cons,List.length_nil,Oo];simp only[vr];rw[p1];simp only[Option.bind_some];rw[p2];rfl
theorem Jo{B Y:List UInt8}{a:Nat}{b:Bk}(h:B.drop a=bE b++Y)(ha:a<=B.length)(hb:gq b=true)(hl:b.l.length<=1000000):gK B a=some (b,a+(bE b).length)/\B.drop (a+(bE b).length)=Y/\a+(bE b).length<=B.length:=by
 have hn:bW b.n=0:=by
  unfold gq at hb;simp only[Oh,Ov] at hb;exact hb.1.1
 have hn2:=(fx hn).2.1;have hs:=GD hb;have hs2:0<=b.st/\b.st<=2:=by simpa [oN] using hs
 have e1:(256:Nat)^1=256:=by decide
 have e4:(256:Nat)^4=4294967296:=by decide
 have hlen:(bE b).length=1+b.n.length+1+4+(cu b.l).length:=by
  unfold bE shB;simp only[Og,aS]
 unfold bE shB at h;simp only[OX] at h;obtain ⟨p1,q1,r1⟩:=tl h ha (by rw[e1];omega);obtain ⟨p2,q2,r2⟩:=th q1 r1;obtain ⟨p3,q3,r3⟩:=tl q2 r2 (by rw[e1];omega);obtain ⟨p4,q4,r4⟩:=tl q3 r3 (by rw[e4];omega);obtain ⟨p5,q5,r5⟩:=Nt r4 b.l q4 λv hv=>qw hb hv;have hpos:a+1+b.n.length+1+4+(cu b.l).length=a+(bE b).length:=by omega
 rw[hpos] at p5 q5 r5;refine ⟨?_,q5,r5⟩;unfold gK;rw[p1];simp only[Option.bind_some];rw[p2];simp only[Option.bind_some];rw[p3];simp only[Option.bind_some];rw[p4];simp only[Option.bind_some];rw[p5];simp only[Option.bind_some];have:((b.st.toNat:Nat):Int)=b.st:=by omega
 rw[this]
theorem Nu{B:List UInt8}{a:Nat}(ha:a<=B.length)(m:List Bk):∀{Y:List UInt8},B.drop a=(m.map bE).flatten++Y->(∀b∈m,gq b=true/\b.l.length<=1000000)->br B a m.length=some (m,a+((m.map bE).flatten).length)/\B.drop (a+((m.map bE).flatten).length)=Y/\a+((m.map bE).flatten).length<=B.length:=by
 induction m using qT with
 |h0=>intro Y h _;exact ⟨rfl,by simpa using h,by simpa using ha⟩
 |h1 m b ih=>
  intro Y h hv;have hs:((m++[b]).map bE).flatten=(m.map bE).flatten++bE b:=by simp
  rw[hs,OX] at h;obtain ⟨p1,q1,r1⟩:=ih h λu hu=>hv u (by simp[hu]);obtain ⟨p2,q2,r2⟩:=Jo q1 r1 (hv b ah).1 (hv b ah).2;have e:a+(((m++[b]).map bE).flatten).length=a+((m.map bE).flatten).length+(bE b).length:=by rw[hs,Og];omega
  rw[e];refine ⟨?_,q2,r2⟩;rw[Og,List.length_cons,List.length_nil,Oo];simp only[br];rw[p1];simp only[Option.bind_some];rw[p2];rfl
theorem AK{m:List Bk}(h:imB m=true)(hf:Few m):dO (gM m)=some m:=by
 have hO:gM m=ec m++be 4 (jQ (ec m)):=by unfold gM;rw[Oi h]
 have hl:m.length<=65535:=by
  unfold imB at h;simp only[Oh,Ov] at h;exact h.1
 have e2:(256:Nat)^2=65536:=by decide
 have e4:(256:Nat)^4=4294967296:=by decide
 have h0:(gM m).drop 0=[65,82,67,72]++(be 2 m.length++((m.map bE).flatten++be 4 (jQ (ec m)))):=by
  rw[Pw,hO];generalize be 4 (jQ (ec m))=T;unfold ec;simp only[OX]
 have hib:(ec m).length=4+2+((m.map bE).flatten).length:=by
  unfold ec;simp only[Og,aS,List.length_cons,List.length_nil]
 obtain ⟨p0,q0,r0⟩:=th h0 (Ot _);simp only[List.length_cons,List.length_nil,Oo,Nat.reduceAdd] at p0 q0 r0;obtain ⟨p1,q1,r1⟩:=tl q0 r0 (by rw[e2];omega);obtain ⟨p2,q2,r2⟩:=Nu r1 m q1 λb hb=>⟨jJ h hb,hf b hb⟩;have q2':(gM m).drop (4+2+((m.map bE).flatten).length)=be 4 (jQ (ec m))++[]:=by rw[q2,OR]
 obtain ⟨p3,q3,r3⟩:=tl q2' r2 (by rw[e4];exact vG _);have hlen:(gM m).length=4+2+((m.map bE).flatten).length+4:=by rw[hO,Og,aS,hib]
 have ht:(gM m).take (4+2+((m.map bE).flatten).length)=ec m:=by rw[hO,<-hib,List.take_left]
 unfold dO;rw[p0];simp only[Option.bind_some];rw[Oi trivial,p1];simp only[Option.bind_some];rw[p2];simp only[Option.bind_some];rw[p3];simp only[Option.bind_some];have hE:imE m=0:=by unfold imE;rw[Oi h]
 rw[ht,Oi ⟨rfl,hlen.symm⟩,Oi hE]
theorem Ca:∀(n v k:Nat),be n (k*256^n+v)=be n v
 |0,v,k=>rfl
 |n+1,v,k=>by
  have e:k*256^(n+1)=(k*256)*256^n:=by rw[Nat.pow_succ,Nat.mul_comm (256^n) 256,Rl]
  rw[be,be,e,Ca n v (k*256)];congr 1;have hp:0<256^n:=Nat.pow_pos ae;rw[Nat.add_comm,Nat.add_mul_div_right _ _ hp];apply QZ.1;simp only[UInt8.toNat_ofNat'];omega
theorem wu:∀(l:List UInt8),be l.length (Batch.val l)=l
 |[]=>rfl
 |c::l=>by
  rw[List.length_cons,be,Arch.kz,Ca,wu l];congr 1;have hp:0<256^l.length:=Nat.pow_pos ae;rw[Nat.add_comm,Nat.add_mul_div_right _ _ hp,Nat.div_eq_of_lt (eW l),Oo];exact UInt8.ofNat_toNat
theorem lC{B:List UInt8}{a k:Nat}{x:List UInt8 × Nat}(h:tx B a k=some x):B.drop a=x.1++B.drop x.2/\x.1.length=k/\x.2=a+k/\a+k<=B.length:=by
 unfold tx at h;split at h
 ·rename_i hc;cases h;refine ⟨?_,?_,rfl,hc⟩
  ·simp only;rw[<-PK,P3]
  ·simp only[OV,OY];omega
 ·cases h
theorem jq{B:List UInt8}{a w:Nat}{x:Nat × Nat}(h:nn B a w=some x):B.drop a=be w x.1++B.drop x.2/\x.2=a+w/\a+w<=B.length:=by
 unfold nn at h;split at h
 ·rename_i hc;cases h;refine ⟨?_,rfl,hc⟩;simp only;have hl:((B.drop a).take w).length=w:=by rw[OV,OY];omega
  have:=wu ((B.drop a).take w);rw[hl] at this;rw[this,<-PK,P3]
 ·cases h
theorem K8{B:List UInt8}{a:Nat}{x:Int × Nat}(h:nu B a 8=some x)(h0:0<=x.1):B.drop a=be 8 x.1.toNat++B.drop x.2/\x.2=a+8/\a+8<=B.length:=by
 unfold nu at h;split at h
 ·rename_i hc;cases h;refine ⟨?_,rfl,hc⟩;simp only at h0 |-;have hl:((B.drop a).take 8).length=8:=by rw[OV,OY];omega
  have e8:(256:Nat)^8=18446744073709551616:=by decide
  have h1:=Batch.eW ((B.drop a).take 8);rw[hl,e8] at h1;have h2:=wu ((B.drop a).take 8);rw[hl] at h2;have h3:(i64 ((B.drop a).take 8)).toNat=Batch.val ((B.drop a).take 8):=by
   unfold i64 at h0 |-;by_cases hs:Batch.val ((B.drop a).take 8)<9223372036854775808
   ·rw[IntWalk.i64_in _ ae];omega
   ·exfalso;have e:IntKind.i64.wrap ((Batch.val ((B.drop a).take 8):Nat):Int)=((Batch.val ((B.drop a).take 8):Nat):Int) - 18446744073709551616:=by
     have hm:(9223372036854775808:Int)<=((Batch.val ((B.drop a).take 8):Nat):Int)/\((Batch.val ((B.drop a).take 8):Nat):Int)<18446744073709551616:=by omega
     generalize ((Batch.val ((B.drop a).take 8):Nat):Int)=z at hm;have hz:z%18446744073709551616=z:=Int.emod_eq_of_lt ae ae;change (if (true&&decide (z%18446744073709551616≥9223372036854775808))=true then z%18446744073709551616 - 18446744073709551616 else z%18446744073709551616)=_;rw[hz,Oi ar]
    rw[e] at h0;omega
  rw[h3,h2,<-PK,P3]
 ·cases h
theorem Jp{B:List UInt8}{a:Nat}{x:Vs × Nat}(h:gu B a=some x)(h0:0<=x.1.id):B.drop a=gh x.1++B.drop x.2/\x.2<=B.length:=by
 unfold gu at h;obtain ⟨x1,p1,h⟩:=Oe.1 h;obtain ⟨x2,p2,h⟩:=Oe.1 h;obtain ⟨x3,p3,h⟩:=Oe.1 h;obtain ⟨x4,p4,h⟩:=Oe.1 h;split at h
 ·rename_i hb;obtain ⟨x5,p5,h⟩:=Oe.1 h;obtain ⟨x6,p6,h⟩:=Oe.1 h;cases h;simp only at h0 |-;obtain ⟨a1,-,-⟩:=jq p1;obtain ⟨a2,l2,-,-⟩:=lC p2;obtain ⟨a3,-,-⟩:=K8 p3 h0;obtain ⟨a4,l4,-,-⟩:=lC p4;obtain ⟨a5,-,-⟩:=jq p5;obtain ⟨a6,l6,e6,b6⟩:=lC p6;have hh:dK (hdO x4.1).sz.toNat (hdO x4.1).re.toNat (hdO x4.1).im.toNat (hdO x4.1).g (hdO x4.1).u=x4.1:=by
   unfold hdO;rw[Oi hb];unfold hdB at hb;simp only[Oh,Ov] at hb;exact hb.2.2
  refine ⟨?_,ae⟩;unfold gh shB;simp only;rw[hh,l2,l6,a1,a2,a3,a4,a5,a6];simp only[OX]
 ·cases h
theorem G4{B:List UInt8}{a0:Nat}(ha:a0<=B.length):∀(j:Nat){x:List Vs × Nat},vr B a0 j=some x->(∀v∈x.1,0<=v.id)->B.drop a0=cu x.1++B.drop x.2/\x.2<=B.length
 |0,x,h,_=>by
  simp only[vr,Om] at h;subst h;exact ⟨by simp[cu],ha⟩
 |j+1,x,h,hv=>by
  simp only[vr] at h;obtain ⟨y,hy,h⟩:=Oe.1 h;obtain ⟨z,hz,rfl⟩:=Oc.1 h;obtain ⟨p1,-⟩:=G4 ha j hy λv h=>hv v (by simp[h]);obtain ⟨p2,q2⟩:=Jp hz (hv z.1 ah);refine ⟨?_,q2⟩;simp only;rw[p1,p2,mA,OX]
theorem wv{B:List UInt8}{a0:Nat}:∀(j:Nat){x:List Vs × Nat},vr B a0 j=some x->x.1.length=j
 |0,x,h=>by
  simp only[vr,Om] at h;subst h;rfl
 |j+1,x,h=>by
  simp only[vr] at h;obtain ⟨y,hy,h⟩:=Oe.1 h;obtain ⟨z,hz,rfl⟩:=Oc.1 h;simp[wv j hy]
theorem AL{B:List UInt8}{a0:Nat}:∀(j:Nat){x:List Bk × Nat},br B a0 j=some x->x.1.length=j
 |0,x,h=>by
  simp only[br,Om] at h;subst h;rfl
 |j+1,x,h=>by
  simp only[br] at h;obtain ⟨y,hy,h⟩:=Oe.1 h;obtain ⟨z,hz,rfl⟩:=Oc.1 h;simp[AL j hy]
theorem G5{B:List UInt8}{a:Nat}{x:Bk × Nat}(h:gK B a=some x)(h0:∀v∈x.1.l,0<=v.id):B.drop a=bE x.1++B.drop x.2/\x.2<=B.length:=by
 unfold gK at h;obtain ⟨x1,p1,h⟩:=Oe.1 h;obtain ⟨x2,p2,h⟩:=Oe.1 h;obtain ⟨x3,p3,h⟩:=Oe.1 h;obtain ⟨x4,p4,h⟩:=Oe.1 h;obtain ⟨x5,p5,h⟩:=Oe.1 h;cases h;simp only at h0 |-;obtain ⟨a1,-,-⟩:=jq p1;obtain ⟨a2,l2,-,-⟩:=lC p2;obtain ⟨a3,-,-⟩:=jq p3;obtain ⟨a4,e4,b4⟩:=jq p4;obtain ⟨a5,b5⟩:=G4 ae _ p5 h0;have l5:=wv _ p5;refine ⟨?_,b5⟩;unfold bE shB;simp only[Int.toNat_natCast];rw[l2,l5,a1,a2,a3,a4,a5];simp only[OX]
theorem G6{B:List UInt8}{a0:Nat}(ha:a0<=B.length):∀(j:Nat){x:List Bk × Nat},br B a0 j=some x->(∀b∈x.1,∀v∈b.l,0<=v.id)->B.drop a0=(x.1.map bE).flatten++B.drop x.2/\x.2<=B.length
 |0,x,h,_=>by
  simp only[br,Om] at h;subst h;exact ⟨by simp,ha⟩
 |j+1,x,h,hv=>by
  simp only[br] at h;obtain ⟨y,hy,h⟩:=Oe.1 h;obtain ⟨z,hz,rfl⟩:=Oc.1 h;obtain ⟨p1,-⟩:=G6 ha j hy λb h=>hv b (by simp[h]);obtain ⟨p2,q2⟩:=G5 hz (hv z.1 ah);refine ⟨?_,q2⟩;have hs:((y.1++[z.1]).map bE).flatten=(y.1.map bE).flatten++bE z.1:=by simp
  simp only;rw[p1,p2,hs,OX]
theorem uQ{B:List UInt8}{m:List Bk}(h:dO B=some m):imB m=true/\gM m=B:=by
 unfold dO at h;obtain ⟨x0,p0,h⟩:=Oe.1 h;split at h
 ·rename_i hm0;obtain ⟨x1,p1,h⟩:=Oe.1 h;obtain ⟨x2,p2,h⟩:=Oe.1 h;obtain ⟨x3,p3,h⟩:=Oe.1 h;split at h
  ·rename_i hc;split at h
   ·rename_i hE;cases h;have hb:imB x2.1=true:=by
     unfold imE at hE;split at hE
     ·assumption
     ·cases hE
    refine ⟨hb,?_⟩;have hids:∀b∈x2.1,∀v∈b.l,0<=v.id:=λb hx v hv=>(Al (qw (jJ hb hx) hv)).2.1;obtain ⟨a0,-,-,-⟩:=lC p0;obtain ⟨a1,e1,b1⟩:=jq p1;obtain ⟨a2,b2⟩:=G6 ae _ p2 hids;have l2:=AL _ p2;obtain ⟨a3,e3,b3⟩:=jq p3;obtain ⟨c1,c2⟩:=hc;rw[hm0] at a0;have hB:B=ec x2.1++B.drop x2.2:=by
     have:B=B.drop 0:=rfl
     conv=>lhs;rw[this,a0,a1,a2]
     unfold ec;rw[l2];simp only[OX]
    have hlen:(ec x2.1).length=x2.2:=by
     have:=Pj List.length hB;rw[Og,OY] at this;omega
    have htk:B.take x2.2=ec x2.1:=by
     conv=>lhs;rw[hB]
     rw[<-hlen,List.take_left]
    have hdr:B.drop x2.2=be 4 (jQ (ec x2.1)):=by
     rw[a3,c1,htk,c2,List.drop_length,OR]
    unfold gM;rw[Oi hb,<-hdr];exact hB.symm
   ·cases h
  ·cases h
 ·cases h
end Go.Proofs.YtjnoobmaedgooaaGreat.Arch
end
section
set_option maxRecDepth 100000
namespace Go.Proofs.YtjnoobmaedgooaaGreat.Arch
open Go Go.Av Go.Proofs Go.Proofs.YtjnoobmaedgooaaGreat.C Go.Proofs.YtjnoobmaedgooaaGreat.Desk Go.Proofs.YtjnoobmaedgooaaGreat.Batch
structure Ext(h h':H):Prop where
 o:∀j,j<h.n->j≠3->h'.objs j=h.objs j
 n:h.n<=h'.n
 m:h.m<=h'.m
 t:∀t∈h.toks,t∈h'.toks
 ok:HOk h'
theorem Ext.trans{a b c:H}(h1:Ext a b)(h2:Ext b c):Ext a c where
 o:=λj hj h3=>(h2.o j (OT hj h1.n) h3).trans (h1.o j hj h3)
 n:=OI h1.n h2.n
 m:=OI h1.m h2.m
 t:=λt ht=>h2.t t (h1.t t ht)
 ok:=h2.ok
theorem Ext.more{h:H}(hk:HOk h){n m:Nat}(hn:h.n<=n)(hm:h.m<=m):Ext h {h with n:=n,m:=m}:=
 ⟨λ_ _ _=>rfl,hn,hm,λ_ h=>h,⟨λj hj=>hk.1 j (OI hn hj),λt ht=>OT (hk.2 t ht) hm⟩⟩
theorem Ext.src{F:Nat->Option Av.Obj}{n:Nat}{K:List Nat}{m:Nat}(hk:HOk ⟨F,n,K,m⟩)(h3:3<n)(o:Av.Obj){n' m':Nat}(hn:n<=n')(hm:m<=m'):Ext ⟨F,n,K,m⟩ ⟨upd F 3 (some o),n',K,m'⟩:=
 ⟨λj _ h=>by simp only[upd,Ob h],hn,hm,λ_ h=>h,⟨λj hj=>by
  have hj:n'<=j:=hj;have:j≠3:=by omega
  simp only[upd,Ob this];exact hk.1 j (by show n<=j;omega),λt ht=>OT (hk.2 t ht) hm⟩⟩
theorem Ext.of{F F':Nat->Option Av.Obj}{n n':Nat}{K:List Nat}{m m':Nat}(hk:HOk ⟨F,n,K,m⟩)(h1:∀j,j<n->j≠3->F' j=F j)(h2:∀j,n'<=j->F' j=none)(hn:n<=n')(hm:m<=m'):Ext ⟨F,n,K,m⟩ ⟨F',n',K,m'⟩:=
 ⟨h1,hn,hm,λ_ h=>h,⟨h2,λt ht=>OT (hk.2 t ht) hm⟩⟩
theorem jr(B:List UInt8)(hB:B.length<=10000000)(a w:Nat)(hw:w<=4)(h:a+w<=B.length):mf Tryz.prog 59 [.ptr 3 0,.int .i64 (w:Nat)] 3 (ef B a) (.int .i64 (val ((B.drop a).take w):Nat)) (ef B (a+w)):=by
 have:=yv B hB a w ae h
 rwa [uK (by rw[OV];omega)] at this
def QV(B:List UInt8)(a0 k:Nat)(Inv:List Vs->H->Prop):aO->St->Prop:=λe s'=>match vr B a0 k with
 |some x=>e= .normal/\Inv x.1 s'.h/\HOk s'.h/\s'.h.objs 3=some (ef B x.2)
 |none=>e= .panic v4/\∃l,Inv l s'.h
theorem K9{B:List UInt8}{a0 k j:Nat}{Inv:List Vs->H->Prop}(hj:j<=k)(h:vr B a0 j=none){s':St}{l:List Vs}(hI:Inv l s'.h):QV B a0 k Inv (.panic v4) s':=by
 have:=B8 h (k - j);rw[show j+(k - j)=k by omega] at this;unfold QV;rw[this];exact ⟨rfl,l,hI⟩
set_option maxHeartbeats 4000000 in
theorem La(B:List UInt8)(hB:B.length<=10000000)(id sb nb k:Nat)(hk:k<=4294967295)(a0:Nat)(ha0:a0<=B.length)(Inv:List Vs->H->Prop)
  (hup:∀l h h',Inv l h->Ext h h'->Inv l h')
  (hY:∀l v h,l.length<k->Inv l h->HOk h->kY Tryz.prog id [cz v] h λr h'=>r= .bool true/\Inv (l++[v]) h'/\HOk h'/\h'.objs 3=h.objs 3/\h'.objs sb=h.objs sb)
  (h0:H) (hi:Inv [] h0) (hok:HOk h0) (h3:h0.objs 3=some (ef B a0)) (hsb:h0.objs sb=some (.cells [.ptr 3 0])) (hnb:h0.objs nb=some (.cells [.int .i64 k])) (hs3:sb≠3) (hsn:sb<h0.n) (hn5:3<h0.n):
  Wp Tryz.prog 38 Kl ⟨fH [.yld id,.ptr nb 0,.ptr sb 0],h0⟩ (QV B a0 k Inv):=by
 unfold Kl zz;refine rf0 hnb ?_;refine Wp.cO [0,2,7] xA7 (λb:Nat × List Vs × Nat × H=>[(8,.int .i64 (b.1:Nat))]) (λb=>b.2.2.2) (λb=>b.1<=k/\vr B a0 b.1=some (b.2.1,b.2.2.1)/\b.2.2.1<=B.length/\Inv b.2.1 b.2.2.2/\HOk b.2.2.2/\b.2.2.2.objs 3=some (ef B b.2.2.1)/\b.2.2.2.objs sb=some (.cells [.ptr 3 0])/\sb<b.2.2.2.n/\3<b.2.2.2.n) (λb=>k - b.1) (0,[],a0,h0) ⟨Ot _,rfl,ha0,hi,hok,h3,hsb,hsn,hn5⟩ rfl ?_ ?_
 ·exact xSb
 rintro ⟨j,l,a,F,n,K,m⟩ ⟨hj,hv,ha,hI,hO,g3,gs,hs,hn⟩;simp only at hj hv ha hI hO g3 gs hs hn;by_cases hc:j<k
 ·have d1:decide ((j:Int)<(k:Int))=true:=N9 ae;have hnext:vr B a0 (j+1)=(gu B a).map λy=>(l++[y.1],y.2):=by
   simp only[vr];rw[hv];rfl
  have bad:gu B a=none->vr B a0 (j+1)=none:=λhb=>by rw[hnext,hb];rfl
  have hpan:∀{h':H},Ext ⟨F,n,K,m⟩ h'->gu B a=none->QV B a0 k Inv (.panic v4) ⟨λ_=> .any,h'⟩:=λhe hb=>K9 ae (bad hb) (hup l _ _ hI he);have s3:¬(3=sb):=λe=>hs3 e.symm;have n3:¬(3=n):=by omega
  have ns:¬(sb=n):=by omega
  have hzn:F n=none:=hO.1 n (N4 _);have hz:∀o:Av.Obj,upd F 3 (some o) n=none:=λo=>by
   simp only[upd];rw[Ob ae];exact hO.1 n (N4 _)
  have hsrc:∀(o:Av.Obj){n' m':Nat},n<=n'->m<=m'->Ext ⟨F,n,K,m⟩ ⟨upd F 3 (some o),n',K,m'⟩:=λo=>Ext.src hO hn o;refine Wp.aH (xAd d1) ?_;refine aw.nil ?_;refine Wp.seq ?_;refine Wp.cond_true (by simp only[go_sem,reduceIte,Nat.reduceEqDiff,Nat.reduceAdd,bx,d1]) ?_;refine Wp.skip ?_;refine Wp.seq (Wp.block ?_);have hl1:((1:Nat):Int)=1:=rfl;have hl8:((8:Nat):Int)=8:=rfl;have hl11:((11:Nat):Int)=11:=rfl;have hl2:((2:Nat):Int)=2:=rfl;by_cases c1:a+1<=B.length
  ·have hc1:=jr B hB a 1 aq c1;rw[hl1] at hc1;have y1:nn B a 1=some (val ((B.drop a).take 1),a+1):=by unfold nn;rw[Oi c1]
   have hk1:val ((B.drop a).take 1)<=1000000000000:=by
    have h1:=Batch.eW ((B.drop a).take 1);have h2:(256:Nat)^((B.drop a).take 1).length<=256^1:=Px ae (by rw[OV];omega);have e1:(256:Nat)^1=256:=by decide
    omega
   generalize val ((B.drop a).take 1)=k1 at*
   by_cases c2:a+1+k1<=B.length
   ·have hc2:=pX B hB (a+1) k1 c2;have y2:tx B (a+1) k1=some ((B.drop (a+1)).take k1,a+1+k1):=by unfold tx;rw[Oi c2]
    generalize (B.drop (a+1)).take k1=so at*
    by_cases c3:a+1+k1+8<=B.length
    ·have hc3:=yv B hB (a+1+k1) 8 aq c3;rw[hl8] at hc3;have y3:nu B (a+1+k1) 8=some (i64 ((B.drop (a+1+k1)).take 8),a+1+k1+8):=by unfold nu;rw[Oi c3]
     generalize i64 ((B.drop (a+1+k1)).take 8)=vid at*
     refine Wp.bq (xAd gs) ?_;refine az.cV xA2 xAb (g3) (hc1) λm1 hm1=>?_;refine az.cV xA2 xAb (by simp only[upd,Of]) (hc2) λm2 hm2=>?_;simp only at hm1 hm2;refine az.evR (xAe (cj3 gs hs3 s3)) ?_;refine az.cV xA2 xAb (by simp only[upd,Of]) (hc3) λm3 hm3=>?_;simp only at hm3;refine az.evR xA1 ?_;refine az.nil ⟨by simp[bg,aN,apart,aU,s3,hs3,n3,ns] <;>omega,?_⟩;simp only[fT];have hn3:¬(n=3):=by omega
     have p3:¬(3=n+1):=by omega
     have hp3:¬(n+1=3):=by omega
     have ps:¬(sb=n+1):=by omega
     have pn:¬(n=n+1):=by omega
     have pn':¬(n+1=n):=by omega
     have hext:∀{F':Nat->Option Av.Obj}{n' m':Nat},(∀j,j<n->j≠3->F' j=F j)->(∀j,n'<=j->F' j=none)->n<=n'->m<=m'->Ext ⟨F,n,K,m⟩ ⟨F',n',K,m'⟩:=Ext.of hO;have hvt:gu B a=(tx B (a+1+k1+8) 11).bind λx4=>if hdB x4.1=true then (nn B x4.2 2).bind λx5=>(tx B x5.2 x5.1).bind λx6=>some (⟨so,vid,(hdO x4.1).sz,(hdO x4.1).re,(hdO x4.1).im,(hdO x4.1).g,(hdO x4.1).u,x6.1⟩,x6.2) else none:=by
      unfold gu;rw[y1];simp only[Option.bind_some];rw[y2];simp only[Option.bind_some];rw[y3];simp only[Option.bind_some]
     by_cases c4:a+1+k1+8+11<=B.length
     ·have hc4:=pX B hB (a+1+k1+8) 11 c4;rw[hl11] at hc4;have y4:tx B (a+1+k1+8) 11=some ((B.drop (a+1+k1+8)).take 11,a+1+k1+8+11):=by unfold tx;rw[Oi c4]
      have hll:((B.drop (a+1+k1+8)).take 11).length<=11:=by rw[OV];omega
      generalize (B.drop (a+1+k1+8)).take 11=sh at*
      have ch:=sV sh ae;have dE:decide (hdE sh=0)=hdB sh:=by
       unfold hdE;cases hdB sh<;>decide
      rw[y4] at hvt;simp only[Option.bind_some] at hvt;unfold ni ez at ch;generalize hdE sh=he at*
      generalize hdO sh=hd at*
      obtain ⟨hsz,hre,him,hg,hu⟩:=hd;simp only at ch hvt;refine Wp.aH (xAd (cj5 gs hs3 s3 n3 ns)) ?_;refine aw.cV xA2 xAb (by simp only[upd,n3,Od,Of]) (hc4) λm4 hm4=>?_;simp only at hm4;refine aw.bO xA2 xAb (ch) ?_;refine aw.evF xAc ?_;refine aw.nil ?_;cases hbb:hdB sh with
      |false=>
       rw[hbb] at dE hvt;rw[Ob ah] at hvt;refine Wp.dD (xAd dE) xAb eY (trivial) ?_;exact hpan (hext (λj h1 h2=>by simp only[upd];(repeat rw[Ob ae])) (λj hj=>by simp only[upd];(repeat rw[Ob ae]);exact hO.1 j (by show n<=j;omega)) ae ae) hvt
      |true=>
      rw[hbb] at dE hvt;rw[Oi rfl] at hvt;refine Wp.aH (xAd dE) ?_;refine aw.bO xA2 xAb (gV) ?_;refine aw.nil ?_;refine Wp.aH (xAd (cj6 n3 hn3 p3 hp3 pn pn')) ?_;refine aw.nil ?_;by_cases c5:a+1+k1+8+11+2<=B.length
      ·have hc5:=jr B hB (a+1+k1+8+11) 2 aq c5;rw[hl2] at hc5;have y5:nn B (a+1+k1+8+11) 2=some (val ((B.drop (a+1+k1+8+11)).take 2),a+1+k1+8+11+2):=by unfold nn;rw[Oi c5]
       have hk5:val ((B.drop (a+1+k1+8+11)).take 2)<=1000000000000:=by
        have h1:=Batch.eW ((B.drop (a+1+k1+8+11)).take 2);have h2:(256:Nat)^((B.drop (a+1+k1+8+11)).take 2).length<=256^2:=Px ae (by rw[OV];omega);have e1:(256:Nat)^2=65536:=by decide
        omega
       rw[y5] at hvt;simp only[Option.bind_some] at hvt;generalize val ((B.drop (a+1+k1+8+11)).take 2)=k5 at*
       by_cases c6:a+1+k1+8+11+2+k5<=B.length
       ·have hc6:=pX B hB (a+1+k1+8+11+2) k5 c6;have y6:tx B (a+1+k1+8+11+2) k5=some ((B.drop (a+1+k1+8+11+2)).take k5,a+1+k1+8+11+2+k5):=by unfold tx;rw[Oi c6]
        rw[y6] at hvt;simp only[Option.bind_some] at hvt;generalize (B.drop (a+1+k1+8+11+2)).take k5=sb6 at*
        refine Wp.bq (xAd (fD gs hs3 s3 n3 hn3 ns p3 hp3 ps pn pn')) ?_;refine az.cV xA2 xAb (by simp only[upd,n3,p3,Od,Of]) (hc5) λm5 hm5=>?_;simp only at hm5;refine az.cV xA2 xAb (by simp only[upd,Of]) (hc6) λm6 hm6=>?_;simp only at hm6;refine az.evR (xAe (fD gs hs3 s3 n3 hn3 ns p3 hp3 ps pn pn')) ?_;refine az.nil ⟨by simp[bg,aN,apart,aU,s3,hs3,n3,ns] <;>omega,?_⟩;refine Wp.aH (xAd (fD gs hs3 s3 n3 hn3 ns p3 hp3 ps pn pn')) ?_;refine (λhE:Ext ⟨F,n,K,m⟩ _=>aw.yield (vals:=[cz ⟨so,vid,hsz,hre,him,hg,hu,sb6⟩]) ?_ ?_ ?_ (hY l _ _ (by have:=wv _ hv;simp only at this;omega) (hup l _ _ hI hE) hE.ok) λr h' hq hn' hm'=>?_) ?_
        ·simp only[go_sem,reduceIte,Nat.reduceEqDiff,Nat.reduceAdd,bx]
        ·simp only[go_sem,reduceIte,Nat.reduceEqDiff,Nat.reduceAdd,bx]
        ·simp only[go_sem,reduceIte,Nat.reduceEqDiff,Nat.reduceAdd,bx,List.map];exact aA.refl _
        ·obtain ⟨rfl,q1,q2,q3,q4⟩:=hq;simp only[upd,n3,p3,Od,Of] at q3;simp only[upd,ns,ps,hs3,Od] at q4;refine aw.evF (xAd @Oy) ?_;refine rf0 @Oy ?_;have e1:IntKind.i64.wrap ((j:Int)+1)=((j+1:Nat):Int):=by rw[IntWalk.i64_in _ ae];omega
         refine ⟨(j+1,l++[⟨so,vid,hsz,hre,him,hg,hu,sb6⟩],a+1+k1+8+11+2+k5,h'),⟨hc,by simp only;rw[hnext,hvt];rfl,c6,q1,q2,q3,by rw[q4];exact gs,?_,?_⟩,PB hc (OL _),?_⟩
         ·simp only at hn' |-;omega
         ·simp only at hn' |-;omega
         ·refine aM.of (aY ?_) (OLe.bZ _) (λx hx=>hx) (N4 _) (N4 _);exact cM e1
        ·refine hext (λj h1 h2=>by simp only[upd];(repeat rw[Ob ae])) (λj hj=>by simp only[upd];(repeat rw[Ob ae]);exact hO.1 j (by show n<=j;omega)) ae ae
       ·have hb:gu B a=none:=by
         rw[hvt];unfold tx;rw[Ob c6];rfl
        have hx:=pY B hB (a+1+k1+8+11+2) k5 c5 hk5 c6;refine Wp.seq (Wp.nH ?_);refine aR.eval (bJ (xAd (fD gs hs3 s3 n3 hn3 ns p3 hp3 ps pn pn'))) ?_;refine aR.cV xA2 xAb (by simp only[upd,n3,p3,Od,Of]) (hc5) λm5 hm5=>?_;simp only at hm5;refine aR.span xAb (by simp only[upd,Of]) (hx) (by simp only[gd,jh,eH,fQ,bN,bI,tmpsOf,List.filterMap_cons,List.filterMap_nil,P9,List.contains_nil,List.any_cons,List.any_nil,List.elem_cons,List.elem_nil,Option.toList_some,Option.toList_none,List.singleton_append,Ow,Nat.reduceBEq,Qe,PI,PT,Qg,P6,OM,Oy,OB,go_sem,reduceIte,Nat.reduceEqDiff,Nat.reduceAdd,bx,ax,Of,Od,Nat.reduceMul,Nat.reduceLeDiff,gs,hs3,s3,n3,ns];exact rfl) (by simp[aN,apart,aU,gs,hs3,s3,n3,ns] <;>omega) (fw rfl (by simp[aU])) ?_;exact λn7 m7 h1 h2=>by
         simp only at h1 h2;exact hpan (hext (λj h1 h2=>by simp only[upd];(repeat rw[Ob ae])) (λj hj=>by simp only[upd];(repeat rw[Ob ae]);exact hO.1 j (by show n<=j;omega)) ae ae) hb
      ·have hb:gu B a=none:=by
        rw[hvt];unfold nn;rw[Ob c5];rfl
       have hx:=iC B hB (a+1+k1+8+11) 2 c4 aq c5;rw[hl2] at hx;refine Wp.seq (Wp.nH ?_);refine aR.eval (bJ (xAd (fD gs hs3 s3 n3 hn3 ns p3 hp3 ps pn pn'))) ?_;refine aR.span xAb (by simp only[upd,n3,p3,Od,Of]) (hx) (by simp only[gd,jh,eH,fQ,bN,bI,tmpsOf,List.filterMap_cons,List.filterMap_nil,P9,List.contains_nil,List.any_cons,List.any_nil,List.elem_cons,List.elem_nil,Option.toList_some,Option.toList_none,List.singleton_append,Ow,Nat.reduceBEq,Qe,PI,PT,Qg,P6,OM,Oy,OB,go_sem,reduceIte,Nat.reduceEqDiff,Nat.reduceAdd,bx,ax,Of,Od,Nat.reduceMul,Nat.reduceLeDiff,gs,hs3,s3,n3,ns];exact rfl) (by simp[aN,apart,aU,gs,hs3,s3,n3,ns] <;>omega) (fw rfl (by simp[aU])) ?_;exact λn7 m7 h1 h2=>by
        simp only at h1 h2;exact hpan (hext (λj h1 h2=>by simp only[upd];(repeat rw[Ob ae])) (λj hj=>by simp only[upd];(repeat rw[Ob ae]);exact hO.1 j (by show n<=j;omega)) ae ae) hb
     ·have hb:gu B a=none:=by
       rw[hvt];unfold tx;rw[Ob c4];rfl
      have hx:=pY B hB (a+1+k1+8) 11 c3 aq c4;rw[hl11] at hx;refine Wp.seq (Wp.Dp (bu.eval (log:=[]) (bJ (xAd (cj5 gs hs3 s3 n3 ns))) (bu.span xAb (by simp only[upd,n3,Od,Of]) (hx))) ?_);exact hpan (hext (λj h1 h2=>by simp only[upd];(repeat rw[Ob ae])) (λj hj=>by simp only[upd];(repeat rw[Ob ae]);exact hO.1 j (by show n<=j;omega)) ae ae) hb
    ·have hb:gu B a=none:=by
      unfold gu nu;rw[y1];simp only[Option.bind_some];rw[y2];simp only[Option.bind_some];rw[Ob c3];rfl
     have hx:=iC B hB (a+1+k1) 8 c2 aq c3;rw[hl8] at hx;refine Wp.seq (Wp.nH ?_);refine aR.eval (bJ (xAd gs)) ?_;refine aR.cV xA2 xAb (g3) (hc1) λm1 hm1=>?_;refine aR.cV xA2 xAb (by simp only[upd,Of]) (hc2) λm2 hm2=>?_;simp only at hm1 hm2;refine aR.eval (bJ (xAd (cj3 gs hs3 s3))) ?_;simp only[fT];refine aR.span xAb (by simp only[upd,Of]) (hx) (by simp only[gd,jh,eH,fQ,bN,bI,tmpsOf,List.filterMap_cons,List.filterMap_nil,P9,List.contains_nil,List.any_cons,List.any_nil,List.elem_cons,List.elem_nil,Option.toList_some,Option.toList_none,List.singleton_append,Ow,Nat.reduceBEq,Qe,PI,PT,Qg,P6,OM,Oy,OB,go_sem,reduceIte,Nat.reduceEqDiff,Nat.reduceAdd,bx,ax,Of,Od,Nat.reduceMul,Nat.reduceLeDiff,gs,hs3,s3,n3,ns];exact rfl) (by simp[aN,apart,aU,gs,hs3,s3,n3,ns] <;>omega) (fw rfl (by simp[aU,hz])) ?_;exact λn4 m4 h1 h2=>hpan (hsrc _ h1 (by simp only at h2;omega)) hb
   ·have hb:gu B a=none:=by
     unfold gu tx;rw[y1];simp only[Option.bind_some];rw[Ob c2];rfl
    have hx:=pY B hB (a+1) k1 c1 hk1 c2;refine Wp.seq (Wp.nH ?_);refine aR.eval (bJ (xAd gs)) ?_;refine aR.cV xA2 xAb (g3) (hc1) λm1 hm1=>?_;simp only at hm1;refine aR.span xAb (by simp only[upd,Of]) (hx) (by simp only[gd,jh,eH,fQ,bN,bI,tmpsOf,List.filterMap_cons,List.filterMap_nil,P9,List.contains_nil,List.any_cons,List.any_nil,List.elem_cons,List.elem_nil,Option.toList_some,Option.toList_none,List.singleton_append,Ow,Nat.reduceBEq,Qe,PI,PT,Qg,P6,OM,Oy,OB,go_sem,reduceIte,Nat.reduceEqDiff,Nat.reduceAdd,bx,ax,Of,Od,Nat.reduceMul,Nat.reduceLeDiff,gs,hs3,s3,n3,ns];exact rfl) (by simp[aN,apart,aU,gs,hs3,s3,n3,ns] <;>omega) (fw rfl (by simp[aU,hz])) ?_;exact λn4 m4 h1 h2=>hpan (hsrc _ h1 (by simp only at h2;omega)) hb
  ·have hb:gu B a=none:=by
    unfold gu nn;rw[Ob c1];rfl
   have hx:=iC B hB a 1 ha aq c1;rw[hl1] at hx;refine Wp.seq (Wp.nH ?_);refine aR.eval (bJ (xAd gs)) ?_;refine aR.span xAb (g3) (hx) (by simp only[gd,jh,eH,fQ,bN,bI,tmpsOf,List.filterMap_cons,List.filterMap_nil,P9,List.contains_nil,List.any_cons,List.any_nil,List.elem_cons,List.elem_nil,Option.toList_some,Option.toList_none,List.singleton_append,Ow,Nat.reduceBEq,Qe,PI,PT,Qg,P6,OM,Oy,OB,go_sem,reduceIte,Nat.reduceEqDiff,Nat.reduceAdd,bx,ax,Of,Od,Nat.reduceMul,Nat.reduceLeDiff,gs,hs3,s3];exact rfl) (by simp[aN,apart,aU,gs,hs3,s3] <;>omega) (fw rfl (by simp[aU,hzn])) ?_;exact λn2 m2 h1 h2=>hpan (Ext.more hO h1 h2) hb
 ·have hjk:j=k:=by omega
  subst hjk;have ig:=fX j;refine Wp.aH (xAd ig) ?_;refine aw.nil ?_;refine Wp.seq ?_;refine Wp.cond_false (by simp only[go_sem,reduceIte,Nat.reduceEqDiff,Nat.reduceAdd,bx,ig]) ?_;refine Wp.exit ?_;show QV B a0 j Inv .normal _;unfold QV;rw[hv];exact ⟨rfl,hI,hO,g3⟩
theorem Lb(k:Int)(n m:Nat):bB Tryz.prog 106 [.ptr 3 0,.int .i64 k] (.only aB [] n m) (.clo (.func 154) [] [.ptr (n+1) 0,.ptr n 0]) (.only (upd (upd aB n (some (.cells [.ptr 3 0]))) (n+1) (some (.cells [.int .i64 k]))) [] (n+2) m):=by
 refine aV.kX f106 ah ?_;unfold LH zz;refine dI ?_;exact Wp.ret ⟨trivial,_,rfl,ay.refl _,rfl⟩
theorem Lc(k:Int)(n m:Nat):bB Tryz.prog 58 [.ptr 3 0,.int .i64 k] (.only aB [] n m) (.clo (.func 105) [] [.ptr (n+1) 0,.ptr n 0]) (.only (upd (upd aB n (some (.cells [.ptr 3 0]))) (n+1) (some (.cells [.int .i64 k]))) [] (n+2) m):=by
 refine aV.kX f58 ah ?_;unfold c58 zz;refine dI ?_;exact Wp.ret ⟨trivial,_,rfl,ay.refl _,rfl⟩
structure yw(hr:H)(L:Nat)(lp:Av.Obj)(nm:List UInt8)(st:Int)(l:List Vs)(h:H):Prop where
 e:Ext hr h
 x:∃tk,h.objs hr.n=some (.cells [.str nm,.int .i64 st,.sl 8 (vss l) (.own tk)])/\tk∈h.toks/\hr.m<=tk
 lp:h.objs L=some lp
 n:L<h.n
theorem yw.up{hr:H}{L:Nat}{lp:Av.Obj}{nm:List UInt8}{st:Int}{l:List Vs}{h h':H}(hL:hr.n<L)(h3:3<hr.n)(I:yw hr L lp nm st l h)(E:Ext h h'):yw hr L lp nm st l h':=by
 obtain ⟨tk,a,b,c⟩:=I.x;have hn:=I.n;exact ⟨I.e.trans E,⟨tk,(E.o _ ae ae).trans a,E.t _ b,c⟩,(E.o _ hn ae).trans I.lp,OT hn E.n⟩
def Nv:AC:= .reg [⟨some 5,none,.alloc [.str [],.int .i64 0,.int .i64 0,.int .i64 0,.int .i64 0,.bool false,.bool false,.str []]⟩,⟨none,none,.store 8 (.t 5) (.t 20)⟩] none
def Nw:AC:= .block 3 (.reg [⟨some 21,none,.faddr 2 (.t 4)⟩,⟨some 22,none,.load none (.t 21)⟩,⟨some 23,none,.load (some 8) (.t 5)⟩,⟨some 24,none,.buildSl 8 [(.t 23)]⟩,⟨some 25,none,.app false 8 72 (.t 22) (.t 24)⟩,⟨some 26,none,.faddr 2 (.t 4)⟩,⟨none,none,.store 1 (.t 26) (.t 25)⟩] none)
set_option maxHeartbeats 2000000 in
theorem Ld{hr:H}(hk:HOk hr)(h3:3<hr.n){L:Nat}(hL:hr.n<L){tt:Tm}{asg body:Code}
  (a1:cCode Tryz.prog 32 asg=some Nv) (a2:cCode Tryz.prog 32 body=some Nw) (a3:fu asg=true) (a4:fu body=true) (t4:tt 4= .ptr hr.n 0) {nm:List UInt8} {st:Int} {sb:Nat} (hsb:sb≠hr.n) (hsL:sb≠L) {k:Nat} (hkk:k<=4294967295)
  (l:List Vs) (v:Vs) (h:H) (hl:l.length<k) (I:yw hr L (.loop 32 tt [20] asg body .ready none) nm st l h) (hO:HOk h) (hsn:sb<h.n):
  kY Tryz.prog L [cz v] h λr h'=>r= .bool true/\yw hr L (.loop 32 tt [20] asg body .ready none) nm st (l++[v]) h'/\HOk h'/\h'.objs 3=h.objs 3/\h'.objs sb=h.objs sb:=by
 obtain ⟨G,n1,K1,m1⟩:=h;obtain ⟨tk,gx,gt,gm⟩:=I.x;have gl:=I.lp;have gn:=I.n;have gE:=I.e;simp only at gx gt gl gn hsn;refine nJ (t:=tt) (ps:=[20]) gl a1 a2 a3 a4 rfl ah ?_;unfold Nv Nw;have hvs:cz v= .agg [.str v.o,.int .i64 v.id,.int .i64 v.sz,.int .i64 v.re,.int .i64 v.im,.bool v.g,.bool v.u,.str v.b]:=rfl;have nL:¬(L=n1):=by omega
 have nr:¬(hr.n=n1):=by omega
 have rL:¬(hr.n=L):=by omega
 have Lr:¬(L=hr.n):=by omega
 have n1r:¬(n1=hr.n):=by omega
 have n1L:¬(n1=L):=by omega
 have lv:=dF l;have e6:(l.length+1)*72<=140737488355328:=by omega
 have e7:l.length+1<4611686018427387904:=by omega
 rw[hvs];refine Wp.cA (by simp only[go_sem,reduceIte,Nat.reduceEqDiff,Nat.reduceAdd,bx,ax,Of,Od,Nat.reduceMul,Nat.reduceLeDiff,kh];exact rfl) ?_;refine aw.nil ?_;refine ⟨rfl,tt,by simp only[upd,nL,Od];exact gl,?_⟩;refine Wp.block ?_;refine Wp.cA (by simp only[go_sem,reduceIte,Nat.reduceEqDiff,Nat.reduceAdd,bx,ax,Of,Od,Nat.reduceMul,Nat.reduceLeDiff,kh,t4,gx,nL,nr,rL,Lr,n1r,n1L,lv,e6,e7,gt,List.length_cons,List.length_nil,Ol];exact rfl) ?_;refine aw.nil ?_;simp only[aO.inBlock];have hOk:∀(Z C X R:Option Av.Obj),HOk ⟨upd (upd (upd (upd (upd G n1 Z) n1 C) L X) hr.n R) L (some (.loop 32 tt [20] asg body .ready none)),n1+1,m1::List.filter (λx=>decide ¬x=tk) K1,m1+1⟩:=λZ C X R=>by
  refine ⟨λj hj=>?_,λt ht=>?_⟩
  ·have hj:n1+1<=j:=hj;simp only[upd]
   (repeat rw[Ob ae])
   exact hO.1 j (by show n1<=j;omega)
  ·rcases OA.1 ht with rfl|ht
   ·exact OL _
   ·have:=hO.2 t (Pe.1 ht).1;simp only at this |-;omega
 refine ⟨tt,true,.ready,none,by simp only[upd,Lr,Od,Of],.normal,λ_ _=>⟨rfl,?_,?_,?_,?_⟩⟩
 ·refine ⟨⟨λj hj hj3=>?_,?_,?_,λt ht=>?_,?_⟩,⟨m1,?_,PL,?_⟩,by simp only[upd,Of],by simp only;omega⟩
  ·simp only[upd]
   (repeat rw[Ob ae])
   exact gE.o j hj hj3
  ·have:=gE.n;simp only at this |-;omega
  ·have:=gE.m;simp only at this |-;omega
  ·have h1:=gE.t t ht;have h2:=hk.2 t ht;refine QG _ (Pe.2 ⟨h1,?_⟩);have:t≠tk:=by omega
   simpa using this
  ·exact hOk _ _ _ _
  ·simp only[upd,rL,Od,Of];simp[vss,cz]
  ·have:=gE.m;simp only at this;omega
 ·exact hOk _ _ _ _
 ·simp only[upd]
  (repeat rw[Ob ae])
 ·simp only[upd]
  (repeat rw[Ob ae])
theorem Jq{B:List UInt8}{a:Nat}{x:Vs × Nat}(h:gu B a=some x):x.2<=B.length:=by
 unfold gu at h;obtain ⟨x1,p1,h⟩:=Oe.1 h;obtain ⟨x2,p2,h⟩:=Oe.1 h;obtain ⟨x3,p3,h⟩:=Oe.1 h;obtain ⟨x4,p4,h⟩:=Oe.1 h;split at h
 ·obtain ⟨x5,p5,h⟩:=Oe.1 h;obtain ⟨x6,p6,h⟩:=Oe.1 h;cases h;obtain ⟨-,-,e,b⟩:=lC p6;simp only;omega
 ·cases h
theorem G7{B:List UInt8}{a0:Nat}(ha:a0<=B.length):∀(j:Nat){x:List Vs × Nat},vr B a0 j=some x->x.2<=B.length
 |0,x,h=>by
  simp only[vr,Om] at h;subst h;exact ha
 |j+1,x,h=>by
  simp only[vr] at h;obtain ⟨y,hy,h⟩:=Oe.1 h;obtain ⟨z,hz,rfl⟩:=Oc.1 h;exact Jq hz
theorem G8{α:Type}{f:Nat->α}{i j:Nat}{a b:α}(h:¬(i=j)):upd (upd f i a) j b=upd (upd f j b) i a:=by
 funext k;simp only[upd];by_cases h1:k=i
 ·subst h1;rw[Ob h,Oi rfl,Oi rfl]
 ·rw[Ob h1,Ob h1]
def QB(B:List UInt8)(a0 k:Nat)(Inv:List Bk->H->Prop):aO->St->Prop:=λe s'=>match br B a0 k with
 |some x=>e= .normal/\Inv x.1 s'.h/\HOk s'.h/\s'.h.objs 3=some (ef B x.2)
 |none=>e= .panic v4/\∃l,Inv l s'.h
theorem Le{B:List UInt8}{a0 k j:Nat}{Inv:List Bk->H->Prop}(hj:j<=k)(h:br B a0 j=none){s':St}{l:List Bk}(hI:Inv l s'.h):QB B a0 k Inv (.panic v4) s':=by
 have:=B9 h (k - j);rw[show j+(k - j)=k by omega] at this;unfold QB;rw[this];exact ⟨rfl,l,hI⟩
theorem AM{l:List UInt8}{w:Nat}(h:l.length<=w)(hw:w<=4):Batch.val l<=4294967295:=by
 have h1:=Batch.eW l;have h2:(256:Nat)^l.length<=256^4:=Px ae ae;have e1:(256:Nat)^4=4294967296:=by decide
 omega
set_option maxHeartbeats 4000000 in
theorem Nx(B:List UInt8)(hB:B.length<=10000000)(id sb nb k:Nat)(hk:k<=4294967295)(a0:Nat)(ha0:a0<=B.length)(Inv:List Bk->H->Prop)
  (hup:∀l h h',Inv l h->Ext h h'->Inv l h')
  (hY:∀l v h,l.length<k->Inv l h->HOk h->kY Tryz.prog id [eA v] h λr h'=>r= .bool true/\Inv (l++[v]) h'/\HOk h'/\h'.objs 3=h.objs 3/\h'.objs sb=h.objs sb)
  (h0:H) (hi:Inv [] h0) (hok:HOk h0) (h3:h0.objs 3=some (ef B a0)) (hsb:h0.objs sb=some (.cells [.ptr 3 0])) (hnb:h0.objs nb=some (.cells [.int .i64 k])) (hs3:sb≠3) (hsn:sb<h0.n) (hn5:3<h0.n):
  Wp Tryz.prog 32 Kk ⟨fH [.yld id,.ptr nb 0,.ptr sb 0],h0⟩ (QB B a0 k Inv):=by
 unfold Kk;refine rf0 hnb ?_;refine Wp.cO [0,2,6] xA7 (λb:Nat × List Bk × Nat × H=>[(7,.int .i64 (b.1:Nat))]) (λb=>b.2.2.2) (λb=>b.1<=k/\br B a0 b.1=some (b.2.1,b.2.2.1)/\b.2.2.1<=B.length/\Inv b.2.1 b.2.2.2/\HOk b.2.2.2/\b.2.2.2.objs 3=some (ef B b.2.2.1)/\b.2.2.2.objs sb=some (.cells [.ptr 3 0])/\sb<b.2.2.2.n/\3<b.2.2.2.n) (λb=>k - b.1) (0,[],a0,h0) ⟨Ot _,rfl,ha0,hi,hok,h3,hsb,hsn,hn5⟩ rfl ?_ ?_
 ·exact xSb
 rintro ⟨j,l,a,F,n,K,m⟩ ⟨hj,hv,ha,hI,hO,g3,gs,hs,hn⟩;simp only at hj hv ha hI hO g3 gs hs hn;by_cases hc:j<k
 ·have d1:decide ((j:Int)<(k:Int))=true:=N9 ae;have hnext:br B a0 (j+1)=(gK B a).map λy=>(l++[y.1],y.2):=by
   simp only[br];rw[hv];rfl
  have bad:gK B a=none->br B a0 (j+1)=none:=λhb=>by rw[hnext,hb];rfl
  have hpan:∀{h':H},Ext ⟨F,n,K,m⟩ h'->gK B a=none->QB B a0 k Inv (.panic v4) ⟨λ_=> .any,h'⟩:=λhe hb=>Le ae (bad hb) (hup l _ _ hI he);have s3:¬(3=sb):=λe=>hs3 e.symm;have n3:¬(3=n):=by omega
  have ns:¬(sb=n):=by omega
  have hzn:F n=none:=hO.1 n (N4 _);have hz:∀o:Av.Obj,upd F 3 (some o) n=none:=λo=>by
   simp only[upd];rw[Ob ae];exact hO.1 n (N4 _)
  have hsrc:∀(o:Av.Obj){n' m':Nat},n<=n'->m<=m'->Ext ⟨F,n,K,m⟩ ⟨upd F 3 (some o),n',K,m'⟩:=λo=>Ext.src hO hn o;refine Wp.aH (xAd d1) ?_;refine aw.nil ?_;refine Wp.seq ?_;refine Wp.cond_true (by simp only[go_sem,reduceIte,Nat.reduceEqDiff,Nat.reduceAdd,bx,d1]) ?_;refine Wp.skip ?_;refine Wp.seq (Wp.block ?_);have hl1:((1:Nat):Int)=1:=rfl;have hl4:((4:Nat):Int)=4:=rfl;by_cases c1:a+1<=B.length
  ·have hc1:=jr B hB a 1 aq c1;rw[hl1] at hc1;have y1:nn B a 1=some (val ((B.drop a).take 1),a+1):=by unfold nn;rw[Oi c1]
   have hk1:val ((B.drop a).take 1)<=4294967295:=AM (w:=1) (by rw[OV];omega) aq;generalize val ((B.drop a).take 1)=k1 at*
   by_cases c2:a+1+k1<=B.length
   ·have hc2:=pX B hB (a+1) k1 c2;have y2:tx B (a+1) k1=some ((B.drop (a+1)).take k1,a+1+k1):=by unfold tx;rw[Oi c2]
    generalize (B.drop (a+1)).take k1=so at*
    by_cases c3:a+1+k1+1<=B.length
    ·have hc3:=jr B hB (a+1+k1) 1 aq c3;rw[hl1] at hc3;have y3:nn B (a+1+k1) 1=some (val ((B.drop (a+1+k1)).take 1),a+1+k1+1):=by unfold nn;rw[Oi c3]
     generalize val ((B.drop (a+1+k1)).take 1)=st at*
     have hvt:gK B a=(nn B (a+1+k1+1) 4).bind λx4=>(vr B x4.2 x4.1).bind λx5=>some (⟨so,(st:Nat),x5.1⟩,x5.2):=by
      unfold gK;rw[y1];simp only[Option.bind_some];rw[y2];simp only[Option.bind_some];rw[y3];simp only[Option.bind_some]
     have hn3:¬(n=3):=by omega
     have p3:¬(3=n+1):=by omega
     have hp3:¬(n+1=3):=by omega
     have ps:¬(sb=n+1):=by omega
     have pn:¬(n=n+1):=by omega
     have pn':¬(n+1=n):=by omega
     refine Wp.bq (xAd gs) ?_;refine az.cV xA2 xAb (g3) (hc1) λm1 hm1=>?_;refine az.cV xA2 xAb (by simp only[upd,Of]) (hc2) λm2 hm2=>?_;simp only at hm1 hm2;refine az.evR (xAe (cj3 gs hs3 s3)) ?_;refine az.cV xA2 xAb (by simp only[upd,Of]) (hc3) λm3 hm3=>?_;simp only at hm3;refine az.evR xA1 ?_;refine az.nil ⟨by simp[bg,aN,apart,aU,s3,hs3,n3,ns] <;>omega,?_⟩;simp only[fT];refine Wp.seq ?_;by_cases c4:a+1+k1+1+4<=B.length
     ·have hc4:=jr B hB (a+1+k1+1) 4 aq c4;rw[hl4] at hc4;have y4:nn B (a+1+k1+1) 4=some (val ((B.drop (a+1+k1+1)).take 4),a+1+k1+1+4):=by unfold nn;rw[Oi c4]
      have hk4:val ((B.drop (a+1+k1+1)).take 4)<=4294967295:=AM (w:=4) (by rw[OV];omega) aq;rw[y4] at hvt;simp only[Option.bind_some] at hvt;generalize val ((B.drop (a+1+k1+1)).take 4)=k4 at*
      refine Wp.bq (xAd (cj6 gs hs3 s3 n3 hn3 ns)) ?_;refine az.cV xA2 xAb (by simp only[upd,n3,Od,Of]) (hc4) λm4 hm4=>?_;simp only at hm4;refine az.jb xA2 xAb (Lb (k4:Nat) _ _) (r7 _ _ _) ?_;refine az.nil ⟨by simp[bg,aN,apart,aU,s3,hs3,n3,ns] <;>omega,?_⟩;refine Wp.block ?_;refine Wp.le (aM.tok _ _) ?_;have hsub:cm (.cells [.str so,.int .i64 (st:Nat),.sl 8 [] (.exact 0)]) (.cells [.str so,.int .i64 (st:Nat),.sl 8 [] (.own m4)]):=aA.cons (ay.refl _) (aA.cons (ay.refl _) (aA.cons (ay.dt rfl) aA.nil));refine Wp.le (s':=⟨tm [(0,.yld id),(2,.ptr sb 0),(6,.int .i64 (k:Nat)),(7,.int .i64 (j:Nat)),(4,.ptr n 0),(19,.clo (.func 154) [] [.ptr (n+1+1) 0,.ptr (n+1) 0])],⟨upd (upd (upd (upd F 3 (some (ef B (a+1+k1+1+4)))) n (some (.cells [.str so,.int .i64 (st:Nat),.sl 8 [] (.own m4)]))) (n+1) (some (.cells [.ptr 3 0]))) (n+1+1) (some (.cells [.int .i64 (k4:Nat)])),n+1+2,m4::K,m4+1⟩⟩) (aM.of (aY ?_) (by rw[G8 hn3,fT];exact OLe.upd (OLe.upd (OLe.upd (OLe.bZ _) hsub) (cm.refl _)) (cm.refl _)) (λx hx=>hx) (N4 _) (N4 _)) ?_
      ·exact xSb
      obtain ⟨F1,hF1⟩:∃F1,F1=upd (upd (upd (upd F 3 (some (ef B (a+1+k1+1+4)))) n (some (.cells [.str so,.int .i64 (st:Nat),.sl 8 [] (.own m4)]))) (n+1) (some (.cells [.ptr 3 0]))) (n+1+1) (some (.cells [.int .i64 (k4:Nat)])):=⟨_,rfl⟩;rw[<-hF1];have b3:F1 3=some (ef B (a+1+k1+1+4)):=by rw[hF1];simp only[upd];rw[Ob ae,Ob ae,Ob ae,Oi trivial]
      have bn:F1 n=some (.cells [.str so,.int .i64 (st:Nat),.sl 8 [] (.own m4)]):=by rw[hF1];simp only[upd];rw[Ob ae,Ob ae,Oi trivial]
      have b1:F1 (n+1)=some (.cells [.ptr 3 0]):=by rw[hF1];simp only[upd];rw[Ob ae,Oi trivial]
      have b2:F1 (n+1+1)=some (.cells [.int .i64 (k4:Nat)]):=by rw[hF1];simp only[upd];rw[Oi trivial]
      have bo:∀j,j<n->j≠3->F1 j=F j:=λj h1 h2=>by rw[hF1];simp only[upd];(repeat rw[Ob ae])
      have bz:∀j,n+3<=j->F1 j=none:=λj hj=>by rw[hF1];simp only[upd];(repeat rw[Ob ae]);exact hO.1 j (by show n<=j;omega)
      clear hF1;generalize hL:n+1+2=L at*
      have hmm:m<=m4:=by omega
      have hKm:∀t∈K,t<m:=hO.2;have hE1:∀(lp:Av.Obj),Ext ⟨F,n,K,m⟩ ⟨upd F1 L (some lp),L+1,m4::K,m4+1⟩:=λlp=>by
       refine ⟨λj h1 h2=>?_,by show n<=L+1;omega,by show m<=m4+1;omega,λt ht=>QG _ ht,⟨λj hj=>?_,λt ht=>?_⟩⟩
       ·have h1:j<n:=h1;simp only[upd];rw[Ob ae];exact bo j h1 h2
       ·have hj:L+1<=j:=hj;simp only[upd];rw[Ob ae];exact bz j ae
       ·rcases OA.1 ht with rfl|ht
        ·exact OL _
        ·have:=hKm t ht;show t<m4+1;omega
      generalize hT:tm [(0,AV.yld id),(2,.ptr sb 0),(6,.int .i64 (k:Nat)),(7,.int .i64 (j:Nat)),(4,.ptr n 0),(19,.clo (.func 154) [] [.ptr (n+1+1) 0,.ptr (n+1) 0])]=tt at*
      have t4:tt 4= .ptr n 0:=by rw[<-hT];rfl
      have t19:tt 19= .clo (.func 154) [] [.ptr (n+1+1) 0,.ptr (n+1) 0]:=by rw[<-hT];rfl
      have WV:=λ(asg body:Code) a1 a2 a3 a4=>La B hB L (n+1) (n+1+1) k4 hk4 (a+1+k1+1+4) c4 (yw ⟨F,n,K,m⟩ L (.loop 32 tt [20] asg body .ready none) so (st:Nat))
       (λl h h' I E=>I.up (by show n<L;omega) (by show 3<n;omega) E)
       (λl v h hl I ho=>Ld (sb:=n+1) hO (by show 3<n;omega) (by show n<L;omega) a1 a2 a3 a4 t4 (by show n+1≠n;omega) ae hk4 l v h hl I ho (by have:=I.n;omega))
       ⟨upd F1 L (some (.loop 32 tt [20] asg body .ready none)),L+1,m4::K,m4+1⟩
       ⟨hE1 _,⟨m4,by simp only[upd];rw[Ob ae];exact bn,PL,hmm⟩,by simp only[upd,Of],OL _⟩ (hE1 _).ok
       (by simp only[upd];rw[Ob ae];exact b3) (by simp only[upd];rw[Ob ae];exact b1) (by simp only[upd];rw[Ob ae];exact b2) ae (by show n+1<L+1;omega) (by show 3<L+1;omega)
      cases hvr:vr B (a+1+k1+1+4) k4 with
      |none=>
       have hb:gK B a=none:=by rw[hvt,hvr];rfl
       refine Wp.Bn (fi:=154) (first:=[]) (caps:=[.ptr (n+1+1) 0,.ptr (n+1) 0]) t19 (Tryz.func154) rfl (Ox (by kernel_rfl)) (bz L ae) λasg body a1 a2 a3 a4=>?_;have W:=WV asg body a1 a2 a3 a4;unfold QV at W;rw[hvr] at W;obtain ⟨v,h',cI,hnm,rfl,l2,hI2⟩:=aV.xd (Q:=λv h'=>v=v4/\∃l,yw ⟨F,n,K,m⟩ L (.loop 32 tt [20] asg body .ready none) so (st:Nat) l h') f154 ah (W.mono λe s' hq=>⟨_,hq.1,rfl,hq.2⟩);obtain ⟨f2,n2,T2,m2'⟩:=h';exact ⟨v4,f2,n2,T2,m2',cI,hnm.1,by have:=hnm.2;simp only at this;omega,hpan hI2.e hb⟩
      |some x=>
       have hb:gK B a=some (⟨so,(st:Nat),x.1⟩,x.2):=by rw[hvt,hvr];rfl
       refine Wp.E6 (fi:=154) (first:=[]) (caps:=[.ptr (n+1+1) 0,.ptr (n+1) 0]) t19 (Tryz.func154) rfl (Ox (by kernel_rfl)) (bz L ae) λasg body a1 a2 a3 a4=>?_;have W:=WV asg body a1 a2 a3 a4;unfold QV at W;rw[hvr] at W;refine (aV.iF (Q:=λ_ h'=>yw ⟨F,n,K,m⟩ L (.loop 32 tt [20] asg body .ready none) so (st:Nat) x.1 h'/\HOk h'/\h'.objs 3=some (ef B x.2)) f154 ah (W.mono λe s' hq=>⟨jm hq.1,_,rfl,hq.2⟩)).mono λr h' hq=>?_;obtain ⟨hI2,hO2,g32⟩:=hq;refine ⟨tt,.ready,none,.normal,hI2.lp,by simp,.none,?_⟩;obtain ⟨f2,n2,T2,m2'⟩:=h';obtain ⟨tk,gx,gt,gm⟩:=hI2.x;have gn:=hI2.n;have gE:=hI2.e;simp only at gx gt gn g32;have nL:¬(n=L):=by omega
       have L3:¬(3=L):=by omega
       have sL:¬(sb=L):=by omega
       have gsb:f2 sb=F sb:=gE.o sb hs hs3;rw[<-hT];show Wp Tryz.prog 32 _ _ _;simp only;refine Wp.aH (xAd (cj2 nL gx)) ?_;refine (λhE:Ext ⟨F,n,K,m⟩ ⟨λj=>if j=L then none else f2 j,n2,T2,m2'⟩=>aw.yield (vals:=[eA ⟨so,(st:Nat),x.1⟩]) ?_ ?_ ?_ (hY l _ _ (by have:=AL _ hv;simp only at this;omega) (hup l _ _ hI hE) hE.ok) λr h'' hq hn'' hm''=>?_) ?_
       ·simp only[go_sem,reduceIte,Nat.reduceEqDiff,Nat.reduceAdd,bx]
       ·simp only[go_sem,reduceIte,Nat.reduceEqDiff,Nat.reduceAdd,bx]
       ·simp only[go_sem,reduceIte,Nat.reduceEqDiff,Nat.reduceAdd,bx,List.map];exact aA.cons (ay.agg (aA.cons (ay.refl _) (aA.cons (ay.refl _) (aA.cons ay.cap aA.nil)))) aA.nil
       ·obtain ⟨rfl,q1,q2,q3,q4⟩:=hq;simp only[L3,Od] at q3;simp only[sL,Od] at q4;refine aw.evF (xAd @Oy) ?_;refine rf0 @Oy ?_;have e1:IntKind.i64.wrap ((j:Int)+1)=((j+1:Nat):Int):=by rw[IntWalk.i64_in _ ae];omega
        refine ⟨(j+1,l++[⟨so,(st:Nat),x.1⟩],x.2,h''),⟨hc,by simp only;rw[hnext,hb];rfl,G7 c4 _ hvr,q1,q2,by rw[q3];exact g32,by rw[q4,gsb];exact gs,?_,?_⟩,PB hc (OL _),?_⟩
        ·simp only at hn'' |-;omega
        ·simp only at hn'' |-;omega
        ·refine aM.of (aY ?_) (OLe.bZ _) (λx hx=>hx) (N4 _) (N4 _);exact cM e1
       ·refine ⟨λj h1 h2=>?_,gE.n,gE.m,gE.t,⟨λj hj=>?_,hO2.2⟩⟩
        ·have h1:j<n:=h1;simp only;rw[Ob ae];exact gE.o j h1 h2
        ·have hj:n2<=j:=hj;simp only;rw[Ob ae];exact hO2.1 j hj
     ·have hb:gK B a=none:=by
       rw[hvt];unfold nn;rw[Ob c4];rfl
      have hx:=iC B hB (a+1+k1+1) 4 c3 aq c4;rw[hl4] at hx;refine Wp.seq (Wp.nH ?_);refine aR.eval (bJ (xAd (cj6 gs hs3 s3 n3 hn3 ns))) ?_;refine aR.span xAb (by simp only[upd,n3,Od,Of]) (hx) (by simp only[gd,jh,eH,fQ,bN,bI,tmpsOf,List.filterMap_cons,List.filterMap_nil,P9,List.contains_nil,List.any_cons,List.any_nil,List.elem_cons,List.elem_nil,Option.toList_some,Option.toList_none,List.singleton_append,Ow,Nat.reduceBEq,Qe,PI,PT,Qg,P6,OM,Oy,OB,go_sem,reduceIte,Nat.reduceEqDiff,Nat.reduceAdd,bx,ax,Of,Od,Nat.reduceMul,Nat.reduceLeDiff,gs,hs3,s3,n3,ns];exact rfl) (by simp[aN,apart,aU,gs,hs3,s3,n3,ns] <;>omega) (fw rfl (by simp[aU])) ?_;exact λn7 m7 h1 h2=>by
       simp only at h1 h2;exact hpan (Ext.of hO (λj h1 h2=>by simp only[upd];(repeat rw[Ob ae])) (λj hj=>by simp only[upd];(repeat rw[Ob ae]);exact hO.1 j (by show n<=j;omega)) ae ae) hb
    ·have hb:gK B a=none:=by
      unfold gK;rw[y1];simp only[Option.bind_some];rw[y2];simp only[Option.bind_some];unfold nn;rw[Ob c3];rfl
     have hx:=iC B hB (a+1+k1) 1 c2 aq c3;rw[hl1] at hx;refine Wp.seq (Wp.nH ?_);refine aR.eval (bJ (xAd gs)) ?_;refine aR.cV xA2 xAb (g3) (hc1) λm1 hm1=>?_;refine aR.cV xA2 xAb (by simp only[upd,Of]) (hc2) λm2 hm2=>?_;simp only at hm1 hm2;refine aR.eval (bJ (xAd (cj3 gs hs3 s3))) ?_;simp only[fT];refine aR.span xAb (by simp only[upd,Of]) (hx) (by simp only[gd,jh,eH,fQ,bN,bI,tmpsOf,List.filterMap_cons,List.filterMap_nil,P9,List.contains_nil,List.any_cons,List.any_nil,List.elem_cons,List.elem_nil,Option.toList_some,Option.toList_none,List.singleton_append,Ow,Nat.reduceBEq,Qe,PI,PT,Qg,P6,OM,Oy,OB,go_sem,reduceIte,Nat.reduceEqDiff,Nat.reduceAdd,bx,ax,Of,Od,Nat.reduceMul,Nat.reduceLeDiff,gs,hs3,s3,n3,ns];exact rfl) (by simp[aN,apart,aU,gs,hs3,s3,n3,ns] <;>omega) (fw rfl (by simp[aU,hz])) ?_;exact λn4 m4 h1 h2=>hpan (hsrc _ h1 (by simp only at h2;omega)) hb
   ·have hb:gK B a=none:=by
     unfold gK tx;rw[y1];simp only[Option.bind_some];rw[Ob c2];rfl
    have hx:=pY B hB (a+1) k1 c1 ae c2;refine Wp.seq (Wp.nH ?_);refine aR.eval (bJ (xAd gs)) ?_;refine aR.cV xA2 xAb (g3) (hc1) λm1 hm1=>?_;simp only at hm1;refine aR.span xAb (by simp only[upd,Of]) (hx) (by simp only[gd,jh,eH,fQ,bN,bI,tmpsOf,List.filterMap_cons,List.filterMap_nil,P9,List.contains_nil,List.any_cons,List.any_nil,List.elem_cons,List.elem_nil,Option.toList_some,Option.toList_none,List.singleton_append,Ow,Nat.reduceBEq,Qe,PI,PT,Qg,P6,OM,Oy,OB,go_sem,reduceIte,Nat.reduceEqDiff,Nat.reduceAdd,bx,ax,Of,Od,Nat.reduceMul,Nat.reduceLeDiff,gs,hs3,s3,n3,ns];exact rfl) (by simp[aN,apart,aU,gs,hs3,s3,n3,ns] <;>omega) (fw rfl (by simp[aU,hz])) ?_;exact λn4 m4 h1 h2=>hpan (hsrc _ h1 (by simp only at h2;omega)) hb
  ·have hb:gK B a=none:=by
    unfold gK nn;rw[Ob c1];rfl
   have hx:=iC B hB a 1 ha aq c1;rw[hl1] at hx;refine Wp.seq (Wp.nH ?_);refine aR.eval (bJ (xAd gs)) ?_;refine aR.span xAb (g3) (hx) (by simp only[gd,jh,eH,fQ,bN,bI,tmpsOf,List.filterMap_cons,List.filterMap_nil,P9,List.contains_nil,List.any_cons,List.any_nil,List.elem_cons,List.elem_nil,Option.toList_some,Option.toList_none,List.singleton_append,Ow,Nat.reduceBEq,Qe,PI,PT,Qg,P6,OM,Oy,OB,go_sem,reduceIte,Nat.reduceEqDiff,Nat.reduceAdd,bx,ax,Of,Od,Nat.reduceMul,Nat.reduceLeDiff,gs,hs3,s3];exact rfl) (by simp[aN,apart,aU,gs,hs3,s3] <;>omega) (fw rfl (by simp[aU,hzn])) ?_;exact λn2 m2 h1 h2=>hpan (Ext.more hO h1 h2) hb
 ·have hjk:j=k:=by omega
  subst hjk;have ig:=fX j;refine Wp.aH (xAd ig) ?_;refine aw.nil ?_;refine Wp.seq ?_;refine Wp.cond_false (by simp only[go_sem,reduceIte,Nat.reduceEqDiff,Nat.reduceAdd,bx,ig]) ?_;refine Wp.exit ?_;show QB B a0 j Inv .normal _;unfold QB;rw[hv];exact ⟨rfl,hI,hO,g3⟩
theorem G9{B:List UInt8}{a:Nat}{x:Vs × Nat}(h:gu B a=some x):a+22<=x.2:=by
 unfold gu at h;obtain ⟨x1,p1,h⟩:=Oe.1 h;obtain ⟨x2,p2,h⟩:=Oe.1 h;obtain ⟨x3,p3,h⟩:=Oe.1 h;obtain ⟨x4,p4,h⟩:=Oe.1 h;split at h
 ·obtain ⟨x5,p5,h⟩:=Oe.1 h;obtain ⟨x6,p6,h⟩:=Oe.1 h;cases h;obtain ⟨-,e1,-⟩:=jq p1;obtain ⟨-,-,e2,-⟩:=lC p2;have e3:x3.2=x2.2+8:=by
   unfold nu at p3;split at p3
   ·cases p3;rfl
   ·cases p3
  obtain ⟨-,-,e4,-⟩:=lC p4;obtain ⟨-,e5,-⟩:=jq p5;obtain ⟨-,-,e6,-⟩:=lC p6;simp only;omega
 ·cases h
theorem Cb{B:List UInt8}{a0:Nat}:∀(j:Nat){x:List Vs × Nat},vr B a0 j=some x->a0+22*j<=x.2
 |0,x,h=>by
  simp only[vr,Om] at h;subst h;simp
 |j+1,x,h=>by
  simp only[vr] at h;obtain ⟨y,hy,h⟩:=Oe.1 h;obtain ⟨z,hz,rfl⟩:=Oc.1 h;have:=Cb j hy;have:=G9 hz;simp only;omega
theorem Ha{B:List UInt8}{a:Nat}{x:Bk × Nat}(h:gK B a=some x):22*x.1.l.length<=B.length/\x.2<=B.length:=by
 unfold gK at h;obtain ⟨x1,p1,h⟩:=Oe.1 h;obtain ⟨x2,p2,h⟩:=Oe.1 h;obtain ⟨x3,p3,h⟩:=Oe.1 h;obtain ⟨x4,p4,h⟩:=Oe.1 h;obtain ⟨x5,p5,h⟩:=Oe.1 h;cases h;obtain ⟨-,e4,b4⟩:=jq p4;have l5:=wv _ p5;have r5:=Cb _ p5;have q5:=G7 ae _ p5;simp only;rw[l5];omega
theorem wy{B:List UInt8}{a0:Nat}(ha:a0<=B.length):∀(j:Nat){x:List Bk × Nat},br B a0 j=some x->(∀b∈x.1,22*b.l.length<=B.length)/\x.2<=B.length
 |0,x,h=>by
  simp only[br,Om] at h;subst h;exact ⟨by simp,ha⟩
 |j+1,x,h=>by
  simp only[br] at h;obtain ⟨y,hy,h⟩:=Oe.1 h;obtain ⟨z,hz,rfl⟩:=Oc.1 h;obtain ⟨h1,-⟩:=wy ha j hy;obtain ⟨h2,h3⟩:=Ha hz;refine ⟨λb hb=>?_,h3⟩;rcases OS.1 hb with hb|hb
  ·exact h1 b hb
  ·simp only[Oj] at hb;subst hb;exact h2
abbrev o1A:Av.Obj:= .cells [.sl 3 [] (.exact 0)]
structure yy(B:List UInt8)(L:Nat)(lp:Av.Obj)(bs:List Bk)(h:H):Prop where
 o0:h.objs 0=some (.cells [.sl 1 (aD B) .any])
 o1:h.objs 1=some o1A
 o2:∃tk,h.objs 2=some (.cells [.sl 3 (bks bs) (.own tk)])/\tk∈h.toks
 o4:h.objs 4=some (.cells [.ptr 3 0])
 lp:h.objs L=some lp
 n:L<h.n
theorem yy.up{B:List UInt8}{L:Nat}{lp:Av.Obj}{bs:List Bk}{h h':H}(hL:4<L)(I:yy B L lp bs h)(E:Ext h h'):yy B L lp bs h':=by
 obtain ⟨tk,a,b⟩:=I.o2;have hn:=I.n;exact ⟨(E.o _ ae ae).trans I.o0,(E.o _ ae ae).trans I.o1,⟨tk,(E.o _ ae ae).trans a,E.t _ b⟩,(E.o _ ae ae).trans I.o4,(E.o _ hn ae).trans I.lp,OT hn E.n⟩
def Ny:AC:= .reg [⟨some 3,none,.alloc [.str [],.int .i64 0,.sl 8 [] (.exact 0)]⟩,⟨none,none,.store 3 (.t 3) (.t 13)⟩] none
def J6:AC:= .block 1 (.reg [⟨some 14,none,.faddr 0 (.t 1)⟩,⟨some 15,none,.load none (.t 14)⟩,⟨some 16,none,.load (some 3) (.t 3)⟩,⟨some 17,none,.buildSl 3 [(.t 16)]⟩,⟨some 18,none,.app false 3 48 (.t 15) (.t 17)⟩,⟨some 19,none,.faddr 0 (.t 1)⟩,⟨none,none,.store 1 (.t 19) (.t 18)⟩] none)
set_option maxHeartbeats 2000000 in
theorem Lf{B:List UInt8}{L:Nat}(hL:4<L){tt:Tm}{asg body:Code}(a1:cCode Tryz.prog 45 asg=some Ny)(a2:cCode Tryz.prog 45 body=some J6)(a3:fu asg=true)(a4:fu body=true)(t1:tt 1= .ptr 2 0){sb:Nat}(hsb:sb≠2)(hsL:sb≠L){k:Nat}(hkk:k<=4294967295)
  (l:List Bk) (v:Bk) (h:H) (hl:l.length<k) (I:yy B L (.loop 45 tt [13] asg body .ready none) l h) (hO:HOk h) (hsn:sb<h.n):
  kY Tryz.prog L [eA v] h λr h'=>r= .bool true/\yy B L (.loop 45 tt [13] asg body .ready none) (l++[v]) h'/\HOk h'/\h'.objs 3=h.objs 3/\h'.objs sb=h.objs sb:=by
 obtain ⟨G,n1,K1,m1⟩:=h;obtain ⟨tk,gx,gt⟩:=I.o2;have gl:=I.lp;have gn:=I.n;simp only at gx gt gl gn hsn;refine nJ (t:=tt) (ps:=[13]) gl a1 a2 a3 a4 rfl ah ?_;unfold Ny J6;have hvs:eA v= .agg [.str v.n,.int .i64 v.st,.sl 8 (vss v.l) .any]:=rfl;have nL:¬(L=n1):=by omega
 have nr:¬(2=n1):=by omega
 have rL:¬(2=L):=by omega
 have Lr:¬(L=2):=by omega
 have n1r:¬(n1=2):=by omega
 have n1L:¬(n1=L):=by omega
 have lv:=eK l;have e6:(l.length+1)*48<=140737488355328:=by omega
 have e7:l.length+1<4611686018427387904:=by omega
 rw[hvs];refine Wp.cA (by simp only[go_sem,reduceIte,Nat.reduceEqDiff,Nat.reduceAdd,bx,ax,Of,Od,Nat.reduceMul,Nat.reduceLeDiff,kh];exact rfl) ?_;refine aw.nil ?_;refine ⟨rfl,tt,by simp only[upd,nL,Od];exact gl,?_⟩;refine Wp.block ?_;refine Wp.cA (by simp only[go_sem,reduceIte,Nat.reduceEqDiff,Nat.reduceAdd,bx,ax,Of,Od,Nat.reduceMul,Nat.reduceLeDiff,kh,t1,gx,nL,nr,rL,Lr,n1r,n1L,lv,e6,e7,gt,List.length_cons,List.length_nil,Ol];exact rfl) ?_;refine aw.nil ?_;simp only[aO.inBlock];have hOk:∀(Z C X R:Option Av.Obj),HOk ⟨upd (upd (upd (upd (upd G n1 Z) n1 C) L X) 2 R) L (some (.loop 45 tt [13] asg body .ready none)),n1+1,m1::List.filter (λx=>decide ¬x=tk) K1,m1+1⟩:=λZ C X R=>by
  refine ⟨λj hj=>?_,λt ht=>?_⟩
  ·have hj:n1+1<=j:=hj;simp only[upd]
   (repeat rw[Ob ae])
   exact hO.1 j (by show n1<=j;omega)
  ·rcases OA.1 ht with rfl|ht
   ·exact OL _
   ·have:=hO.2 t (Pe.1 ht).1;simp only at this |-;omega
 refine ⟨tt,true,.ready,none,by simp only[upd,Lr,Od,Of],.normal,λ_ _=>⟨rfl,?_,?_,?_,?_⟩⟩
 ·refine ⟨?_,?_,⟨m1,?_,PL⟩,?_,by simp only[upd,Of],by simp only;omega⟩
  ·simp only[upd]
   (repeat rw[Ob ae])
   exact I.o0
  ·simp only[upd]
   (repeat rw[Ob ae])
   exact I.o1
  ·simp only[upd,rL,Od,Of];simp[bks,eA]
  ·simp only[upd]
   (repeat rw[Ob ae])
   exact I.o4
 ·exact hOk _ _ _ _
 ·simp only[upd]
  (repeat rw[Ob ae])
 ·simp only[upd]
  (repeat rw[Ob ae])
def QR(B:List UInt8):aO->St->Prop:=λe s'=>match dO B with
 |some m=>e= .normal/\(∃tk,s'.h.objs 2=some (.cells [.sl 3 (bks m) (.own tk)]))/\s'.h.objs 1=some o1A
 |none=>e= .panic v4/\s'.h.objs 1=some o1A
theorem mB{B:List UInt8}(h:dO B=none){s':St}(h1:s'.h.objs 1=some o1A):QR B (.panic v4) s':=by
 unfold QR;rw[h];exact ⟨rfl,h1⟩
set_option maxHeartbeats 8000000 in
theorem Jr(B:List UInt8)(hB:B.length<=10000000)(F:Nat->Option Av.Obj)(n:Nat)(K:List Nat)(m:Nat)(hn5:5<=n)(hO:HOk ⟨F,n,K,m⟩)(f0:F 0=some (.cells [.sl 1 (aD B) .any]))(f1:F 1=some o1A)(f2:F 2=some (.cells [.sl 3 [] (.exact 0)]))(f3:F 3=some (ef B 0))(f4:F 4=some (.cells [.ptr 3 0])):
  Wp Tryz.prog 45 c55 ⟨fH [.ptr 4 0,.ptr 2 0,.ptr 0 0],⟨F,n,K,m⟩⟩ (QR B):=by
 unfold c55;have hl4:((4:Nat):Int)=4:=rfl;have hl2:((2:Nat):Int)=2:=rfl;by_cases c0:4<=B.length
 case neg=>
  have hb:dO B=none:=by unfold dO tx;rw[Ob ae];rfl
  have hx:=pY B hB 0 4 (Ot _) aq ae;rw[hl4] at hx;refine Wp.seq (Wp.Dp (bu.eval (log:=[]) (bJ (xAd f4)) (bu.span xAb (f3) (hx))) ?_);exact mB hb f1
 have hc0:=pX B hB 0 4 ae;rw[hl4,Oo] at hc0;have y0:tx B 0 4=some ((B.drop 0).take 4,4):=by unfold tx;rw[Oi ae]
 generalize (B.drop 0).take 4=mk at*
 have hr0:dO B=if mk=[65,82,67,72] then (nn B 4 2).bind λx1=>(br B x1.2 x1.1).bind λx2=>(nn B x2.2 4).bind λx3=>if x3.1=jQ (B.take x2.2)/\x3.2=B.length then (if imE x2.1=0 then some x2.1 else none) else none else none:=by
  unfold dO;rw[y0];simp only[Option.bind_some]
 have n3:¬(3=n):=by omega
 have n4:¬(4=n):=by omega
 by_cases hmk:mk=[65,82,67,72]
 case neg=>
  have hb:dO B=none:=by rw[hr0,Ob hmk]
  have dm:decide (mk=[65,82,67,72])=false:=N6 hmk;obtain ⟨m1,hm1,hcx⟩:=hc0 n m;refine Wp.seq (Wp.Dp (bu.eval (log:=[]) (bJ (by simp only[go_sem,reduceIte,Nat.reduceEqDiff,Nat.reduceAdd,bx,ax,Of,Od,Nat.reduceMul,Nat.reduceLeDiff,f4];exact rfl)) (bu.cV xA2 xAb f3 hm1 hcx (bu.eval (log:=[]) (bJ (by simp only[go_sem,reduceIte,Nat.reduceEqDiff,Nat.reduceAdd,bx,ax,Of,Od,Nat.reduceMul,Nat.reduceLeDiff,dm];exact rfl)) (bu.E7 xAb eY)))) ?_);exact mB hb (by simp only[upd];rw[Ob aq];exact f1)
 have dm:decide (mk=[65,82,67,72])=true:=N9 hmk;rw[Oi hmk] at hr0;refine Wp.aH (xAd f4) ?_;refine aw.cV xA2 xAb (f3) (hc0) λm1 hm1=>?_;simp only at hm1;refine aw.evF (xAd dm) ?_;refine aw.bO xA2 xAb (gV) ?_;refine aw.nil ?_;have g3:upd F 3 (some (ef B 4)) 3=some (ef B 4):=by simp only[upd];rw[Oi trivial]
 by_cases c1:4+2<=B.length
 case neg=>
  have hb:dO B=none:=by rw[hr0];unfold nn;rw[Ob c1];rfl
  have hx:=iC B hB 4 2 c0 aq c1;rw[hl2] at hx;refine Wp.seq (Wp.seq (Wp.nH ?_));refine aR.eval (bJ (xAd f4)) ?_;refine aR.span xAb (g3) (hx) (by simp only[gd,jh,eH,fQ,bN,bI,tmpsOf,List.filterMap_cons,List.filterMap_nil,P9,List.contains_nil,List.any_cons,List.any_nil,List.elem_cons,List.elem_nil,Option.toList_some,Option.toList_none,List.singleton_append,Ow,Nat.reduceBEq,Qe,PI,PT,Qg,P6,OM,Oy,OB,go_sem,reduceIte,Nat.reduceEqDiff,Nat.reduceAdd,bx,ax,Of,Od,Nat.reduceMul,Nat.reduceLeDiff,f4];exact rfl) (by simp[aN,apart,aU,f4] <;>omega) (fw rfl (by simp[aU])) ?_;exact λn7 m7 h1 h2=>mB hb (by simp only[upd];rw[Ob aq];exact f1)
 have hc1:=jr B hB 4 2 aq c1;rw[hl2] at hc1;have y1:nn B 4 2=some (val ((B.drop 4).take 2),4+2):=by unfold nn;rw[Oi c1]
 have hk:val ((B.drop 4).take 2)<=4294967295:=AM (w:=2) (by rw[OV];omega) aq;rw[y1] at hr0;simp only[Option.bind_some] at hr0;generalize val ((B.drop 4).take 2)=k at*
 refine Wp.seq ?_;refine Wp.bq (xAd f4) ?_;refine az.cV xA2 xAb (g3) (hc1) λm2 hm2=>?_;simp only at hm2;refine az.jb xA2 xAb (Lc (k:Nat) _ _) (r7 _ _ _) ?_;refine az.nil ⟨by simp[bg,aN,apart,aU,n3,n4] <;>omega,?_⟩;simp only[fT];refine Wp.block ?_;refine Wp.le (aM.tok _ _) ?_;refine Wp.le (s':=⟨tm [(0,.ptr 4 0),(1,.ptr 2 0),(2,.ptr 0 0),(12,.clo (.func 105) [] [.ptr (n+1) 0,.ptr n 0])],⟨upd (upd (upd (upd F 3 (some (ef B (4+2)))) n (some (.cells [.ptr 3 0]))) (n+1) (some (.cells [.int .i64 (k:Nat)]))) 2 (some (.cells [.sl 3 [] (.own m2)])),n+2,m2::K,m2+1⟩⟩) (aM.of (aY ?_) ?_ (λx hx=>hx) (N4 _) (N4 _)) ?_
 ·exact xSb
 ·refine mR (cs:=[.sl 3 [] (.exact 0)]) ?_ (aA.cons (ay.dt rfl) aA.nil);simp only[upd]
  (repeat rw[Ob ae])
  exact f2
 obtain ⟨F1,hF1⟩:∃F1,F1=upd (upd (upd (upd F 3 (some (ef B (4+2)))) n (some (.cells [.ptr 3 0]))) (n+1) (some (.cells [.int .i64 (k:Nat)]))) 2 (some (.cells [.sl 3 [] (.own m2)])):=⟨_,rfl⟩;rw[<-hF1];have b3:F1 3=some (ef B (4+2)):=by rw[hF1];simp only[upd];rw[Ob ae,Ob ae,Ob ae,Oi trivial]
 have b2:F1 2=some (.cells [.sl 3 [] (.own m2)]):=by rw[hF1];simp only[upd];rw[Oi trivial]
 have bn:F1 n=some (.cells [.ptr 3 0]):=by rw[hF1];simp only[upd];rw[Ob ae,Ob ae,Oi trivial]
 have bk':F1 (n+1)=some (.cells [.int .i64 (k:Nat)]):=by rw[hF1];simp only[upd];rw[Ob ae,Oi trivial]
 have bo:∀j,j<n->j≠3->j≠2->F1 j=F j:=λj h1 h2 h3=>by rw[hF1];simp only[upd];(repeat rw[Ob ae])
 have bz:∀j,n+2<=j->F1 j=none:=λj hj=>by rw[hF1];simp only[upd];(repeat rw[Ob ae]);exact hO.1 j (by show n<=j;omega)
 clear hF1;have b0:F1 0=some (.cells [.sl 1 (aD B) .any]):=(bo 0 ae aq aq).trans f0;have b1:F1 1=some o1A:=(bo 1 ae aq aq).trans f1;have b4:F1 4=some (.cells [.ptr 3 0]):=(bo 4 ae aq aq).trans f4;generalize hL:n+2=L at*
 have hK:∀t∈m2::K,t<m2+1:=λt ht=>by
  rcases OA.1 ht with rfl|ht
  ·exact OL _
  ·have:t<m:=hO.2 t ht;omega
 generalize hT:tm [(0,AV.ptr 4 0),(1,.ptr 2 0),(2,.ptr 0 0),(12,.clo (.func 105) [] [.ptr (n+1) 0,.ptr n 0])]=tt at*
 have t1:tt 1= .ptr 2 0:=by rw[<-hT];rfl
 have t12:tt 12= .clo (.func 105) [] [.ptr (n+1) 0,.ptr n 0]:=by rw[<-hT];rfl
 have WV:=λ(asg body:Code) a1 a2 a3 a4=>Nx B hB L n (n+1) k hk (4+2) c1 (yy B L (.loop 45 tt [13] asg body .ready none))
  (λl h h' I E=>I.up ae E)
  (λl v h hl I ho=>Lf (sb:=n) ae a1 a2 a3 a4 t1 ae ae hk l v h hl I ho (by have:=I.n;omega))
  ⟨upd F1 L (some (.loop 45 tt [13] asg body .ready none)),L+1,m2::K,m2+1⟩
  ⟨by simp only[upd];rw[Ob ae];exact b0,by simp only[upd];rw[Ob ae];exact b1,⟨m2,by simp only[upd];rw[Ob ae];exact b2,PL⟩,by simp only[upd];rw[Ob ae];exact b4,by simp only[upd,Of],OL _⟩
  ⟨λj hj=>by
   have hj:L+1<=j:=hj;simp only[upd];rw[Ob ae];exact bz j ae,hK⟩
  (by simp only[upd];rw[Ob ae];exact b3) (by simp only[upd];rw[Ob ae];exact bn) (by simp only[upd];rw[Ob ae];exact bk') ae (by show n<L+1;omega) (by show 3<L+1;omega)
 cases hbr:br B (4+2) k with
 |none=>
  have hb:dO B=none:=by rw[hr0,hbr];rfl
  refine Wp.Bn (fi:=105) (first:=[]) (caps:=[.ptr (n+1) 0,.ptr n 0]) t12 (Tryz.func105) rfl (Ox (by kernel_rfl)) (bz L ae) λasg body a1 a2 a3 a4=>?_;have W:=WV asg body a1 a2 a3 a4;unfold QB at W;rw[hbr] at W;obtain ⟨v,h',cI,hnm,rfl,l2,hI2⟩:=aV.xd (Q:=λv h'=>v=v4/\∃l,yy B L (.loop 45 tt [13] asg body .ready none) l h') f105 ah (W.mono λe s' hq=>⟨_,hq.1,rfl,hq.2⟩);obtain ⟨f2',n2,T2,m2'⟩:=h';exact ⟨v4,f2',n2,T2,m2',cI,hnm.1,by have:=hnm.2;simp only at this;omega,mB hb hI2.o1⟩
 |some x=>
  obtain ⟨bs,a⟩:=x;obtain ⟨hfew,hapos⟩:=wy c1 _ hbr;simp only at hfew hapos;rw[hbr] at hr0;simp only[Option.bind_some] at hr0;refine Wp.E6 (fi:=105) (first:=[]) (caps:=[.ptr (n+1) 0,.ptr n 0]) t12 (Tryz.func105) rfl (Ox (by kernel_rfl)) (bz L ae) λasg body a1 a2 a3 a4=>?_;have W:=WV asg body a1 a2 a3 a4;unfold QB at W;rw[hbr] at W;refine (aV.iF (Q:=λ_ h'=>yy B L (.loop 45 tt [13] asg body .ready none) bs h'/\HOk h'/\h'.objs 3=some (ef B a)) f105 ah (W.mono λe s' hq=>⟨jm hq.1,_,rfl,hq.2⟩)).mono λr h' hq=>?_;obtain ⟨hI2,hO2,g32⟩:=hq;refine ⟨tt,.ready,none,.normal,hI2.lp,by simp,.none,?_⟩;obtain ⟨f2',n2,T2,m2'⟩:=h';obtain ⟨tk,i2,-⟩:=hI2.o2;have i0:=hI2.o0;have i1:=hI2.o1;have i4:=hI2.o4;simp only at i0 i1 i2 i4 g32;clear WV W hI2 hO2 bz bo b0 b1 b2 b3 b4 bn bk' f0 f1 f2 f3 f4 g3;rw[<-hT];show Wp Tryz.prog 45 _ _ _;simp only;have j0:(λj=>if j=L then none else f2' j) 0=some (.cells [.sl 1 (aD B) .any]):=by simp only;rw[Ob ae];exact i0
  have j1:(λj=>if j=L then none else f2' j) 1=some o1A:=by simp only;rw[Ob ae];exact i1
  have j2:(λj=>if j=L then none else f2' j) 2=some (.cells [.sl 3 (bks bs) (.own tk)]):=by simp only;rw[Ob ae];exact i2
  have j3:(λj=>if j=L then none else f2' j) 3=some (ef B a):=by simp only;rw[Ob ae];exact g32
  have j4:(λj=>if j=L then none else f2' j) 4=some (.cells [.ptr 3 0]):=by simp only;rw[Ob ae];exact i4
  generalize (λj=>if j=L then none else f2' j)=F2 at*
  clear hT t1 t12;have lb:=bm B;have p1:(0:Int)<=(a:Int):=by omega
  have p2:(a:Int)<=(B.length:Int):=by omega
  have tb:(aD B).take a=aD (B.take a):=by unfold aD;rw[List.map_take]
  have cs:=JU (B.take a) (by rw[OV];omega);have j3':F2 3=some (.cells [.sl 1 (aD B) .any,.int .i64 (a:Nat)]):=j3;generalize hsm:jQ (B.take a)=sm at*
  refine Wp.bq (xAd (cj9 j0 j4 j3' lb p1 p2 tb @N7 @ite_self.{1})) ?_;refine az.bO xA2 (by simp only[go_sem,reduceIte,Nat.reduceEqDiff,Nat.reduceAdd,bx,List.map];exact aA.cons ay.cap aA.nil) (cs) ?_;refine az.evR xA1 ?_;refine az.nil ⟨by simp[bg,aN,apart,aU],?_⟩;by_cases c4:a+4<=B.length
  case neg=>
   have hb:dO B=none:=by rw[hr0];unfold nn;rw[Ob c4];rfl
   have hx:=iC B hB a 4 hapos aq c4;rw[hl4] at hx;refine Wp.seq (Wp.nH ?_);refine aR.eval (bJ (xAd j4)) ?_;refine aR.span xAb (j3) (hx) (by simp only[gd,jh,eH,fQ,bN,bI,tmpsOf,List.filterMap_cons,List.filterMap_nil,P9,List.contains_nil,List.any_cons,List.any_nil,List.elem_cons,List.elem_nil,Option.toList_some,Option.toList_none,List.singleton_append,Ow,Nat.reduceBEq,Qe,PI,PT,Qg,P6,OM,Oy,OB,go_sem,reduceIte,Nat.reduceEqDiff,Nat.reduceAdd,bx,ax,Of,Od,Nat.reduceMul,Nat.reduceLeDiff,j4];exact rfl) (by simp[aN,apart,aU,j4] <;>omega) (fw rfl (by simp[aU])) ?_;exact λn7 m7 h1 h2=>mB hb j1
  have hc4:=jr B hB a 4 aq c4;rw[hl4] at hc4;have y4:nn B a 4=some (val ((B.drop a).take 4),a+4):=by unfold nn;rw[Oi c4]
  rw[y4] at hr0;simp only[Option.bind_some] at hr0;generalize val ((B.drop a).take 4)=k4 at*
  have q1:upd F2 3 (some (ef B (a+4))) 1=some o1A:=by simp only[upd];rw[Ob aq];exact j1
  have q2:upd F2 3 (some (ef B (a+4))) 2=some (.cells [.sl 3 (bks bs) (.own tk)]):=by simp only[upd];rw[Ob aq];exact j2
  by_cases hs:k4=sm
  case neg=>
   have hb:dO B=none:=by rw[hr0,Ob (λh=>hs h.1)]
   have ds:decide (((k4:Nat):Int)=((sm:Nat):Int))=false:=N6 ae;refine Wp.seq (Wp.nH ?_);refine aR.eval (bJ (xAd j4)) ?_;refine aR.cV xA2 xAb (j3) (hc4) λm5 hm5=>?_;refine aR.eval (bJ (xAd ds)) ?_;refine aR.E7 xAb eY rfl (by simp[aN,apart,aU]) (fw rfl (by simp[aU])) ?_;exact λn7 m7 h1 h2=>mB hb q1
  have ds:decide (((k4:Nat):Int)=((sm:Nat):Int))=true:=N9 ae;by_cases hlen:a+4=B.length
  case neg=>
   have hb:dO B=none:=by rw[hr0,Ob (λh=>hlen h.2)]
   have dl:decide (((a+4:Nat):Int)=((B.length:Nat):Int))=false:=N6 ae;refine Wp.seq (Wp.nH ?_);refine aR.eval (bJ (xAd j4)) ?_;refine aR.cV xA2 xAb (j3) (hc4) λm5 hm5=>?_;refine aR.eval (bJ (xAd (cj6 ds j4 j0 @ef.eq_1 lb dl))) ?_;refine aR.E7 xAb eY rfl (by simp[aN,apart,aU]) (fw rfl (by simp[aU])) ?_;exact λn7 m7 h1 h2=>mB hb q1
  have dl:decide (((a+4:Nat):Int)=((B.length:Nat):Int))=true:=N9 ae;rw[Oi ⟨hs,hlen⟩] at hr0;refine Wp.bq (xAd j4) ?_;refine az.cV xA2 xAb (j3) (hc4) λm5 hm5=>?_;refine az.evR (xAe (cj6 ds j4 j0 @ef.eq_1 lb dl)) ?_;refine az.bO xA2 xAb (gV) ?_;refine az.evR xA1 ?_;refine az.nil ⟨by simp[bg,aN,apart,aU],?_⟩;have hF:Few bs:=λb hb=>by have:=hfew b hb;omega
  have cc:=vL bs hF;have hen:cC bs= .agg [.sl 3 (bks bs) .any]:=rfl;rw[hen] at cc;by_cases hE:imE bs=0
  case neg=>
   have hb:dO B=none:=by rw[hr0,Ob hE]
   have dE:decide (imE bs=0)=false:=N6 hE;refine Wp.Dp (bu.eval (log:=[]) (bJ (by simp only[go_sem,reduceIte,Nat.reduceEqDiff,Nat.reduceAdd,bx,ax,Of,Od,Nat.reduceMul,Nat.reduceLeDiff,j2];exact rfl)) (bu.step (x:= .int .i64 (imE bs)) (λops i o ho hit=>mU.oF (N:=45) (full:=false) (.inl (bF _)) (eG ho hit xA2 rfl (by simp only[go_sem,reduceIte,Nat.reduceEqDiff,Nat.reduceAdd,bx,List.map];exact aA.cons (ay.agg (aA.cons ay.cap aA.nil)) aA.nil) (cc _ _))) (bu.eval (log:=[]) (bJ (by simp only[go_sem,reduceIte,Nat.reduceEqDiff,Nat.reduceAdd,bx,ax,Of,Od,Nat.reduceMul,Nat.reduceLeDiff,dE];exact rfl)) (bu.E7 xAb eY)))) ?_;exact mB hb q1
  have dE:decide (imE bs=0)=true:=N9 hE;rw[Oi hE] at hr0;refine Wp.cA (xAd j2) ?_;refine aw.bO xA2 (by simp only[go_sem,reduceIte,Nat.reduceEqDiff,Nat.reduceAdd,bx,List.map];exact aA.cons (ay.agg (aA.cons ay.cap aA.nil)) aA.nil) (cc) ?_;refine aw.evF (xAd dE) ?_;refine aw.bO xA2 xAb (gV) ?_;refine aw.nil ?_;show QR B .normal _;unfold QR;rw[hr0];exact ⟨rfl,⟨tk,q2⟩,q1⟩
def h55(B:List UInt8):H:=⟨upd (upd (upd (upd (upd aB 0 (some (.cells [.sl 1 (aD B) .any]))) 1 (some o1A)) 2 (some (.cells [.sl 3 [] (.exact 0)]))) 3 (some (ef B 0))) 4 (some (.cells [.ptr 3 0])),5,[],0⟩
def nv(B:List UInt8):AV:=match dO B with
 |some m=> .tup [cC m,.int .i64 0]
 |none=>qC
theorem Nz(B:List UInt8)(hB:B.length<=10000000):
  ∃h',bB Tryz.prog 54 [.clo (.func 55) [] [.ptr 4 0,.ptr 2 0,.ptr 0 0]] (h55 B) (.int .i64 (match dO B with|some _=>0|none=>4)) h'/\((h55 B).n<=h'.n/\(h55 B).m<=h'.m)/\h'.objs 1=some o1A/\
   (∀m,dO B=some m->∃tk,h'.objs 2=some (.cells [.sl 3 (bks m) (.own tk)])):=by
 have W:=Jr B hB (h55 B).objs 5 [] 0 (N4 _) ⟨λj hj=>by
  have hj:5<=j:=hj;simp only[h55,upd,aB]
  (repeat rw[Ob ae]),λt ht=>by cases ht⟩ rfl rfl rfl rfl rfl
 unfold QR at W;cases ho:dO B with
 |some m=>
  rw[ho] at W;simp only at W;obtain ⟨r,h',a,b,c,d⟩:=aV.vn (Q:=λ_ h'=>(∃tk,h'.objs 2=some (.cells [.sl 3 (bks m) (.own tk)]))/\h'.objs 1=some o1A) f55 ah (W.mono λe s' hq=>⟨jm hq.1,_,rfl,hq.2⟩);exact ⟨h',GL rfl rfl aq a,b,d,λm' hm=>by cases hm;exact c⟩
 |none=>
  rw[ho] at W;simp only at W;obtain ⟨v,h',a,b,rfl,c⟩:=aV.xd (Q:=λv h'=>v=v4/\h'.objs 1=some o1A) f55 ah (W.mono λe s' hq=>⟨_,hq.1,rfl,hq.2⟩);exact ⟨h',B5 rfl rfl aq a,b,c,λm h=>by cases h⟩
theorem Js(B:List UInt8)(hB:B.length<=10000000):aI Tryz.prog 18 [.sl 1 (aD B) .any] (nv B):=by
 have hpure:aW (nv B)=true:=by
  unfold nv;split
  ·simp[aW,aJ,bA,cC,Av.bG (λb=>fW b),bks]
  ·rfl
 have hin:aJ [AV.sl 1 (aD B) .any]=true:=by simp[aJ,aW,bA,nG]
 refine f18.vi ah hin hpure ?_;unfold c18 zz;obtain ⟨h',cI,hnm,f1,fok⟩:=Nz B hB;refine Wp.aH xAc ?_;refine aw.nil ?_;refine Wp.aH xAc ?_;refine aw.nil ?_;refine Wp.aH xAc ?_;refine aw.nil ?_;refine Wp.le (s':=⟨tm [(1,.ptr 0 0),(2,.ptr 1 0),(4,.ptr 2 0),(5,.ptr 4 0)],h55 B⟩) (aM.of (aY ?_) (by rw[fT];exact OLe.bZ _) (λx hx=>hx) (N4 _) (N4 _)) ?_
 ·exact xSb
 refine Wp.aH xAc ?_;refine aw.jb xA2 xAb hnm (cI) ?_;unfold nv;cases ho:dO B with
 |none=>
  rw[ho] at fok;simp only;refine aw.evF xAc ?_;refine aw.nil ?_;refine rf0 f1 ?_;refine Wp.ret ⟨trivial,_,rfl,.inl ?_⟩;exact ay.tup (aA.cons (ay.agg (aA.cons ay.cap aA.nil)) (aA.cons (ay.refl _) aA.nil))
 |some m=>
  obtain ⟨tk,f2⟩:=fok m ho;simp only;refine aw.evF xAc ?_;refine aw.nil ?_;refine rf0 (cj2 f1 f2) ?_;refine Wp.ret ⟨trivial,_,rfl,.inl ?_⟩;exact ay.tup (aA.cons (ay.agg (aA.cons ay.cap aA.nil)) (aA.cons (ay.refl _) aA.nil))
def tF:List Bk:=[⟨[97,98,99],0,[]⟩]
def pZ:List UInt8:=[2,98,0,1,2,97,98,99,0,1]
theorem Jt:imB tF=true:=by decide+kernel
theorem Cc:imB []=true:=by decide+kernel
theorem Ju:aP (aZ tF)=[⟨pZ,[48]⟩]:=by kernel_rfl
theorem Jv:gM []=[65,82,67,72,0,0,72,255,240,159]:=by kernel_rfl
theorem NA:aI Tryz.prog 35 [] (cC tF):=by
 refine f35.aF ah (by simp[aJ]) (by simp[dR]) ?_;unfold c35 zz;refine rn0 Qw ?_;refine aG ?_;exact ay.agg (aA.cons (ay.sl ⟨ay.agg (aA.cons (ay.refl _) (aA.cons (ay.refl _) (aA.cons ay.cap aA.nil))),trivial⟩) aA.nil)
theorem Jw:Few tF:=λb hb=>by simp[tF] at hb;subst hb;simp
theorem uR:aI Tryz.prog 13 [cC tF] (.tup [.sl 2 (prs [⟨pZ,[48]⟩]) .any,.int .i64 0]):=by
 have h:=te tF Jw (λ_=>by decide+kernel);unfold imE at h;rw[Jt,Oi rfl,Oi rfl,Ju] at h;exact h
theorem Ef:aI Tryz.prog 13 [.agg [.sl 3 [] .any]] (.tup [.sl 2 [] .any,.int .i64 0]):=by
 have h:=te [] (λb hb=>by cases hb) (λ_=>by decide+kernel);unfold imE at h;rw[Cc,Oi rfl,Oi rfl] at h;exact h
theorem Eg:aI Tryz.prog 11 [.agg [.sl 3 [] .any]] (.tup [.sl 1 (aD [65,82,67,72,0,0,72,255,240,159]) .any,.int .i64 0]):=by
 have h:=It [] (λb hb=>by cases hb) ah;unfold imE at h;rw[Cc,Oi rfl,Jv] at h;exact h
theorem AN:aI Tryz.prog 23 [.agg [.sl 3 [] .any],cC tF] (.tup [.sl 3 (chs [⟨pZ,[48],false⟩]) .any,.int .i64 0]):=by
 refine f23.aF ah (by simp[aJ,aW,bA,dR]) rfl ?_;unfold c23 zz;have c1:=uR;have c2:=Fx [] [⟨pZ,[48]⟩] ah ah;have e:gf [] [⟨pZ,[48]⟩]=[⟨pZ,[48],false⟩]:=by kernel_rfl
 rw[e] at c2;have hn:prs []=[]:=rfl;rw[hn] at c2;unfold cC at*
 generalize bks tF=b at*
 generalize prs [⟨pZ,[48]⟩]=x at*
 generalize chs [⟨pZ,[48],false⟩]=y at*
 refine rn3 Qw Ef c1 c2 ?_;refine aG ?_;exact ay.refl _
set_option maxHeartbeats 4000000 in
theorem p7:aI Tryz.prog 10 [] (.bool true):=by
 refine f10.aF ah (by simp[aJ]) rfl ?_;unfold c10 zz;try dsimp only
 have hsub:ay (.agg [.sl 3 [] (.exact 0)]) (.agg [.sl 3 [] .any]):=ay.agg (aA.cons ay.cap aA.nil);have c3:=NA;have c4:=uR;have c5:=AN;have hp:prs [⟨pZ,[48]⟩]=[.agg [.str pZ,.str [48]]]:=rfl;have hc:chs [⟨pZ,[48],false⟩]=[.agg [.str pZ,.str [48],.bool false]]:=rfl;rw[hp] at c4;rw[hc] at c5;generalize cC tF=b at*
 generalize pZ=k at*
 have c2:=Eg;have lO:(aD [65,82,67,72,0,0,72,255,240,159]).length=10:=rfl;have tO:(aD [65,82,67,72,0,0,72,255,240,159]).take 6=aD [65,82,67,72,0,0]:=rfl;generalize aD [65,82,67,72,0,0,72,255,240,159]=O at*
 have d10:decide (((10:Nat):Int)=10)=true:=rfl;have d1:decide (((1:Nat):Int)=1)=true:=rfl;have le6:(6:Int)<=((10:Nat):Int):=by decide
 have n6:(6:Int).toNat=6:=rfl;refine rn4 Qw c2 c3 c4 c5 ?_;refine Wp.reg ?_;refine az.part 5 (xAe (cj2 lO d10)) ?_;simp only[Pd,Pw,Qf];refine az.part 1 (by simp only[go_sem,reduceIte,Nat.reduceEqDiff,Nat.reduceAdd,bx,lO,tO,le6,n6,Int.reduceLE,Ol,Pw];exact rfl) ?_;simp only[Pd,Pw,Qf];refine az.part 1 (xAe (cj2 @bR @Oz.{0,0})) ?_;simp only[Pd,Pw,Qf];refine az.part 2 (xAe (cj2 @PJ.{0} @OE)) ?_;simp only[Pd,Pw,Qf];refine az.part 6 (by simp only[go_sem,reduceIte,Nat.reduceEqDiff,Nat.reduceAdd,bx,d10,d1,PJ,OE,List.length_cons,List.length_nil,Oo,OP,Int.toNat_zero,Int.reduceLT,Int.reduceLE,Ol];exact rfl) ?_;simp only[Pd,Pw,Qf];refine az.part 6 (by simp only[go_sem,reduceIte,Nat.reduceEqDiff,Nat.reduceAdd,bx,d10,d1,PJ,OE,List.length_cons,List.length_nil,Oo,OP,Int.toNat_zero,Int.reduceLT,Int.reduceLE,Ol];exact rfl) ?_;simp only[Pd,Pw,Qf];refine az.part 6 (by simp only[go_sem,reduceIte,Nat.reduceEqDiff,Nat.reduceAdd,bx,d10,d1,PJ,OE,List.length_cons,List.length_nil,Oo,OP,Int.toNat_zero,Int.reduceLT,Int.reduceLE,Ol];exact rfl) ?_;simp only[Pd,Pw,Qf];refine az.part 6 (by simp only[go_sem,reduceIte,Nat.reduceEqDiff,Nat.reduceAdd,bx,d10,d1,PJ,OE,List.length_cons,List.length_nil,Oo,OP,Int.toNat_zero,Int.reduceLT,Int.reduceLE,Ol];exact rfl) ?_;simp only[Pd,Pw,Qf];refine az.part 4 (by simp only[go_sem,reduceIte,Nat.reduceEqDiff,Nat.reduceAdd,bx,d10,d1,PJ,OE,List.length_cons,List.length_nil,Oo,OP,Int.toNat_zero,Int.reduceLT,Int.reduceLE,Ol];exact rfl) ?_;simp only[Pd,Pw,Qf];refine az.part 4 (by simp only[go_sem,reduceIte,Nat.reduceEqDiff,Nat.reduceAdd,bx,d10,d1,PJ,OE,List.length_cons,List.length_nil,Oo,OP,Int.toNat_zero,Int.reduceLT,Int.reduceLE,Ol];exact rfl) ?_;simp only[Pd,Pw,Qf];refine az.part 4 (by simp only[go_sem,reduceIte,Nat.reduceEqDiff,Nat.reduceAdd,bx,d10,d1,PJ,OE,List.length_cons,List.length_nil,Oo,OP,Int.toNat_zero,Int.reduceLT,Int.reduceLE,Ol];exact rfl) ?_;simp only[Pd,Pw,Qf];refine az.part 5 (xAe (cj2 @PJ.{0} @OE)) ?_;simp only[Pd,Pw,Qf];refine az.nil ⟨by simp[bg,aN,apart,aU],?_⟩;exact Wp.ret ⟨trivial,_,rfl,ay.refl _⟩
def NB(m:List Bk):Nat:=(m.map λb=>b.l.length).sum
theorem Lg{l:List Nat}{x:Nat}(h:x∈l):x<=l.sum:=by
 induction l with
 |nil=>cases h
 |cons a l ih=>
  simp only[List.sum_cons];rcases OA.1 h with rfl|h
  ·omega
  ·have:=ih h;omega
theorem Hb{L:List Pr}(h:gN L=true):imB (mY L)=true/\aP (aZ (mY L))=L/\(mY L).length+NB (mY L)<=L.length:=by
 unfold gN at h;unfold mY;have hc:=λS=>pW L L.length (S:=S);cases hr:kG L L.length with
 |none=>rw[hr] at h;cases h
 |some S=>
  rw[hr] at h;simp only[Oh,Ov] at h;obtain ⟨-,h1,h2⟩:=h;have hi:imB S.1=true:=by
   unfold imE at h1;split at h1
   ·assumption
   ·cases h1
  rw[Oi hi] at h2;exact ⟨hi,h2,hc S hr⟩
theorem Hc{B:List UInt8}{m:List Bk}(hB:B.length<=10000000)(h:dO B=some m):Few m:=by
 unfold dO at h;obtain ⟨x0,p0,h⟩:=Oe.1 h;split at h
 ·obtain ⟨x1,p1,h⟩:=Oe.1 h;obtain ⟨x2,p2,h⟩:=Oe.1 h;obtain ⟨x3,p3,h⟩:=Oe.1 h;split at h
  ·split at h
   ·cases h;obtain ⟨-,e,hl⟩:=jq p1;have:=(wy ae _ p2).1;exact λb hb=>by have:=this b hb;omega
   ·cases h
  ·cases h
 ·cases h
theorem laid:laidOutB Tryz.prog=true:=by kernel_rfl
theorem NC:mapsRowed Tryz.prog=true:=by kernel_rfl
theorem full:∀t e,t<Tryz.prog.types.size->Tryz.prog.underlying t=some (.slice e)->0<Tryz.prog.cellsOf e:=slices_full_of Tryz.prog (by kernel_rfl)
theorem own:ownKnob Tryz.prog.godebug=none:=by kernel_rfl
theorem N1{H:Type}:se (H:=H) Rows.uptoBulk Rows.uptoBulkAll:=
 ⟨λl=>by simp[Rows.uptoBulk],λk n=>by simp[Rows.uptoBulk],λb=>by simp[Rows.uptoBulk],by simp[Rows.uptoBulk],λa b=>by simp[Rows.uptoBulk],λa=>by simp[Rows.uptoBulk],by simp[Rows.uptoBulkAll],λd l=>by simp[Rows.uptoBulkAll]⟩
theorem He{α:Type}{t:TypeId}{k:Nat}{enc:α->AV}{Q:α->Prop}(h1:∀cs,Fits Tryz.prog k t cs->∃x,fJ Tryz.prog t cs=enc x/\Q x):∀{ys:List AV},(∀y∈ys,∃cs,Fits Tryz.prog k t cs/\y=fJ Tryz.prog t cs)->∃l:List α,ys=l.map enc/\∀x∈l,Q x
 |[],_=>⟨[],rfl,by simp⟩
 |y::ys,h=>by
  obtain ⟨l,rfl,hl⟩:=He h1 (ys:=ys) (λz hz=>h z (by simp[hz]));obtain ⟨cs,g1,g2⟩:=h y ah;obtain ⟨x,e,q⟩:=h1 cs g1;refine ⟨x::l,by simp[g2,e],λz hz=>?_⟩;rcases OA.1 hz with rfl|hz
  ·exact q
  ·exact hl z hz
def N2(v:Vs):Prop:=v.o.length<=reachBytes/\v.b.length<=reachBytes/\v.id<9223372036854775808
structure J8(b:Bk):Prop where
 n:b.n.length<=reachBytes
 l:b.l.length<=35184372088832
 v:∀v∈b.l,N2 v
def ND(p:Pr):Prop:=p.k.length<=reachBytes/\p.v.length<=reachBytes
theorem Eh{k:Nat}{cs:List AV}(h:Fits Tryz.prog (k+2) 50 cs):∃p:Pr,fJ Tryz.prog 50 cs=fh p/\ND p:=by
 have hw:∀cs,fJ Tryz.prog 50 cs= .agg cs:=λcs=>by
  unfold fJ;rw[Oi (by kernel_rfl)]
 rw[hw];unfold Fits at h;rw[Tryz.underlying50] at h;obtain ⟨xss,rfl,h⟩:=h;cases h with|cons h0 h=>cases h with|cons h1 h=>
 cases h;unfold Fits at h0 h1;simp only at h0 h1;rw[Tryz.underlying9] at h0 h1;obtain ⟨s,rfl,hs⟩:=h0;obtain ⟨v,rfl,hv⟩:=h1;exact ⟨⟨s,v⟩,rfl,hs,hv⟩
theorem Hf{a:AV}(h:oI Tryz.prog 9 33 a):∃l:List Pr,a= .sl 2 (prs l) .any/\∀p∈l,ND p:=by
 obtain ⟨cs,h,rfl⟩:=h;unfold Fits at h;rw[Tryz.underlying33] at h;obtain ⟨ys,rfl,hl,he⟩:=h;obtain ⟨l,rfl,hq⟩:=He (λcs h=>Eh h) he;have c1:Tryz.prog.cellsOf 50=2:=by kernel_rfl
 refine ⟨l,?_,hq⟩;rw[c1];unfold fJ;rw[Ob (by rw[show bQ Tryz.prog 33=false by kernel_rfl];simp)];rfl
theorem Cd{k:Nat}{t:TypeId}(ht:Tryz.prog.underlying t=some (.int .u8))(ha:bQ Tryz.prog t=false):∀{ys:List AV},(∀y∈ys,∃cs,Fits Tryz.prog (k+1) t cs/\y=fJ Tryz.prog t cs)->∃l:List UInt8,ys=aD l
 |[],_=>⟨[],rfl⟩
 |y::ys,h=>by
  obtain ⟨l,rfl⟩:=Cd ht ha (ys:=ys) (λz hz=>h z (by simp[hz]));obtain ⟨cs,h1,h2⟩:=h y ah;unfold Fits at h1;rw[ht] at h1;obtain ⟨s,rfl,hs⟩:=h1;have hb:0<=s/\s<=255:=by simpa [Lit.wf,IntKind.min,IntKind.max,IntKind.signed,IntKind.bits] using hs
  refine ⟨UInt8.ofNat s.toNat::l,?_⟩;simp only[aD,OJ,h2,fJ,ha,Oq,Od,List.headD_cons,byte];congr 2;have:(UInt8.ofNat s.toNat).toNat=s.toNat:=by simp[UInt8.toNat_ofNat];omega
  rw[this];omega
theorem AO{a:AV}(h:oI Tryz.prog 9 27 a):∃l,a= .sl 1 (aD l) .any/\l.length<=reachBytes:=by
 obtain ⟨cs,h,rfl⟩:=h;unfold Fits at h;rw[Tryz.underlying27] at h;obtain ⟨ys,rfl,hl,he⟩:=h;obtain ⟨l,rfl⟩:=Cd Tryz.underlying5 (by kernel_rfl) he;have b1:Tryz.prog.bytesOf 5=1:=by kernel_rfl
 have c1:Tryz.prog.cellsOf 5=1:=by kernel_rfl
 rw[b1,bm,O4] at hl;refine ⟨l,?_,hl⟩;rw[c1];unfold fJ;rw[Ob (by rw[show bQ Tryz.prog 27=false by kernel_rfl];simp)];rfl
def iG(B:List UInt8)(a:Nat)(ok:Bool):Av.Obj:= .cells [.str B,.int .i64 (a:Nat),.bool ok]
def okD(B:List UInt8)(a:Nat)(ok:Bool)(k:Nat):Bool:=ok&&decide (a+k<=B.length)
def atD(B:List UInt8)(a:Nat)(ok:Bool)(k:Nat):Nat:=if okD B a ok k=true then a+k else a
def txD(B:List UInt8)(a:Nat)(ok:Bool)(k:Nat):List UInt8:=if okD B a ok k=true then (B.drop a).take k else []
def nuD(B:List UInt8)(a:Nat)(ok:Bool)(k:Nat):Int:=if okD B a ok k=true then i64 ((B.drop a).take k) else 0
set_option maxHeartbeats 1000000 in
theorem pa(B:List UInt8)(hB:B.length<=10000000)(a k:Nat)(ok:Bool)(ha:a<=B.length)(hk:k<=1000000000000):mf Tryz.prog 60 [.ptr 1 0,.int .i64 (k:Nat)] 1 (iG B a ok) (.str (txD B a ok k)) (iG B (atD B a ok k) (okD B a ok k)):=by
 intro n m;refine ⟨m,N4 _,aV.kX f60 ah ?_⟩;unfold c60 iG zz;have g1:IntKind.i64.wrap (((B.length:Nat):Int) - (a:Int))=((B.length - a:Nat):Int):=by rw[IntWalk.i64_in _ ae];omega
 have e1:IntKind.i64.wrap ((a:Int)+(k:Int))=((a+k:Nat):Int):=by rw[IntWalk.i64_in _ ae];omega
 have e2:IntKind.i64.wrap (((a+k:Nat):Int) - (k:Int))=(a:Int):=by rw[IntWalk.i64_in _ ae];omega
 by_cases h:ok=true/\a+k<=B.length
 ·obtain ⟨rfl,h⟩:=h;have hok:okD B a true k=true:=by unfold okD;simp[h]
  have ht:txD B a true k=(B.drop a).take k:=by unfold txD;rw[Oi hok]
  have hat:atD B a true k=a+k:=by unfold atD;rw[Oi hok]
  rw[hok,ht,hat];have g2:decide (((B.length - a:Nat):Int)<(k:Int))=false:=N6 ae;have p1:(0:Int)<=(a:Int):=by omega
  have p2:(a:Int)<=((a+k:Nat):Int):=by omega
  have p3:(0:Int)<=((a+k:Nat):Int):=by omega
  have p4:((a+k:Nat):Int)<=(B.length:Int):=by omega
  have cb:(B.take (a+k)).drop a=(B.drop a).take k:=by rw[List.drop_take,show a+k - a=k by omega]
  refine Wp.aH xAc ?_;refine aw.nil ?_;refine Wp.seq ?_;refine Wp.bq (xAd (cj4 g1 g2 @Oy @OB)) ?_;refine az.nil ⟨by simp[bg,aN,apart,aU],?_⟩;refine Wp.cond_false (by simp only[go_sem,reduceIte,Nat.reduceEqDiff,Nat.reduceAdd,bx,g2]) ?_;refine Wp.skip ?_;refine Wp.aH (xAd e1) ?_;refine aw.nil ?_;refine Wp.bq (xAd (cj9 e1 e2 p1 p2 p3 p4 cb @N7 @O2)) ?_;refine az.nil ⟨by simp[bg,aN,apart,aU],?_⟩;refine Wp.ret ⟨trivial,_,rfl,ay.refl _,?_⟩;exact jo 1 _ _ n m
 ·have hok:okD B a ok k=false:=by
   unfold okD;cases ok
   ·rfl
   ·rw[OM];exact N6 λh2=>h ⟨rfl,h2⟩
  have ht:txD B a ok k=[]:=by unfold txD;rw[Ob (by rw[hok];simp)]
  have hat:atD B a ok k=a:=by unfold atD;rw[Ob (by rw[hok];simp)]
  rw[hok,ht,hat];cases ok with
  |false=>
   refine Wp.aH xAc ?_;refine aw.nil ?_;refine Wp.seq ?_;refine Wp.bq (xAd (cj2 @Oy @OB)) ?_;refine az.nil ⟨by simp[bg,aN,apart,aU],?_⟩;refine Wp.cond_true (by simp only[go_sem,reduceIte,Nat.reduceEqDiff,Nat.reduceAdd,bx,OB]) ?_;refine Wp.aH xAc ?_;refine aw.nil ?_;refine Wp.aH xAc ?_;refine aw.nil ?_;refine Wp.ret ⟨trivial,_,rfl,ay.refl _,?_⟩;exact jo 1 _ _ n m
  |true=>
   have g2:decide (((B.length - a:Nat):Int)<(k:Int))=true:=N9 (by have h3:¬a+k<=B.length:=λh2=>h ⟨rfl,h2⟩;omega);refine Wp.aH xAc ?_;refine aw.nil ?_;refine Wp.seq ?_;refine Wp.bq (xAd (cj4 g1 g2 @Oy @OB)) ?_;refine az.nil ⟨by simp[bg,aN,apart,aU],?_⟩;refine Wp.cond_true (by simp only[go_sem,reduceIte,Nat.reduceEqDiff,Nat.reduceAdd,bx,g2]) ?_;refine Wp.aH xAc ?_;refine aw.nil ?_;refine Wp.aH xAc ?_;refine aw.nil ?_;refine Wp.ret ⟨trivial,_,rfl,ay.refl _,?_⟩;exact jo 1 _ _ n m
set_option maxHeartbeats 1000000 in
theorem nX(B:List UInt8)(hB:B.length<=10000000)(a k:Nat)(ok:Bool)(ha:a<=B.length)(hk:k<=8):mf Tryz.prog 61 [.ptr 1 0,.int .i64 (k:Nat)] 1 (iG B a ok) (.int .i64 (nuD B a ok k)) (iG B (atD B a ok k) (okD B a ok k)):=by
 intro n m;refine ⟨m,N4 _,aV.kX f61 ah ?_⟩;unfold c61 iG zz;have g1:IntKind.i64.wrap (((B.length:Nat):Int) - (a:Int))=((B.length - a:Nat):Int):=by rw[IntWalk.i64_in _ ae];omega
 have e1:IntKind.i64.wrap ((a:Int)+(k:Int))=((a+k:Nat):Int):=by rw[IntWalk.i64_in _ ae];omega
 have e2:IntKind.i64.wrap (((a+k:Nat):Int) - (k:Int))=(a:Int):=by rw[IntWalk.i64_in _ ae];omega
 by_cases h:ok=true/\a+k<=B.length
 ·obtain ⟨rfl,h⟩:=h;have hok:okD B a true k=true:=by unfold okD;simp[h]
  have ht:nuD B a true k=i64 ((B.drop a).take k):=by unfold nuD;rw[Oi hok]
  have hat:atD B a true k=a+k:=by unfold atD;rw[Oi hok]
  rw[hok,ht,hat];have g2:decide (((B.length - a:Nat):Int)<(k:Int))=false:=N6 ae;have c1:=iU B a k ae h hk;refine Wp.aH xAc ?_;refine aw.nil ?_;refine Wp.seq ?_;refine Wp.bq (xAd (cj4 g1 g2 @Oy @OB)) ?_;refine az.nil ⟨by simp[bg,aN,apart,aU],?_⟩;refine Wp.cond_false (by simp only[go_sem,reduceIte,Nat.reduceEqDiff,Nat.reduceAdd,bx,g2]) ?_;refine Wp.skip ?_;refine Wp.aH (xAd e1) ?_;refine aw.nil ?_;refine Wp.bq (xAd (cj2 e1 e2)) ?_;refine az.bO xA2 xAb (c1) ?_;refine az.evR xA1 ?_;refine az.nil ⟨by simp[bg,aN,apart,aU],?_⟩;refine Wp.ret ⟨trivial,_,rfl,ay.refl _,?_⟩;exact jo 1 _ _ n m
 ·have hok:okD B a ok k=false:=by
   unfold okD;cases ok
   ·rfl
   ·rw[OM];exact N6 λh2=>h ⟨rfl,h2⟩
  have ht:nuD B a ok k=0:=by unfold nuD;rw[Ob (by rw[hok];simp)]
  have hat:atD B a ok k=a:=by unfold atD;rw[Ob (by rw[hok];simp)]
  rw[hok,ht,hat];cases ok with
  |false=>
   refine Wp.aH xAc ?_;refine aw.nil ?_;refine Wp.seq ?_;refine Wp.bq (xAd (cj2 @Oy @OB)) ?_;refine az.nil ⟨by simp[bg,aN,apart,aU],?_⟩;refine Wp.cond_true (by simp only[go_sem,reduceIte,Nat.reduceEqDiff,Nat.reduceAdd,bx,OB]) ?_;refine Wp.aH xAc ?_;refine aw.nil ?_;refine Wp.aH xAc ?_;refine aw.nil ?_;refine Wp.ret ⟨trivial,_,rfl,ay.refl _,?_⟩;exact jo 1 _ _ n m
  |true=>
   have g2:decide (((B.length - a:Nat):Int)<(k:Int))=true:=N9 (by have h3:¬a+k<=B.length:=λh2=>h ⟨rfl,h2⟩;omega);refine Wp.aH xAc ?_;refine aw.nil ?_;refine Wp.seq ?_;refine Wp.bq (xAd (cj4 g1 g2 @Oy @OB)) ?_;refine az.nil ⟨by simp[bg,aN,apart,aU],?_⟩;refine Wp.cond_true (by simp only[go_sem,reduceIte,Nat.reduceEqDiff,Nat.reduceAdd,bx,g2]) ?_;refine Wp.aH xAc ?_;refine aw.nil ?_;refine Wp.aH xAc ?_;refine aw.nil ?_;refine Wp.ret ⟨trivial,_,rfl,ay.refl _,?_⟩;exact jo 1 _ _ n m
theorem AP{B:List UInt8}{a k:Nat}(h:a+k<=B.length):okD B a true k=true:=by unfold okD;simp[h]
theorem Hg{B:List UInt8}{a k:Nat}{x:List UInt8 × Nat}(h:tx B a k=some x):txD B a true k=x.1/\atD B a true k=x.2/\okD B a true k=true:=by
 unfold tx at h;split at h
 ·rename_i hl;cases h;have ho:=AP hl;unfold txD atD;rw[Oi ho,Oi ho];exact ⟨rfl,rfl,ho⟩
 ·cases h
theorem N3{B:List UInt8}{a k:Nat}{x:Int × Nat}(h:nu B a k=some x):nuD B a true k=x.1/\atD B a true k=x.2/\okD B a true k=true:=by
 unfold nu at h;split at h
 ·rename_i hl;cases h;have ho:=AP hl;unfold nuD atD;rw[Oi ho,Oi ho];exact ⟨rfl,rfl,ho⟩
 ·cases h
theorem Ei{B:List UInt8}{a k:Nat}{x:Nat × Nat}(hk:k<=4)(h:nn B a k=some x):nuD B a true k=(x.1:Nat)/\atD B a true k=x.2/\okD B a true k=true:=by
 unfold nn at h;split at h
 ·rename_i hl;cases h;have ho:=AP hl;unfold nuD atD;rw[Oi ho,Oi ho];refine ⟨?_,rfl,ho⟩;have hv:val ((B.drop a).take k)<=4294967295:=by
   have hl2:((B.drop a).take k).length=k:=by rw[OV,OY];omega
   have h1:=eW ((B.drop a).take k);rw[hl2] at h1;have h2:256^k<=256^4:=Px aq hk;have h3:(256:Nat)^4=4294967296:=by decide
   omega
  unfold i64;rw[IntWalk.i64_in _ ae]
 ·cases h
def js(B:List UInt8)(a:Nat)(ok:Bool):Vs × Nat × Bool:=
 let n1:=(nuD B a ok 1).toNat;let a1:=atD B a ok 1;let k1:=okD B a ok 1
 let o:=txD B a1 k1 n1;let a2:=atD B a1 k1 n1;let k2:=okD B a1 k1 n1
 let id:=nuD B a2 k2 8;let a3:=atD B a2 k2 8;let k3:=okD B a2 k2 8
 let hs:=txD B a3 k3 11;let a4:=atD B a3 k3 11;let k4:=okD B a3 k3 11
 let n5:=(nuD B a4 k4 2).toNat;let a5:=atD B a4 k4 2;let k5:=okD B a4 k4 2
 let b:=txD B a5 k5 n5;let a6:=atD B a5 k5 n5;let k6:=okD B a5 k5 n5
 (⟨o,id,(hdO hs).sz,(hdO hs).re,(hdO hs).im,(hdO hs).g,(hdO hs).u,b⟩,a6,k6&&decide (hdE hs=0))
theorem NF{B:List UInt8}{a:Nat}{x:Vs × Nat}(h:gu B a=some x):js B a true=(x.1,x.2,true):=by
 unfold gu at h;obtain ⟨x1,p1,h⟩:=Oe.1 h;obtain ⟨x2,p2,h⟩:=Oe.1 h;obtain ⟨x3,p3,h⟩:=Oe.1 h;obtain ⟨x4,p4,h⟩:=Oe.1 h;split at h
 ·rename_i hd;obtain ⟨x5,p5,h⟩:=Oe.1 h;obtain ⟨x6,p6,h⟩:=Oe.1 h;cases h;obtain ⟨q1,r1,s1⟩:=Ei aq p1;obtain ⟨q2,r2,s2⟩:=Hg p2;obtain ⟨q3,r3,s3⟩:=N3 p3;obtain ⟨q4,r4,s4⟩:=Hg p4;obtain ⟨q5,r5,s5⟩:=Ei aq p5;obtain ⟨q6,r6,s6⟩:=Hg p6;have he:hdE x4.1=0:=by unfold hdE;rw[Oi hd]
  unfold js;simp only[q1,r1,s1,Int.toNat_natCast,q2,r2,s2,q3,r3,s3,q4,r4,s4,q5,r5,s5,q6,r6,s6,he,OE,PG]
 ·cases h
theorem Ce{B:List UInt8}:∀(k a:Nat),vr B a (k+1)=(gu B a).bind λy=>(vr B y.2 k).map λz=>(y.1::z.1,z.2)
 |0,a=>by
  simp only[vr,Option.bind_some];cases gu B a<;>rfl
 |k+1,a=>by
  rw[show vr B a (k+1+1)=(vr B a (k+1)).bind λx=>(gu B x.2).map λy=>(x.1++[y.1],y.2) from rfl,Ce k a];cases gu B a with
  |none=>rfl
  |some y=>
   simp only[Option.bind_some,vr];cases vr B y.2 k with
   |none=>rfl
   |some z=>
    simp only[Option.map_some,Option.bind_some];cases gu B z.2<;>rfl
theorem Cf{B:List UInt8}:∀(k a:Nat),br B a (k+1)=(gK B a).bind λy=>(br B y.2 k).map λz=>(y.1::z.1,z.2)
 |0,a=>by
  simp only[br,Option.bind_some];cases gK B a<;>rfl
 |k+1,a=>by
  rw[show br B a (k+1+1)=(br B a (k+1)).bind λx=>(gK B x.2).map λy=>(x.1++[y.1],y.2) from rfl,Cf k a];cases gK B a with
  |none=>rfl
  |some y=>
   simp only[Option.bind_some,br];cases br B y.2 k with
   |none=>rfl
   |some z=>
    simp only[Option.map_some,Option.bind_some];cases gK B z.2<;>rfl
def vsD(B:List UInt8):Nat->List Vs->Nat->Bool->List Vs × Nat × Bool
 |0,l,a,ok=>(l,a,ok)
 |k+1,l,a,ok=>if ok=true then vsD B k (l++[(js B a true).1]) (js B a true).2.1 (js B a true).2.2 else (l,a,ok)
theorem NG{B:List UInt8}:∀(k:Nat)(l:List Vs)(a:Nat){x:List Vs × Nat},vr B a k=some x->vsD B k l a true=(l++x.1,x.2,true)
 |0,l,a,x,h=>by
  simp only[vr,Om] at h;subst h;simp[vsD]
 |k+1,l,a,x,h=>by
  rw[Ce] at h;obtain ⟨y,hy,h⟩:=Oe.1 h;obtain ⟨z,hz,rfl⟩:=Oc.1 h;simp only[vsD,Of];rw[NF hy];simp only;rw[NG k _ _ hz];simp
def mZ(B:List UInt8)(a:Nat)(ok:Bool):Bk × Nat × Bool:=
 let n1:=(nuD B a ok 1).toNat;let a1:=atD B a ok 1;let k1:=okD B a ok 1
 let o:=txD B a1 k1 n1;let a2:=atD B a1 k1 n1;let k2:=okD B a1 k1 n1
 let st:=nuD B a2 k2 1;let a3:=atD B a2 k2 1;let k3:=okD B a2 k2 1
 let n:=(nuD B a3 k3 4).toNat;let a4:=atD B a3 k3 4;let k4:=okD B a3 k3 4
 let r:=vsD B n [] a4 k4
 (⟨o,st,r.1⟩,r.2.1,r.2.2)
theorem NH{B:List UInt8}{a:Nat}{x:Bk × Nat}(h:gK B a=some x):mZ B a true=(x.1,x.2,true):=by
 unfold gK at h;obtain ⟨x1,p1,h⟩:=Oe.1 h;obtain ⟨x2,p2,h⟩:=Oe.1 h;obtain ⟨x3,p3,h⟩:=Oe.1 h;obtain ⟨x4,p4,h⟩:=Oe.1 h;obtain ⟨x5,p5,h⟩:=Oe.1 h;cases h;obtain ⟨q1,r1,s1⟩:=Ei aq p1;obtain ⟨q2,r2,s2⟩:=Hg p2;obtain ⟨q3,r3,s3⟩:=Ei aq p3;obtain ⟨q4,r4,s4⟩:=Ei aq p4;have q5:=NG _ [] _ p5;unfold mZ;simp only[q1,r1,s1,Int.toNat_natCast,q2,r2,s2,q3,r3,s3,q4,r4,s4,q5,List.nil_append]
def bsD(B:List UInt8):Nat->List Bk->Nat->Bool->List Bk × Nat × Bool
 |0,l,a,ok=>(l,a,ok)
 |k+1,l,a,ok=>if ok=true then bsD B k (l++[(mZ B a true).1]) (mZ B a true).2.1 (mZ B a true).2.2 else (l,a,ok)
theorem NI{B:List UInt8}:∀(k:Nat)(l:List Bk)(a:Nat){x:List Bk × Nat},br B a k=some x->bsD B k l a true=(l++x.1,x.2,true)
 |0,l,a,x,h=>by
  simp only[br,Om] at h;subst h;simp[bsD]
 |k+1,l,a,x,h=>by
  rw[Cf] at h;obtain ⟨y,hy,h⟩:=Oe.1 h;obtain ⟨z,hz,rfl⟩:=Oc.1 h;simp only[bsD,Of];rw[NH hy];simp only;rw[NI k _ _ hz];simp
def qE(B:List UInt8):List Bk × Bool:=
 let h:=txD B 0 true 4;let a1:=atD B 0 true 4;let k1:=okD B 0 true 4
 let n:=(nuD B a1 k1 2).toNat;let a2:=atD B a1 k1 2;let k2:=okD B a1 k1 2
 if h=[65,82,67,72] then ((bsD B n [] a2 k2).1,(bsD B n [] a2 k2).2.2) else ([],k2)
def Cg(B:List UInt8):Option (List Bk):=if (qE B).2=true/\imE (qE B).1=0/\gM (qE B).1=B then some (qE B).1 else none
theorem Lh{B:List UInt8}{m:List Bk}(h:dO B=some m):qE B=(m,true):=by
 unfold dO at h;obtain ⟨x0,p0,h⟩:=Oe.1 h;split at h
 ·rename_i hm;obtain ⟨x1,p1,h⟩:=Oe.1 h;obtain ⟨x2,p2,h⟩:=Oe.1 h;obtain ⟨x3,p3,h⟩:=Oe.1 h;split at h
  ·split at h
   ·cases h;obtain ⟨q0,r0,s0⟩:=Hg p0;obtain ⟨q1,r1,s1⟩:=Ei aq p1;have q2:=NI _ [] _ p2;unfold qE;simp only[q0,r0,s0,q1,r1,s1,Int.toNat_natCast,q2,List.nil_append,hm,Of]
   ·cases h
  ·cases h
 ·cases h
theorem Hh{B:List UInt8}(hf:Few (qE B).1):Cg B=dO B:=by
 cases h:dO B with
 |some m=>
  have hp:=Lh h;obtain ⟨h1,h2⟩:=uQ h;unfold Cg;rw[hp];simp only;rw[Oi ⟨trivial,by unfold imE;rw[Oi h1],h2⟩]
 |none=>
  unfold Cg;split
  ·rename_i hc;obtain ⟨-,h1,h2⟩:=hc;have hi:imB (qE B).1=true:=by
    unfold imE at h1;split at h1
    ·assumption
    ·cases h1
   have:=AK hi hf;rw[h2,h] at this;cases this
  ·rfl
def lpA:AC->AC
 | .loop c=>c
 |c=>c
def blA:AC->AC
 | .block _ c=>c
 |c=>c
def rp:AC:=blA (hdA (tlA (lpA (blA (tlA (hdA gW))))))
def isV(nm:List UInt8)(p:Pr):Bool:=decide ((bc p.k).k=2)&&decide ((bc p.k).b=nm)
def Hi(l:List Pr)(p:Pr):Vs:=⟨(bc p.k).o,(bc p.k).ns.getD 0 0,(hdO p.v).sz,(hdO p.v).re,(hdO p.v).im,(hdO p.v).g,(hdO p.v).u,o5 l (bc p.k).b (bc p.k).o ((bc p.k).ns.getD 0 0)⟩
def iD(l r:List Pr)(nm:List UInt8):List Vs:=(r.filter (isV nm)).map (Hi l)
theorem AQ(l:List Pr)(nm:List UInt8)(j:Nat)(h:j<l.length):iD l (l.take (j+1)) nm=if isV nm (l.getD j default) then iD l (l.take j) nm++[Hi l (l.getD j default)] else iD l (l.take j) nm:=by
 have e:l.getD j default=l[j]:=by simp[List.getD,N5 h]
 unfold iD;rw[OD h,e,List.filter_append];cases hi:isV nm l[j] <;>simp[hi]
def qF(k len:Nat)(cs:List AV):Nat->Option Av.Obj:=upd (fN (.tsl 3 k 0 len none)) k (some (.cells cs))
theorem Li(A B:List AV)(x y z:AV):(A++x::y::z::B)[A.length]? =some x:=by simp
theorem Jx(A B:List AV)(x y z:AV):(A++x::y::z::B)[A.length+2]? =some z:=by
 simp[PE]
theorem p8:∀(A B:List AV){a b:AV},ay a b->aA (A++a::B) (A++b::B)
 |[],B,a,b,h=>aA.cons h (aA.refl _)
 |x::A,B,a,b,h=>aA.cons (ay.refl _) (p8 A B h)
theorem Hj(A B:List AV)(x y z:AV):A++x::y::z::B=(A++[x,y])++z::B:=by simp
set_option maxHeartbeats 4000000 in
theorem Hk(l:List Pr)(hl:l.length<=2000)(hok:∀p∈l,cF p.k=true)(hks:∀p∈l,p.k.length<=140737488355328)(hvs:∀p∈l,p.v.length<=140737488355328)
  (i k len:Nat) (A B:List AV) (hA:A.length=i*3) (nm:List UInt8) (st:Int) (hi:i<len) (hlen:len<=2000) (hk:2<=k) (n m:Nat) (hn:k<n) (Q:aO->St->Prop):
  Wp Tryz.prog 146 rp ⟨tm [(0,.sl 2 (prs l) .any),(2,.ptr 0 0),(4,.ptr 1 0),(10,.int .i64 i)],⟨qF k len (A++ .str nm:: .int .i64 st:: .sl 8 [] (.exact 0)::B),n,[],m⟩⟩
   (aO.andThen (λs'=>∃n' m',n<=n'/\aM s' ⟨tm [(0,.sl 2 (prs l) .any),(2,.ptr 0 0),(4,.ptr 1 0),(10,.int .i64 i)],⟨qF k len (A++ .str nm:: .int .i64 st:: .sl 8 (vss (iD l l nm)) .any::B),n',[],m'⟩⟩) Q):=by
 unfold rp gW c21 zz;simp only[tlA,hdA,lpA,blA];have lp:=ba l;refine dI ?_;refine Wp.le (aM.tok _ _) ?_;refine Wp.le (s':=⟨tm [(0,.sl 2 (prs l) .any),(2,.ptr 0 0),(4,.ptr 1 0),(10,.int .i64 i),(11,.int .i64 (0:Nat))],⟨qF k len (A++ .str nm:: .int .i64 st:: .sl 8 (vss (iD l (l.take 0) nm)) (.own m)::B),n,[m],m+1⟩⟩) (aM.of (aY ?_) (OLe.upd (OLe.bZ _) ?_) (λa ha=>ha) (N4 _) (N4 _)) ?_
 ·exact xSb
 ·rw[Hj A,Hj A];exact p8 _ _ (ay.dt rfl)
 refine Wp.cO [0,2,4,10] xA7 (λj:Nat × Nat × Nat × Nat=>[(11,.int .i64 (j.1:Nat))]) (λj=>⟨qF k len (A++ .str nm:: .int .i64 st:: .sl 8 (vss (iD l (l.take j.1) nm)) (.own j.2.1)::B),j.2.2.1,[j.2.1],j.2.2.2⟩) (λj=>j.1<=l.length/\n<=j.2.2.1/\j.2.1<j.2.2.2) (λj=>l.length - j.1) (0,m,n,m+1) ⟨Ot _,N4 _,by simp⟩ rfl ?_ ?_
 ·exact xSb
 rintro ⟨j,tk,n1,m1⟩ ⟨hj,hn1,htk⟩;simp only at hj hn1 htk;by_cases hc:j<l.length
 ·obtain ⟨g1,g2,g3,e1⟩:=dZ hc ae;have hat:=bT l j .any hc;have hsn:=AQ l nm j hc;have hget:l.getD j default=l[j]:=by simp[List.getD,N5 hc]
  have hmem:l.getD j default∈l:=by rw[hget];exact Pk hc
  have cp:=yb (l.getD j default).k (hks _ hmem);have hpe:mu (l.getD j default).k=0:=by unfold mu;rw[Oi (hok _ hmem)]
  obtain ⟨hkok,-⟩:=sW (hok _ hmem);have hvd:isV nm (l.getD j default)=(decide ((bc (l.getD j default).k).k=2)&&decide ((bc (l.getD j default).k).b=nm)):=rfl;have hvo:Hi l (l.getD j default)=⟨(bc (l.getD j default).k).o,(bc (l.getD j default).k).ns.getD 0 0,(hdO (l.getD j default).v).sz,(hdO (l.getD j default).v).re,(hdO (l.getD j default).v).im,(hdO (l.getD j default).v).g,(hdO (l.getD j default).v).u,o5 l (bc (l.getD j default).k).b (bc (l.getD j default).k).o ((bc (l.getD j default).k).ns.getD 0 0)⟩:=rfl;rw[hpe] at cp;unfold di at cp;generalize bc (l.getD j default).k=key at*
  generalize hACC:iD l (l.take j) nm=acc at*
  have n0:¬(0=n1):=by omega
  have n1':¬(1=n1):=by omega
  have nk:¬(k=n1):=by omega
  have k1:¬(1=k):=by omega
  have k0:¬(0=k):=by omega
  have x1:(0:Int)<=(i:Int):=by omega
  have x2:(i:Int)<(len:Int):=by omega
  have hCl:(A++ .str nm:: .int .i64 st:: .sl 8 (vss acc) (.own tk)::B).length=i*3+3+B.length:=by simp[hA];omega
  have hC0:=Li A B (.str nm) (.int .i64 st) (.sl 8 (vss acc) (.own tk));have hC2:=Jx A B (.str nm) (.int .i64 st) (.sl 8 (vss acc) (.own tk));rw[hA] at hC0 hC2;unfold qF fN zIm;generalize hCS:A++ .str nm:: .int .i64 st:: .sl 8 (vss acc) (.own tk)::B=CS at*
  have y1:i*3<CS.length:=by omega
  cases dk:decide (key.k=2) with
  |false=>
   rw[hvd,dk,Pv] at hsn;simp only[Oq,Od] at hsn;refine rn1 (bf g1 g2 g3 lp hat n0 n1' nk k1 k0 dk (cj2 @N7 @Ol)) cp ?_;refine ⟨(j+1,tk,n1+1,m1),⟨by simp only;omega,by simp only;omega,htk⟩,by simp only;omega,?_⟩;rw[hsn,hCS];refine aM.of (aY ?_) (λa u hu=>⟨u,?_,cm.refl _⟩) (λx hx=>hx) (N4 _) (N4 _)
   ·exact cM e1
   ·have an:a≠n1:=by
     rintro rfl;simp[upd,aB,Ql n0,Ql n1',Ql nk] at hu
    simp only[upd,an,Od] at hu |-;exact hu
  |true=>
   rw[hvd,dk,OM] at hsn;cases db:decide (key.b=nm) with
   |false=>
    rw[db] at hsn;simp only[Oq,Od] at hsn;refine rn1 (bf g1 g2 g3 lp hat n0 n1' nk k1 k0 dk (cj7 db x1 x2 hC0 y1 @N7 @Ol)) cp ?_;refine ⟨(j+1,tk,n1+1,m1),⟨by simp only;omega,by simp only;omega,htk⟩,by simp only;omega,?_⟩;rw[hsn,hCS];refine aM.of (aY ?_) (λa u hu=>⟨u,?_,cm.refl _⟩) (λx hx=>hx) (N4 _) (N4 _)
    ·exact cM e1
    ·have an:a≠n1:=by
      rintro rfl;simp[upd,aB,Ql n0,Ql n1',Ql nk] at hu
     simp only[upd,an,Od] at hu |-;exact hu
   |true=>
    rw[db] at hsn;simp only[Of] at hsn;have hkb:key.b=nm:=Ox db;have ch:=qx (l.getD j default).v (hvs _ hmem);have cb:=KQ l ae hvs;unfold ni ez at ch;generalize hdO (l.getD j default).v=hd at*
    obtain ⟨hsz,hre,him,hg,hu⟩:=hd;have hk2:key.k=2:=Ox dk;have hnl:key.ns.length=1:=by
     have:=hkok.n;rw[hk2] at this;have e:eB 2=1:=rfl;rw[e] at this;omega
    obtain ⟨v0,hns⟩:∃v0,key.ns=[v0]:=QO.1 hnl;have hv0:v0<9223372036854775808:=(hkok.r v0 (by rw[hns];simp)).2;have hi0:ints key.ns=[.int .i64 v0]:=by rw[hns];rfl
    rw[hns] at hvo;have hg0:[v0].getD 0 0=v0:=rfl;rw[hg0] at hvo;have cb2:=cb key.b ⟨key.o,v0,hsz,hre,him,hg,hu,[]⟩ hv0;unfold cz at cb2;rw[hi0] at cp;simp only at cb2 hvo ch;have z0:(0:Int)<((0+1:Nat):Int):=by decide
    have q1:¬(n1+1=n1):=by omega
    have q2:¬(n1=n1+1):=by omega
    have q3:¬(n1+1+1=n1):=by omega
    have q4:¬(n1=n1+1+1):=by omega
    have q5:¬(n1+1+1=n1+1):=by omega
    have q6:¬(n1+1=n1+1+1):=by omega
    have q7:¬(k=n1+1):=by omega
    have q8:¬(k=n1+1+1):=by omega
    have q9:¬(1=n1+1):=by omega
    have q10:¬(1=n1+1+1):=by omega
    have q11:¬(0=n1+1):=by omega
    have q12:¬(0=n1+1+1):=by omega
    have q13:(0:Int)<1:=by decide
    have hl1:([AV.int .i64 v0].length:Nat)=1:=rfl;generalize o5 l key.b key.o v0=bd at*
    refine rn3 (bf g1 g2 g3 lp hat n0 n1' nk k1 k0 dk (bf db x1 x2 hC0 y1 @q1 @q2 q3 @q4 q5 q6 (bf q7 q8 q9 q10 q11 q12 q13 z0 @N8.{0} @Oa.{0} @Oo (cj5 Int.toNat_zero @OP.{0} @OU @N7 @Ol)))) cp ch cb2 ?_;refine az.nil ⟨by simp[bg,aN,apart,aU,q1,q2,q3,q4,q5,q6],?_⟩;refine rn3 (bf g1 g2 g3 lp hat n0 n1' nk k1 k0 dk (bf db x1 x2 hC0 y1 @q1 @q2 q3 @q4 q5 q6 (bf q7 q8 q9 q10 q11 q12 q13 z0 @N8.{0} @Oa.{0} @Oo (cj5 Int.toNat_zero @OP.{0} @OU @N7 @Ol)))) cp ch cb2 ?_;refine Wp.le (s':=⟨tm [(0,.sl 2 (prs l) .any),(2,.ptr 0 0),(4,.ptr 1 0),(10,.int .i64 i),(11,.int .i64 j),(16,.ptr (n1+1+1) 0)],⟨upd (upd (upd (upd aB 0 (some (.cells [.sl 3 [] (.exact 0)]))) 1 (some (.cells [.tsl 3 k 0 len none]))) k (some (.cells CS))) (n1+1+1) (some (.cells [.str key.o,.int .i64 v0,.int .i64 hsz,.int .i64 hre,.int .i64 him,.bool hg,.bool hu,.str bd])),n1+1+1+1,[tk],m1⟩⟩) (aM.of (aY ?_) (λa u hu=>⟨u,?_,cm.refl _⟩) (λx hx=>hx) (N4 _) (N4 _)) ?_
    ·exact xSb
    ·simp only[upd,aB] at hu |-;by_cases a2:a=n1+1+1
     ·subst a2;simpa using hu
     ·simp only[a2,Od] at hu |-;have an1:a≠n1:=by
       rintro rfl;simp[Ql n0,Ql n1',Ql nk] at hu
      have an2:a≠n1+1:=by
       rintro rfl;simp[Ql q7,show ¬(n1=0) by omega] at hu
      simp only[an1,an2,Od];exact hu
    have lv:=dF acc;have hal:acc.length<=j:=by
     rw[<-hACC];unfold iD;rw[PF];refine OI (List.length_filter_le _ _) ?_;rw[OV];omega
    have e6:(acc.length+1)*72<=140737488355328:=by omega
    have e7:acc.length+1<4611686018427387904:=by omega
    have y2:i*3+2+1<=CS.length:=by omega
    have hT:CS.take (i*3+2)=A++[.str nm,.int .i64 st]:=by
     rw[<-hCS,Hj,<-hA];have:A.length+2=(A++[AV.str nm,AV.int .i64 st]).length:=by simp
     rw[this,List.take_left]
    have hD:CS.drop (i*3+2+1)=B:=by
     have e:CS=(A++[.str nm,.int .i64 st,.sl 8 (vss acc) (.own tk)])++B:=by rw[<-hCS];simp
     have hl3:i*3+2+1=(A++[AV.str nm,AV.int .i64 st,AV.sl 8 (vss acc) (.own tk)]).length:=by simp[hA]
     rw[e,hl3,List.drop_left]
    apply Wp.gS
    ·simp only[go_sem,reduceIte,Nat.reduceEqDiff,Nat.reduceAdd,bx,ax,Of,Od,Nat.reduceMul,Nat.reduceLeDiff,g1,g2,g3,lp,hat,n0,n1',nk,k1,k0,dk,db,x1,x2,hC0,hC2,y1,y2,q1,q2,q3,q4,q5,q6,q7,q8,q9,q10,q11,q12,q13,z0,lv,e6,e7,hT,hD,List.length_cons,List.length_nil,Oo,Int.toNat_zero,OP,OU,Int.toNat_natCast,Ol,Oj,O2];exact rfl
    refine az.nil ⟨by simp[bg,aN,apart,aU,q7,q8],?_⟩;refine rn0 e1 ?_;refine ⟨(j+1,m1,n1+1+1+1,m1+1),⟨by simp only;omega,by simp only;omega,by simp⟩,by simp only;omega,?_⟩;have hvv:vss (acc++[Hi l (l.getD j default)])=vss acc++[.agg [.str key.o,.int .i64 v0,.int .i64 hsz,.int .i64 hre,.int .i64 him,.bool hg,.bool hu,.str bd]]:=by
     rw[hvo];simp[vss,cz]
    simp only;rw[hsn,hvv];refine aM.of (aY ?_) (λa u hu=>⟨u,?_,cm.refl _⟩) (λx hx=>by simpa using hx) (N4 _) (N4 _)
    ·exact cM e1
    ·simp only[upd,aB] at hu |-;by_cases ak:a=k
     ·subst ak;simpa using hu
     ·simp only[ak,Od] at hu |-;have an1:a≠n1+1+1:=by
       rintro rfl;simp[show ¬(n1+1=0) by omega] at hu
      simp only[an1,Od];exact hu
 ·have hj2:j=l.length:=by omega
  subst hj2;have ig:=fX l.length;rw[OG];refine rf0 (cj2 ig lp) ?_;refine ⟨n1,m1,hn1,?_⟩;refine aM.of (aY ?_) (OLe.upd (OLe.bZ _) ?_) (λa ha=>by simp at ha) (N4 _) (N4 _)
  ·exact xSb
  ·rw[Hj A,Hj A];exact p8 _ _ ay.cap
theorem pc{B:List UInt8}{a k:Nat}{ok:Bool}(hk:k<=4):nuD B a ok k=((nuD B a ok k).toNat:Int)/\(nuD B a ok k).toNat<=4294967295/\(k<=2->(nuD B a ok k).toNat<=65535):=by
 unfold nuD;split
 ·rename_i ho;unfold okD at ho;simp only[Oh,Ov] at ho;have hl2:((B.drop a).take k).length=k:=by rw[OV,OY];omega
  have h1:=eW ((B.drop a).take k);rw[hl2] at h1;have h2:256^k<=256^4:=Px aq hk;have h3:(256:Nat)^4=4294967296:=by decide
  have h4:k<=2->256^k<=256^2:=λh=>Px aq h;have h5:(256:Nat)^2=65536:=by decide
  unfold i64;rw[IntWalk.i64_in _ ae];refine ⟨ae,ae,λh=>?_⟩;have:=h4 h;omega
 ·exact ⟨rfl,by decide,λ_=>by decide⟩
theorem dH{B:List UInt8}{a k:Nat}{ok:Bool}(h:a<=B.length):atD B a ok k<=B.length:=by
 unfold atD;split
 ·rename_i ho;unfold okD at ho;simp only[Oh,Ov] at ho;omega
 ·exact h
theorem uS{B:List UInt8}{a k:Nat}{ok:Bool}(h:okD B a ok k=true):ok=true/\atD B a ok k=a+k:=by
 have h':=h;unfold okD at h';simp only[Oh,Ov] at h';unfold atD;rw[Oi h];exact ⟨h'.1,rfl⟩
theorem Jy{B:List UInt8}{a k:Nat}{ok:Bool}:(txD B a ok k).length<=B.length:=by
 unfold txD;split
 ·rw[OV,OY];omega
 ·exact Ot _
theorem Ci{B:List UInt8}{a:Nat}{ok:Bool}(h:a<=B.length):(js B a ok).2.1<=B.length:=by
 unfold js;exact dH (dH (dH (dH (dH (dH h)))))
theorem Ej{B:List UInt8}{a:Nat}{ok:Bool}(h:(js B a ok).2.2=true):a+22<=(js B a ok).2.1:=by
 unfold js at h |-;simp only[Oh] at h |-;obtain ⟨k6,-⟩:=h;obtain ⟨k5,e6⟩:=uS k6;obtain ⟨k4,e5⟩:=uS k5;obtain ⟨k3,e4⟩:=uS k4;obtain ⟨k2,e3⟩:=uS k3;obtain ⟨k1,e2⟩:=uS k2;obtain ⟨k0,e1⟩:=uS k1;omega
theorem Cj{B:List UInt8}:∀(k:Nat)(l:List Vs)(a:Nat),a<=B.length->22*l.length<=a->22*(vsD B k l a true).1.length<=B.length+22/\(vsD B k l a true).2.1<=B.length
 |0,l,a,ha,hl=>by unfold vsD;exact ⟨by simp only;omega,ha⟩
 |k+1,l,a,ha,hl=>by
  unfold vsD;rw[Oi rfl];have h1:=Ci (ok:=true) ha;have h2:=Ej (B:=B) (a:=a) (ok:=true);cases hk:(js B a true).2.2 with
  |true=>
   refine Cj k _ _ h1 ?_;have:=h2 hk;simp only[Og,List.length_cons,List.length_nil];omega
  |false=>
   have e:vsD B k (l++[(js B a true).1]) (js B a true).2.1 false=(l++[(js B a true).1],(js B a true).2.1,false):=by
    cases k<;>rfl
   rw[e];refine ⟨?_,h1⟩;simp only[Og,List.length_cons,List.length_nil];omega
theorem yz{B:List UInt8}{a:Nat}{ok:Bool}(ha:a<=B.length):22*(mZ B a ok).1.l.length<=B.length+22/\(mZ B a ok).2.1<=B.length:=by
 unfold mZ;simp only;have h4:=dH (ok:=okD B (atD B (atD B a ok 1) (okD B a ok 1) (nuD B a ok 1).toNat) (okD B (atD B a ok 1) (okD B a ok 1) (nuD B a ok 1).toNat) 1) (k:=4) (dH (ok:=okD B (atD B a ok 1) (okD B a ok 1) (nuD B a ok 1).toNat) (k:=1) (dH (ok:=okD B a ok 1) (k:=(nuD B a ok 1).toNat) (dH (ok:=ok) (k:=1) ha)));generalize (nuD B _ _ 4).toNat=n at*
 generalize okD B _ _ 4=k4 at*
 generalize atD B _ _ 4=a4 at*
 cases k4 with
 |true=>exact Cj n [] a4 h4 (Ot _)
 |false=>
  have e:vsD B n [] a4 false=([],a4,false):=by cases n<;>rfl
  rw[e];exact ⟨by simp,h4⟩
theorem Ck{B:List UInt8}:∀(k:Nat)(l:List Bk)(a:Nat)(ok:Bool),a<=B.length->(∀b∈l,22*b.l.length<=B.length+22)->∀b∈(bsD B k l a ok).1,22*b.l.length<=B.length+22
 |0,l,a,ok,ha,hl=>by unfold bsD;exact hl
 |k+1,l,a,ok,ha,hl=>by
  unfold bsD;split
  ·have h:=yz (ok:=true) ha;refine Ck k _ _ _ h.2 λb hb=>?_;rcases OS.1 hb with hb|hb
   ·exact hl b hb
   ·simp only[Oj] at hb;subst hb;exact h.1
  ·exact hl
theorem Hl{B:List UInt8}(hB:B.length<=10000000):Few (qE B).1:=by
 intro b hb;unfold qE at hb;simp only at hb;split at hb
 ·have:=Ck _ [] _ _ (dH (dH (Ot _))) ah b hb;omega
 ·cases hb
structure RdX(B:List UInt8)(o2:Av.Obj)(nx:Nat)(nm:List UInt8)(st:Int)(l:List Vs)(a:Nat)(ok:Bool)(t2:Nat)(h:H):Prop where
 o0:h.objs 0=some zIm
 o1:h.objs 1=some (iG B a ok)
 o2:h.objs 2=some o2
 x:∃tk,h.objs nx=some (.cells [.str nm,.int .i64 st,.sl 8 (vss l) (.own tk)])/\tk∈h.toks/\tk≠t2/\tk<h.m
 t:t2∈h.toks/\t2<h.m
 n:nx<h.n
def iq:AC:=hdA (tlA (tlA (tlA (tlA c19))))
def AR:AC:=lpA (blA (tlA iq))
def mC:AC:=blA (hdA (tlA AR))
def qy:AC:=hdA (tlA (tlA mC))
def Hm:AC:=lpA (blA (tlA qy))
def Jz:AC:=blA (hdA (tlA Hm))
set_option maxHeartbeats 4000000 in
theorem JA{B:List UInt8}(hB:B.length<=10000000){a:Nat}(ha:a<=B.length){o2:Av.Obj}{nx:Nat}(hx:2<nx){nm:List UInt8}{st:Int}{l:List Vs}(hl:l.length<4294967295){t2:Nat}{h:H}(I:RdX B o2 nx nm st l a true t2 h){v5:List UInt8}{v7 v9:Int}{Q:aO->St->Prop}
  (hQ:∀(s':St)(h':H),RdX B o2 nx nm st (l++[(js B a true).1]) (js B a true).2.1 (js B a true).2.2 t2 h'->aM s' ⟨tm [(0,.str B),(2,.ptr 0 0),(4,.ptr 1 0),(5,.str v5),(6,.ptr 2 0),(7,.int .i64 v7),(8,.ptr nx 0),(9,.int .i64 v9)],h'⟩->Q .normal s'):
  Wp Tryz.prog 116 Jz ⟨tm [(0,.str B),(2,.ptr 0 0),(4,.ptr 1 0),(5,.str v5),(6,.ptr 2 0),(7,.int .i64 v7),(8,.ptr nx 0),(9,.int .i64 v9)],h⟩ Q:=by
 obtain ⟨F,n,K,m⟩:=h;obtain ⟨g0,g1,g2,⟨tk,gx,gt,gne,gtm⟩,⟨gt2,gt2m⟩,gn⟩:=I;simp only at g0 g1 g2 gx gt gt2 gn gtm gt2m;unfold Jz Hm qy mC AR iq c19 zz;simp only[tlA,hdA,lpA,blA];have hl1:((1:Nat):Int)=1:=rfl;have hl8:((8:Nat):Int)=8:=rfl;have hl11:((11:Nat):Int)=11:=rfl;have hl2:((2:Nat):Int)=2:=rfl;obtain ⟨vv,hvv⟩:∃x,x=js B a true:=⟨_,rfl⟩;rw[<-hvv] at hQ;unfold js at hvv;simp only at hvv;obtain ⟨e1,b1,-⟩:=pc (B:=B) (a:=a) (ok:=true) (k:=1) aq;have c1:=nX B hB a 1 true ha aq;rw[e1,hl1] at c1;have h1:=dH (ok:=true) (k:=1) ha;generalize (nuD B a true 1).toNat=n1 at*
 generalize atD B a true 1=a1 at*
 generalize okD B a true 1=k1 at*
 have c2:=pa B hB a1 n1 k1 h1 ae;have h2:=dH (ok:=k1) (k:=n1) h1;generalize txD B a1 k1 n1=o at*
 generalize atD B a1 k1 n1=a2 at*
 generalize okD B a1 k1 n1=k2 at*
 have c3:=nX B hB a2 8 k2 h2 aq;rw[hl8] at c3;have h3:=dH (ok:=k2) (k:=8) h2;generalize nuD B a2 k2 8=id at*
 generalize atD B a2 k2 8=a3 at*
 generalize okD B a2 k2 8=k3 at*
 have c4:=pa B hB a3 11 k3 h3 aq;rw[hl11] at c4;have h4:=dH (ok:=k3) (k:=11) h3;have ch:=qx (txD B a3 k3 11) (OI Jy ae);generalize txD B a3 k3 11=hs at*
 generalize atD B a3 k3 11=a4 at*
 generalize okD B a3 k3 11=k4 at*
 unfold ni ez at ch;generalize hdE hs=he at*
 generalize hdO hs=hd at*
 obtain ⟨hsz,hre,him,hg,hu⟩:=hd;simp only at ch hvv;obtain ⟨e5,b5,-⟩:=pc (B:=B) (a:=a4) (ok:=k4) (k:=2) aq;have c5:=nX B hB a4 2 k4 h4 aq;rw[e5,hl2] at c5;have h5:=dH (ok:=k4) (k:=2) h4;generalize (nuD B a4 k4 2).toNat=n5 at*
 generalize atD B a4 k4 2=a5 at*
 generalize okD B a4 k4 2=k5 at*
 have c6:=pa B hB a5 n5 k5 h5 ae;generalize txD B a5 k5 n5=b at*
 generalize atD B a5 k5 n5=a6 at*
 generalize okD B a5 k5 n5=k6 at*
 subst hvv;simp only at hQ;have x1:¬(nx=1):=by omega
 have x1':¬(1=nx):=by omega
 have n1x:¬(1=n):=by omega
 have n1x':¬(n=1):=by omega
 have nxn:¬(nx=n):=by omega
 have nxn':¬(n=nx):=by omega
 have w1:¬(1=n+1):=by omega
 have w1':¬(n+1=1):=by omega
 have wx:¬(nx=n+1):=by omega
 have wx':¬(n+1=nx):=by omega
 have wn:¬(n=n+1):=by omega
 have wn':¬(n+1=n):=by omega
 have lv:=dF l;have e6:(l.length+1)*72<=140737488355328:=by omega
 have e7:l.length+1<4611686018427387904:=by omega
 refine Wp.aH xAc ?_;refine aw.cV xA2 xAb (g1) (c1) λm1 hm1=>?_;refine aw.evF xAc ?_;refine aw.cV xA2 xAb (by simp only[upd,Of]) (c2) λm2 hm2=>?_;simp only at hm1 hm2;refine aw.evF (xAd (cj2 n1x n1x')) ?_;refine aw.nil ?_;simp only[fT];refine Wp.aH (xAd (cj2 n1x n1x')) ?_;refine aw.cV xA2 xAb (by simp only[upd,n1x,Od,Of]) (c3) λm3 hm3=>?_;simp only at hm3;refine aw.evF (xAd (cj2 n1x n1x')) ?_;refine aw.nil ?_;refine Wp.aH (xAd (cj2 n1x n1x')) ?_;refine aw.cV xA2 xAb (by simp only[upd,n1x,Od,Of]) (c4) λm4 hm4=>?_;simp only at hm4;refine aw.bO xA2 xAb (ch) ?_;refine aw.evF (xAd (cj6 n1x n1x' w1 w1' wn wn')) ?_;refine aw.nil ?_;refine Wp.aH (xAd (cj6 n1x n1x' w1 w1' wn wn')) ?_;refine aw.nil ?_;refine Wp.le (s':=⟨tm [(0,.str B),(2,.ptr 0 0),(4,.ptr 1 0),(5,.str v5),(6,.ptr 2 0),(7,.int .i64 v7),(8,.ptr nx 0),(9,.int .i64 v9),(10,.ptr n 0),(12,.int .i64 he)],⟨upd (upd (upd F (n+1) (some (.cells [.int .i64 hsz,.int .i64 hre,.int .i64 him,.bool hg,.bool hu]))) 1 (some (iG B a4 k4))) n (some (.cells [.str o,.int .i64 id,.int .i64 hsz,.int .i64 hre,.int .i64 him,.bool hg,.bool hu,.str []])),n+2,K,m4⟩⟩) (aM.of (aY ?_) (λa u hu=>⟨u,?_,cm.refl _⟩) (λx hx=>hx) (N4 _) (N4 _)) ?_
 ·exact xSb
 ·simp only[upd] at hu |-;by_cases q1:a=n
  ·subst q1;simpa using hu
  ·by_cases q2:a=1
   ·subst q2;simpa [q1,show ¬n=0 by omega] using hu
   ·by_cases q3:a=n+1
    ·subst q3;simpa [q1,show ¬n=0 by omega] using hu
    ·simpa [q1,q2,q3] using hu
 refine Wp.aH (xAd (cj2 n1x n1x')) ?_;refine aw.cV xA2 xAb (by simp only[upd,n1x,Od,Of]) (c5) λm5 hm5=>?_;simp only at hm5;refine aw.cV xA2 xAb (by simp only[upd,Of]) (c6) λm6 hm6=>?_;simp only at hm6;refine aw.evF (xAd (cj2 n1x n1x')) ?_;refine aw.nil ?_;simp only[fT];cases k6 with
 |false=>
  refine Wp.aH (xAd (cj4 n1x n1x' @iG.eq_1 @Pv)) ?_;refine aw.nil ?_;refine Wp.cA (xAd (bf n1x n1x' gx w1 w1' wx wx' x1 x1' nxn nxn' (cj7 lv e6 e7 gt @N8.{0} @Oa.{0} @Ol))) ?_;refine aw.nil ?_;refine hQ _ _ ⟨?_,?_,?_,⟨m6,?_,PL,?_,OL _⟩,⟨?_,?_⟩,?_⟩ (aM.of (aY ?_) (OLe.bZ _) (λ_ h=>h) (N4 _) (N4 _))
  ·simp only[upd]
   (repeat rw[Ob ae])
   exact g0
  ·simp[upd,x1',n1x,w1,iG]
  ·simp only[upd]
   (repeat rw[Ob ae])
   exact g2
  ·simp[upd,vss,cz]
  ·omega
  ·refine QG _ (Pe.2 ⟨gt2,?_⟩);have:t2≠tk:=λe=>gne e.symm;simpa using this
  ·simp only;omega
  ·simp only;omega
  ·exact xSb
 |true=>
  refine Wp.aH (xAd (cj4 n1x n1x' @iG.eq_1 @OM)) ?_;refine aw.nil ?_;refine Wp.cA (xAd (bf n1x n1x' gx w1 w1' wx wx' x1 x1' nxn nxn' (cj7 lv e6 e7 gt @N8.{0} @Oa.{0} @Ol))) ?_;refine aw.nil ?_;refine hQ _ _ ⟨?_,?_,?_,⟨m6,?_,PL,?_,OL _⟩,⟨?_,?_⟩,?_⟩ (aM.of (aY ?_) (OLe.bZ _) (λ_ h=>h) (N4 _) (N4 _))
  ·simp only[upd]
   (repeat rw[Ob ae])
   exact g0
  ·simp[upd,x1',n1x,w1,iG]
  ·simp only[upd]
   (repeat rw[Ob ae])
   exact g2
  ·simp[upd,vss,cz]
  ·omega
  ·refine QG _ (Pe.2 ⟨gt2,?_⟩);have:t2≠tk:=λe=>gne e.symm;simpa using this
  ·simp only;omega
  ·simp only;omega
  ·exact xSb
theorem RdX.go{B:List UInt8}{o2:Av.Obj}{nx:Nat}(hx:2<nx){nm:List UInt8}{st:Int}{l:List Vs}{a:Nat}{ok:Bool}{t2:Nat}{F:Nat->Option Av.Obj}{n:Nat}{K:List Nat}{m:Nat}(I:RdX B o2 nx nm st l a ok t2 ⟨F,n,K,m⟩){m':Nat}(hm:m<=m')(a':Nat)(ok':Bool):
  RdX B o2 nx nm st l a' ok' t2 ⟨upd F 1 (some (iG B a' ok')),n,K,m'⟩:=by
 obtain ⟨g0,g1,g2,⟨tk,gx,gt,gne,gtm⟩,⟨gt2,gt2m⟩,gn⟩:=I;refine ⟨?_,by simp only[upd,Of],?_,⟨tk,?_,gt,gne,OT gtm hm⟩,⟨gt2,OT gt2m hm⟩,gn⟩
 ·simp only[upd];rw[Ob ae];exact g0
 ·simp only[upd];rw[Ob ae];exact g2
 ·simp only[upd];rw[Ob ae];exact gx
set_option maxHeartbeats 4000000 in
theorem Hn{B:List UInt8}(hB:B.length<=10000000){a:Nat}{ok:Bool}(ha:a<=B.length){o2:Av.Obj}{nx:Nat}(hx:2<nx){nm:List UInt8}{st:Int}{t2:Nat}{h:H}(I:RdX B o2 nx nm st [] a ok t2 h){v5:List UInt8}{v7:Int}{Q:aO->St->Prop}
  (hQ:∀(s':St)(h':H),RdX B o2 nx nm st (vsD B (nuD B a ok 4).toNat [] (atD B a ok 4) (okD B a ok 4)).1 (vsD B (nuD B a ok 4).toNat [] (atD B a ok 4) (okD B a ok 4)).2.1 (vsD B (nuD B a ok 4).toNat [] (atD B a ok 4) (okD B a ok 4)).2.2 t2 h'->
   aM s' ⟨tm [(0,.str B),(2,.ptr 0 0),(4,.ptr 1 0),(5,.str v5),(6,.ptr 2 0),(7,.int .i64 v7),(8,.ptr nx 0)],h'⟩->Q .normal s'):
  Wp Tryz.prog 116 qy ⟨tm [(0,.str B),(2,.ptr 0 0),(4,.ptr 1 0),(5,.str v5),(6,.ptr 2 0),(7,.int .i64 v7),(8,.ptr nx 0)],h⟩ Q:=by
 obtain ⟨F,n,K,m⟩:=h;have g1:=I.o1;simp only at g1;have W:=λ(l:List Vs) (a:Nat) (ha:a<=B.length) (hl:l.length<4294967295) (h:H) (I:RdX B o2 nx nm st l a true t2 h) (v9:Int) (Q:aO->St->Prop) hQ=>JA hB ha hx hl I (v5:=v5) (v7:=v7) (v9:=v9) (Q:=Q) hQ;have cut:qy= .seq (hdA qy) (.block 2 (.loop (.seq (hdA Hm) (.seq (.block 3 Jz) (tlA (tlA Hm)))))):=rfl;rw[cut];generalize Jz=Y at*
 unfold Hm qy mC AR iq c19 zz;simp only[tlA,hdA,lpA,blA];have hl4:((4:Nat):Int)=4:=rfl;obtain ⟨e1,b1,-⟩:=pc (B:=B) (a:=a) (ok:=ok) (k:=4) aq;have c1:=nX B hB a 4 ok ha aq;rw[e1,hl4] at c1;have h1:=dH (ok:=ok) (k:=4) ha;generalize (nuD B a ok 4).toNat=k0 at*
 generalize atD B a ok 4=a1 at*
 generalize okD B a ok 4=k1 at*
 refine Wp.aH xAc ?_;refine aw.cV xA2 xAb (g1) (c1) λm1 hm1=>?_;simp only at hm1;refine aw.evF xAc ?_;refine aw.nil ?_;refine Wp.block ?_;have I1:=I.go hx hm1 a1 k1;generalize hR:vsD B k0 [] a1 k1=R at*
 refine Wp.cO [0,2,4,5,6,7,8] xA7 (λj:Nat × List Vs × Nat × Bool × H=>[(9,.int .i64 (j.1:Nat))]) (λj=>j.2.2.2.2) (λj=>RdX B o2 nx nm st j.2.1 j.2.2.1 j.2.2.2.1 t2 j.2.2.2.2/\vsD B j.1 j.2.1 j.2.2.1 j.2.2.2.1=R/\j.2.2.1<=B.length/\j.2.1.length+j.1<=4294967295) (λj=>j.1) (k0,[],a1,k1,⟨upd F 1 (some (iG B a1 k1)),n,K,m1⟩) ⟨I1,hR,h1,by simpa using b1⟩ rfl ?_ ?_
 ·exact xSb
 rintro ⟨j,l,a2,k2,h2⟩ ⟨J,hv,ha2,hl⟩;simp only at J hv ha2 hl;have g2:=J.o1;have fin:∀{t:Tm},vsD B j l a2 k2=(l,a2,k2)->aQ t [(0,.str B),(2,.ptr 0 0),(4,.ptr 1 0),(5,.str v5),(6,.ptr 2 0),(7,.int .i64 v7),(8,.ptr nx 0)]->Q .normal ⟨t,h2⟩:=λe ht=>by
  rw[e] at hv;rw[<-hv] at hQ;refine hQ _ h2 J (aM.of (aY ht) (OLe.bZ _) (λ_ h=>h) (N4 _) (N4 _))
 cases j with
 |zero=>
  have d1:decide ((0:Int)<((0:Nat):Int))=false:=rfl;refine Wp.seq (Wp.seq ?_);refine Wp.cA (xAd d1) ?_;refine aw.nil ?_;refine Wp.cond_false (by simp only[go_sem,reduceIte,Nat.reduceEqDiff,Nat.reduceAdd,bx,d1]) ?_;refine Wp.exit ?_;refine fin rfl ?_;exact xSb
 |succ j=>
  have d1:decide ((0:Int)<((j+1:Nat):Int))=true:=N9 ae;cases k2 with
  |false=>
   refine Wp.seq (Wp.seq ?_);refine Wp.cA (xAd (cj3 d1 g2 @iG.eq_1)) ?_;refine aw.nil ?_;refine Wp.cond_false (by simp only[go_sem,reduceIte,Nat.reduceEqDiff,Nat.reduceAdd,bx,d1]) ?_;refine Wp.exit ?_;refine fin rfl ?_;exact xSb
  |true=>
   refine Wp.seq (Wp.seq ?_);refine Wp.cA (xAd (cj3 d1 g2 @iG.eq_1)) ?_;refine aw.nil ?_;refine Wp.cond_true (by simp only[go_sem,reduceIte,Nat.reduceEqDiff,Nat.reduceAdd,bx,d1]) ?_;refine Wp.skip ?_;refine Wp.seq (Wp.block ?_);refine Wp.le (aM.of (t':=tm [(0,.str B),(2,.ptr 0 0),(4,.ptr 1 0),(5,.str v5),(6,.ptr 2 0),(7,.int .i64 v7),(8,.ptr nx 0),(9,.int .i64 ((j+1:Nat):Int))]) (aY ?_) (OLe.bZ _) (λ_ h=>h) (N4 _) (N4 _)) ?_
   ·exact xSb
   refine W l a2 ha2 ae h2 J _ _ λs' h' J' L=>?_;have e1:IntKind.i64.wrap (((j+1:Nat):Int) - 1)=((j:Nat):Int):=by rw[IntWalk.i64_in _ ae];omega
   show Wp Tryz.prog 116 _ s' _;refine Wp.le L ?_;refine Wp.cA (xAd e1) ?_;refine aw.nil ?_;refine ⟨(j,l++[(js B a2 true).1],(js B a2 true).2.1,(js B a2 true).2.2,h'),⟨J',hv,Ci ha2,by simp only[Og,List.length_cons,List.length_nil];omega⟩,OL _,?_⟩;refine aM.of (aY ?_) (OLe.bZ _) (λ_ h=>h) (N4 _) (N4 _);exact xSb
structure RdM(B:List UInt8)(bs:List Bk)(a:Nat)(ok:Bool)(h:H):Prop where
 o0:h.objs 0=some zIm
 o1:h.objs 1=some (iG B a ok)
 o2:∃tk,h.objs 2=some (.cells [.sl 3 (bks bs) (.own tk)])/\tk∈h.toks/\tk<h.m
 n:2<h.n
set_option maxHeartbeats 4000000 in
theorem Ho{B:List UInt8}(hB:B.length<=10000000){a:Nat}(ha:a<=B.length){bs:List Bk}(hl:bs.length<65536){h:H}(I:RdM B bs a true h){v5:List UInt8}{v7:Int}{Q:aO->St->Prop}
  (hQ:∀(s':St)(h':H),RdM B (bs++[(mZ B a true).1]) (mZ B a true).2.1 (mZ B a true).2.2 h'->aM s' ⟨tm [(0,.str B),(2,.ptr 0 0),(4,.ptr 1 0),(5,.str v5),(6,.ptr 2 0),(7,.int .i64 v7)],h'⟩->Q .normal s'):
  Wp Tryz.prog 116 mC ⟨tm [(0,.str B),(2,.ptr 0 0),(4,.ptr 1 0),(5,.str v5),(6,.ptr 2 0),(7,.int .i64 v7)],h⟩ Q:=by
 obtain ⟨F,n,K,m⟩:=h;obtain ⟨g0,g1,⟨t2,g2,gt2,gt2m⟩,gn⟩:=I;simp only at g0 g1 g2 gt2 gt2m gn;have W:=λ(nm:List UInt8) (st:Int) (a:Nat) (ok:Bool) (ha:a<=B.length) (h:H) (I:RdX B (.cells [.sl 3 (bks bs) (.own t2)]) n nm st [] a ok t2 h) (Q:aO->St->Prop) hQ=>Hn hB ha gn I (v5:=v5) (v7:=v7) (Q:=Q) hQ;have cut:mC= .seq (hdA mC) (.seq (hdA (tlA mC)) (.seq qy (tlA (tlA (tlA mC))))):=rfl;rw[cut];generalize qy=V at*
 unfold mC AR iq c19 zz;simp only[tlA,hdA,lpA,blA];have hl1:((1:Nat):Int)=1:=rfl;obtain ⟨vv,hvv⟩:∃x,x=mZ B a true:=⟨_,rfl⟩;rw[<-hvv] at hQ;unfold mZ at hvv;simp only at hvv;obtain ⟨e1,b1,-⟩:=pc (B:=B) (a:=a) (ok:=true) (k:=1) aq;have c1:=nX B hB a 1 true ha aq;rw[e1,hl1] at c1;have h1:=dH (ok:=true) (k:=1) ha;generalize (nuD B a true 1).toNat=n1 at*
 generalize atD B a true 1=a1 at*
 generalize okD B a true 1=k1 at*
 have c2:=pa B hB a1 n1 k1 h1 ae;have h2:=dH (ok:=k1) (k:=n1) h1;generalize txD B a1 k1 n1=o at*
 generalize atD B a1 k1 n1=a2 at*
 generalize okD B a1 k1 n1=k2 at*
 have c3:=nX B hB a2 1 k2 h2 aq;rw[hl1] at c3;have h3:=dH (ok:=k2) (k:=1) h2;generalize nuD B a2 k2 1=st at*
 generalize atD B a2 k2 1=a3 at*
 generalize okD B a2 k2 1=k3 at*
 have n1x:¬(1=n):=by omega
 have n1x':¬(n=1):=by omega
 refine Wp.aH xAc ?_;refine aw.cV xA2 xAb (g1) (c1) λm1 hm1=>?_;refine aw.evF xAc ?_;refine aw.cV xA2 xAb (by simp only[upd,Of]) (c2) λm2 hm2=>?_;simp only at hm1 hm2;refine aw.evF (xAd (cj2 n1x n1x')) ?_;refine aw.nil ?_;simp only[fT];refine Wp.aH (xAd (cj2 n1x n1x')) ?_;refine aw.cV xA2 xAb (by simp only[upd,n1x,Od,Of]) (c3) λm3 hm3=>?_;simp only at hm3;refine aw.evF (xAd (cj2 n1x n1x')) ?_;refine aw.nil ?_;refine Wp.le (aM.tok _ _) ?_;refine Wp.le (s':=⟨tm [(0,.str B),(2,.ptr 0 0),(4,.ptr 1 0),(5,.str v5),(6,.ptr 2 0),(7,.int .i64 v7),(8,.ptr n 0)],⟨upd (upd F 1 (some (iG B a3 k3))) n (some (.cells [.str o,.int .i64 st,.sl 8 (vss []) (.own m3)])),n+1,m3::K,m3+1⟩⟩) (aM.of (aY ?_) (λa u hu=>?_) (λx hx=>hx) (N4 _) (N4 _)) ?_
 ·exact xSb
 ·simp only[upd] at hu |-;by_cases q1:a=n
  ·subst q1;simp only[Of,Om] at hu;subst hu;exact ⟨.cells [.str o,.int .i64 st,.sl 8 [] (.exact 0)],by rw[Oi rfl],aA.cons (ay.refl _) (aA.cons (ay.refl _) (aA.cons (ay.dt rfl) aA.nil))⟩
  ·refine ⟨u,?_,cm.refl _⟩;by_cases q2:a=1
   ·subst q2;simpa [q1] using hu
   ·simpa [q1,q2] using hu
 refine Wp.seq (W o st a3 k3 h3 _ ⟨?_,?_,?_,⟨m3,?_,PL,ae,OL _⟩,⟨QG _ gt2,by simp only;omega⟩,by simp only;omega⟩ _ λs' h' J L=>?_)
 ·simp only[upd]
  (repeat rw[Ob ae])
  exact g0
 ·simp[upd,n1x]
 ·simp only[upd]
  (repeat rw[Ob ae])
  exact g2
 ·simp[upd]
 show Wp Tryz.prog 116 _ s' _;refine Wp.le L ?_;obtain ⟨F',n',K',m'⟩:=h';obtain ⟨j0,j1,j2,⟨tk,jx,jt,jne,jtm⟩,⟨jt2,jt2m⟩,jn⟩:=J;simp only at j0 j1 j2 jx jt jt2 jn jtm jt2m;generalize vsD B (nuD B a3 k3 4).toNat [] (atD B a3 k3 4) (okD B a3 k3 4)=r at*
 subst hvv;simp only at hQ;have r1:¬(1=n):=by omega
 have r2:¬(2=n):=by omega
 have r3:¬(n=2):=by omega
 have lv:=eK bs;have e6:(bs.length+1)*48<=140737488355328:=by omega
 have e7:bs.length+1<4611686018427387904:=by omega
 refine Wp.le (s':=⟨tm [(0,.str B),(2,.ptr 0 0),(4,.ptr 1 0),(5,.str v5),(6,.ptr 2 0),(7,.int .i64 v7),(8,.ptr n 0)],⟨upd F' n (some (.cells [.str o,.int .i64 st,.sl 8 (vss r.1) .any])),n',K',m'⟩⟩) (aM.of (λ_=>ay.refl _) (λa u hu=>?_) (λx hx=>hx) (N4 _) (N4 _)) ?_
 ·simp only[upd] at hu;by_cases q1:a=n
  ·subst q1;simp only[Of,Om] at hu;subst hu;exact ⟨_,jx,aA.cons (ay.refl _) (aA.cons (ay.refl _) (aA.cons ay.cap aA.nil))⟩
  ·rw[Ob q1] at hu;exact ⟨u,hu,cm.refl _⟩
 refine Wp.cA (xAd (fD r1 r2 r3 j2 lv e6 e7 jt2 @N8.{0} @Oa.{0} @Ol)) ?_;refine aw.nil ?_;refine hQ _ _ ⟨?_,?_,⟨m',?_,PL,OL _⟩,by simp only;omega⟩ (aM.of (aY ?_) (OLe.bZ _) (λ_ h=>h) (N4 _) (N4 _))
 ·simp only[upd]
  (repeat rw[Ob ae])
  exact j0
 ·simp only[upd]
  (repeat rw[Ob ae])
  exact j1
 ·simp[upd,bks,eA]
 ·exact xSb
theorem RdM.go{B:List UInt8}{bs:List Bk}{a:Nat}{ok:Bool}{F:Nat->Option Av.Obj}{n:Nat}{K:List Nat}{m:Nat}(I:RdM B bs a ok ⟨F,n,K,m⟩){m':Nat}(hm:m<=m')(a':Nat)(ok':Bool):
  RdM B bs a' ok' ⟨upd F 1 (some (iG B a' ok')),n,K,m'⟩:=by
 obtain ⟨g0,g1,⟨tk,g2,gt,gtm⟩,gn⟩:=I;refine ⟨?_,by simp only[upd,Of],⟨tk,?_,gt,OT gtm hm⟩,gn⟩
 ·simp only[upd];rw[Ob ae];exact g0
 ·simp only[upd];rw[Ob ae];exact g2
theorem NJ{B:List UInt8}(k:Nat)(l:List Bk)(a:Nat):bsD B k l a false=(l,a,false):=by cases k<;>rfl
def pe(B hd:List UInt8)(k:Nat)(l:List Bk)(a:Nat)(ok:Bool):List Bk × Nat × Bool:=if hd=[65,82,67,72] then bsD B k l a ok else (l,a,ok)
set_option maxHeartbeats 4000000 in
theorem Ek{B:List UInt8}(hB:B.length<=10000000){a:Nat}{ok:Bool}(ha:a<=B.length){h:H}(I:RdM B [] a ok h){v5:List UInt8}{Q:aO->St->Prop}
  (hQ:∀(s':St)(h':H),RdM B (pe B v5 (nuD B a ok 2).toNat [] (atD B a ok 2) (okD B a ok 2)).1 (pe B v5 (nuD B a ok 2).toNat [] (atD B a ok 2) (okD B a ok 2)).2.1 (pe B v5 (nuD B a ok 2).toNat [] (atD B a ok 2) (okD B a ok 2)).2.2 h'->
   aM s' ⟨tm [(0,.str B),(2,.ptr 0 0),(4,.ptr 1 0),(6,.ptr 2 0)],h'⟩->Q .normal s'):
  Wp Tryz.prog 116 iq ⟨tm [(0,.str B),(2,.ptr 0 0),(4,.ptr 1 0),(5,.str v5),(6,.ptr 2 0)],h⟩ Q:=by
 obtain ⟨F,n,K,m⟩:=h;have g1:=I.o1;simp only at g1;have W:=λ(l:List Bk) (a:Nat) (ha:a<=B.length) (hl:l.length<65536) (h:H) (I:RdM B l a true h) (v7:Int) (Q:aO->St->Prop) hQ=>Ho hB ha hl I (v5:=v5) (v7:=v7) (Q:=Q) hQ;have cut:iq= .seq (hdA iq) (.block 0 (.loop (.seq (hdA AR) (.seq (.block 1 mC) (tlA (tlA AR)))))):=rfl;rw[cut];generalize mC=Y at*
 unfold AR iq c19 zz;simp only[tlA,hdA,lpA,blA];have hl2:((2:Nat):Int)=2:=rfl;obtain ⟨e1,-,b1⟩:=pc (B:=B) (a:=a) (ok:=ok) (k:=2) aq;have c1:=nX B hB a 2 ok ha aq;rw[e1,hl2] at c1;have b1:=b1 aq;have h1:=dH (ok:=ok) (k:=2) ha;generalize (nuD B a ok 2).toNat=k0 at*
 generalize atD B a ok 2=a1 at*
 generalize okD B a ok 2=k1 at*
 refine Wp.aH xAc ?_;refine aw.cV xA2 xAb (g1) (c1) λm1 hm1=>?_;simp only at hm1;refine aw.evF xAc ?_;refine aw.nil ?_;refine Wp.block ?_;have I1:=I.go hm1 a1 k1;generalize hR:pe B v5 k0 [] a1 k1=R at*
 refine Wp.cO [0,2,4,5,6] xA7 (λj:Nat × List Bk × Nat × Bool × H=>[(7,.int .i64 (j.1:Nat))]) (λj=>j.2.2.2.2) (λj=>RdM B j.2.1 j.2.2.1 j.2.2.2.1 j.2.2.2.2/\pe B v5 j.1 j.2.1 j.2.2.1 j.2.2.2.1=R/\j.2.2.1<=B.length/\j.2.1.length+j.1<=65535) (λj=>j.1) (k0,[],a1,k1,⟨upd F 1 (some (iG B a1 k1)),n,K,m1⟩) ⟨I1,hR,h1,by simpa using b1⟩ rfl ?_ ?_
 ·exact xSb
 rintro ⟨j,l,a2,k2,h2⟩ ⟨J,hv,ha2,hl⟩;simp only at J hv ha2 hl;have g2:=J.o1;have fin:∀{t:Tm},pe B v5 j l a2 k2=(l,a2,k2)->aQ t [(0,.str B),(2,.ptr 0 0),(4,.ptr 1 0),(6,.ptr 2 0)]->Q .normal ⟨t,h2⟩:=λe ht=>by
  rw[e] at hv;rw[<-hv] at hQ;refine hQ _ h2 J (aM.of (aY ht) (OLe.bZ _) (λ_ h=>h) (N4 _) (N4 _))
 cases j with
 |zero=>
  have d1:decide ((0:Int)<((0:Nat):Int))=false:=rfl;refine Wp.seq (Wp.seq ?_);refine Wp.cA (xAd d1) ?_;refine aw.nil ?_;refine Wp.cond_false (by simp only[go_sem,reduceIte,Nat.reduceEqDiff,Nat.reduceAdd,bx,d1]) ?_;refine Wp.exit ?_;refine fin (by unfold pe;split<;>rfl) ?_;exact xSb
 |succ j=>
  have d1:decide ((0:Int)<((j+1:Nat):Int))=true:=N9 ae;cases k2 with
  |false=>
   refine Wp.seq (Wp.seq ?_);refine Wp.cA (xAd (cj3 d1 g2 @iG.eq_1)) ?_;refine aw.nil ?_;refine Wp.cond_false (by simp only[go_sem,reduceIte,Nat.reduceEqDiff,Nat.reduceAdd,bx,d1]) ?_;refine Wp.exit ?_;refine fin (by unfold pe;split;exact NJ _ _ _;rfl) ?_;exact xSb
  |true=>
   by_cases h5:v5=[65,82,67,72]
   case neg=>
    have d5:decide (v5=[65,82,67,72])=false:=N6 h5;refine Wp.seq (Wp.seq ?_);refine Wp.cA (xAd (cj4 d1 g2 @iG.eq_1 d5)) ?_;refine aw.nil ?_;refine Wp.cond_false (by simp only[go_sem,reduceIte,Nat.reduceEqDiff,Nat.reduceAdd,bx,d5]) ?_;refine Wp.exit ?_;refine fin (by unfold pe;rw[Ob h5]) ?_;exact xSb
   have d5:decide (v5=[65,82,67,72])=true:=N9 h5;refine Wp.seq (Wp.seq ?_);refine Wp.cA (xAd (cj4 d1 g2 @iG.eq_1 d5)) ?_;refine aw.nil ?_;refine Wp.cond_true (by simp only[go_sem,reduceIte,Nat.reduceEqDiff,Nat.reduceAdd,bx,d5]) ?_;refine Wp.skip ?_;refine Wp.seq (Wp.block ?_);refine Wp.le (aM.of (t':=tm [(0,.str B),(2,.ptr 0 0),(4,.ptr 1 0),(5,.str v5),(6,.ptr 2 0),(7,.int .i64 ((j+1:Nat):Int))]) (aY ?_) (OLe.bZ _) (λ_ h=>h) (N4 _) (N4 _)) ?_
   ·exact xSb
   refine W l a2 ha2 ae h2 J _ _ λs' h' J' L=>?_;have e1:IntKind.i64.wrap (((j+1:Nat):Int) - 1)=((j:Nat):Int):=by rw[IntWalk.i64_in _ ae];omega
   show Wp Tryz.prog 116 _ s' _;refine Wp.le L ?_;refine Wp.cA (xAd e1) ?_;refine aw.nil ?_;refine ⟨(j,l++[(mZ B a2 true).1],(mZ B a2 true).2.1,(mZ B a2 true).2.2,h'),⟨J',?_,(yz ha2).2,by simp only[Og,List.length_cons,List.length_nil];omega⟩,OL _,?_⟩
   ·rw[<-hv];unfold pe;rw[Oi h5,Oi h5];rfl
   ·refine aM.of (aY ?_) (OLe.bZ _) (λ_ h=>h) (N4 _) (N4 _);exact xSb
set_option maxHeartbeats 4000000 in
theorem JB(B:List UInt8)(hB:B.length<=10000000):aI Tryz.prog 19 [.str B] (nv B):=by
 have hpure:aW (nv B)=true:=by
  unfold nv;split
  ·simp[aW,aJ,bA,cC,Av.bG (λb=>fW b),bks]
  ·rfl
 refine f19.aF ah rfl hpure ?_;have hF:=Hl hB;have hD:=Hh hF;have W:=λ(a:Nat) (ok:Bool) (ha:a<=B.length) (h:H) (I:RdM B [] a ok h) (v5:List UInt8) (Q:aO->St->Prop) hQ=>Ek hB ha I (v5:=v5) (Q:=Q) hQ;have cut:c19= .seq (hdA c19) (.seq (hdA (tlA c19)) (.seq (hdA (tlA (tlA c19))) (.seq (hdA (tlA (tlA (tlA c19)))) (.seq iq (tlA (tlA (tlA (tlA (tlA c19))))))))):=rfl;rw[cut];generalize iq=V at*
 unfold c19 zz;simp only[hdA,tlA];have hl4:((4:Nat):Int)=4:=rfl;have c1:=pa B hB 0 4 true (Ot _) aq;rw[hl4] at c1;have hP:qE B=((pe B (txD B 0 true 4) (nuD B (atD B 0 true 4) (okD B 0 true 4) 2).toNat [] (atD B (atD B 0 true 4) (okD B 0 true 4) 2) (okD B (atD B 0 true 4) (okD B 0 true 4) 2)).1,(pe B (txD B 0 true 4) (nuD B (atD B 0 true 4) (okD B 0 true 4) 2).toNat [] (atD B (atD B 0 true 4) (okD B 0 true 4) 2) (okD B (atD B 0 true 4) (okD B 0 true 4) 2)).2.2):=by
  unfold qE pe;simp only;split<;>rfl
 have h1:=dH (B:=B) (ok:=true) (k:=4) (Ot _);generalize txD B 0 true 4=hd at*
 generalize atD B 0 true 4=a1 at*
 generalize okD B 0 true 4=k1 at*
 refine Wp.aH xAc ?_;refine aw.nil ?_;refine Wp.aH xAc ?_;refine aw.nil ?_;refine Wp.aH xAc ?_;refine aw.cV xA2 xAb (rfl) (c1) λm1 hm1=>?_;refine aw.evF xAc ?_;refine aw.nil ?_;refine Wp.aH xAc ?_;refine aw.nil ?_;refine Wp.le (aM.tok _ _) ?_;refine Wp.le (s':=⟨tm [(0,.str B),(2,.ptr 0 0),(4,.ptr 1 0),(5,.str hd),(6,.ptr 2 0)],⟨upd (upd (upd aB 0 (some zIm)) 1 (some (iG B a1 k1))) 2 (some (.cells [.sl 3 (bks []) (.own m1)])),3,[m1],m1+1⟩⟩) (aM.of (aY ?_) (λa u hu=>?_) (λx hx=>by simpa using hx) (N4 _) (N4 _)) ?_
 ·exact xSb
 ·simp only[upd,aB] at hu |-;by_cases q2:a=2
  ·subst q2;simp only[Of,Om] at hu;subst hu;exact ⟨.cells [.sl 3 [] (.exact 0)],by simp,aA.cons (ay.dt rfl) aA.nil⟩
  ·refine ⟨u,?_,cm.refl _⟩;by_cases q1:a=1
   ·subst q1;simpa using hu
   ·by_cases q0:a=0
    ·subst q0;simpa [zIm] using hu
    ·simp[q0,q1,q2] at hu
 refine Wp.seq (W a1 k1 h1 _ ⟨rfl,rfl,⟨m1,rfl,PL,OL _⟩,OL 2⟩ hd _ λs' h' J L=>?_);show Wp Tryz.prog 116 _ s' _;refine Wp.le L ?_;generalize pe B hd (nuD B a1 k1 2).toNat [] (atD B a1 k1 2) (okD B a1 k1 2)=R at*
 obtain ⟨bs,a2,k2⟩:=R;simp only at hP J;unfold nv;rw[<-hD];unfold Cg;rw[hP];rw[hP] at hF;simp only at hF |-;obtain ⟨F',n',K',m'⟩:=h';obtain ⟨j0,j1,⟨tk,j2,jt,jtm⟩,jn⟩:=J;simp only at j0 j1 j2 jt jtm jn;refine Wp.le (s':=⟨tm [(0,.str B),(2,.ptr 0 0),(4,.ptr 1 0),(6,.ptr 2 0)],⟨upd F' 2 (some (.cells [.sl 3 (bks bs) .any])),n',K',m'⟩⟩) (aM.of (λ_=>ay.refl _) (λa u hu=>?_) (λx hx=>hx) (N4 _) (N4 _)) ?_
 ·simp only[upd] at hu;by_cases q1:a=2
  ·subst q1;simp only[Of,Om] at hu;subst hu;exact ⟨_,j2,aA.cons ay.cap aA.nil⟩
  ·rw[Ob q1] at hu;exact ⟨u,hu,cm.refl _⟩
 have c2:=xG bs hF;unfold cC at c2;unfold zIm at j0;unfold iG at j1;have hno:ay (.tup [.agg [.sl 3 [] (.exact 0)],.int .i64 4]) qC:=ay.tup (aA.cons (ay.agg (aA.cons ay.cap aA.nil)) (aA.cons (ay.refl _) aA.nil));cases k2 with
 |false=>
  rw[Ob ah];refine rf0 (cj3 j0 j1 @OB) ?_;exact Wp.ret ⟨trivial,_,rfl,hno⟩
 |true=>
 cases hm:imB bs with
 |false=>
  have hE:imE bs=4:=by unfold imE;rw[hm];rfl
  rw[hE] at c2;rw[Ob (by rw[hE];simp)];refine rf1 (cj3 j0 j1 @Oy) c2 ?_;exact Wp.ret ⟨trivial,_,rfl,hno⟩
 |true=>
  have hE:imE bs=0:=by unfold imE;rw[hm];rfl
  rw[hE] at c2;have c3:=KG bs hF hm;have hO:gM bs=ec bs++be 4 (jQ (ec bs)):=by unfold gM;rw[Oi hm]
  rw[<-hO] at c3;unfold cC at c3;generalize gM bs=O at*
  by_cases hOB:O=B
  ·have d1:decide (O=B)=true:=N9 hOB;rw[Oi ⟨rfl,hE,hOB⟩];refine rf2 (cj4 j0 j1 @Oy d1) c2 c3 ?_;exact Wp.ret ⟨trivial,_,rfl,ay.refl _⟩
  ·have d1:decide (O=B)=false:=N6 hOB;rw[Ob λh=>hOB h.2.2];refine rf2 (cj4 j0 j1 @Oy d1) c2 c3 ?_;exact Wp.ret ⟨trivial,_,rfl,hno⟩
end Go.Proofs.YtjnoobmaedgooaaGreat.Arch
end
section
set_option maxRecDepth 100000
namespace Go.Proofs.YtjnoobmaedgooaaGreat.Arch
open Go Go.Av Go.Proofs Go.Proofs.YtjnoobmaedgooaaGreat.C Go.Proofs.YtjnoobmaedgooaaGreat.Desk Go.Proofs.YtjnoobmaedgooaaGreat.Batch
def ju(l:List Pr)(b:Bk):Bk:=⟨b.n,b.st,iD l l b.n⟩
theorem AS:gW= .seq (.seq (hdA (hdA gW)) (.block 2 (.loop (.seq (hdA (lpA (blA (tlA (hdA gW))))) (.seq (.block 3 rp) (tlA (tlA (lpA (blA (tlA (hdA gW))))))))))) tf:=rfl
def csI(l:List Pr)(bs:List Bk)(i:Nat):List AV:=(((bs.take i).map (ju l)).map jU).flatten++(bs.drop i).flatMap cell0
theorem El(ms:List Bk):((ms.map jU).flatten).length=ms.length*3:=by
 induction ms with
 |nil=>rfl
 |cons a ms ih=>simp only[OJ,List.flatten_cons,Og,ih,List.length_cons];simp[jU];omega
theorem Lj(l:List Pr)(bs:List Bk)(i:Nat)(h:i<bs.length):csI l bs i=(((bs.take i).map (ju l)).map jU).flatten++ .str (bs.getD i default).n:: .int .i64 (bs.getD i default).st:: .sl 8 [] (.exact 0)::(bs.drop (i+1)).flatMap cell0:=by
 have e:bs.getD i default=bs[i]:=by simp[List.getD,N5 h]
 unfold csI;rw[P7 h,e];rfl
theorem Hp(l:List Pr)(bs:List Bk)(i:Nat)(h:i<bs.length):csI l bs (i+1)=(((bs.take i).map (ju l)).map jU).flatten++ .str (bs.getD i default).n:: .int .i64 (bs.getD i default).st:: .sl 8 (vss (iD l l (bs.getD i default).n)) .any::(bs.drop (i+1)).flatMap cell0:=by
 have e:bs.getD i default=bs[i]:=by simp[List.getD,N5 h]
 unfold csI;rw[OD h,e,Pl,Pl,PN,OX];rfl
theorem JC{N:Nat}{c:AC}{s:St}{f:St->Prop}{Q:aO->St->Prop}(h:∀Q,Wp Tryz.prog N c s (aO.andThen f Q))(hn:∀s',f s'->Q .normal s'):Wp Tryz.prog N c s Q:=
 (h Q).mono λe s' hq=>by
  cases e;all_goals first
   |exact hn _ hq
   |exact hq
theorem Lk(l:List Pr)(hl:l.length<=2000)(hok:∀p∈l,cF p.k=true)(hks:∀p∈l,p.k.length<=140737488355328)(hvs:∀p∈l,p.v.length<=140737488355328)
  (bs:List Bk) (hb:bs.length<=2000) (k n m:Nat) (hn:2<=n) (hk:bs≠[]->2<=k/\k<n) (A:AV)
  (HR:∀n m,Wp Tryz.prog 146 tf ⟨tm [(0,.sl 2 (prs l) .any),(2,.ptr 0 0),(4,.ptr 1 0)],⟨fN (.sl 3 (bks (bs.map (ju l))) .any),n,[],m⟩⟩ (QI A)):
  Wp Tryz.prog 146 gW ⟨tm [(0,.sl 2 (prs l) .any),(2,.ptr 0 0),(4,.ptr 1 0)],⟨mO bs k,n,[],m⟩⟩ (QI A):=by
 rw[AS];have IN:=Hk l hl hok hks hvs;generalize rp=I at*
 generalize tf=T at*
 unfold gW c21 zz;simp only[hdA,tlA,lpA,blA];by_cases ho:bs=[]
 ·subst ho;have h0:mO [] k=fN (.sl 3 [] (.exact 0)):=rfl;rw[h0];unfold fN zIm;refine dI ?_;refine Wp.cO [0,2,4] xA7 (λj:Unit=>[(10,.int .i64 0)]) (λj=>⟨upd (upd aB 0 (some (.cells [.sl 3 [] (.exact 0)]))) 1 (some (.cells [.sl 3 [] (.exact 0)])),n,[],m⟩) (λ_=>True) (λ_=>0) () trivial rfl ?_ ?_
  ·exact xSb
  rintro - -
  have d0:decide ((0:Int)<(([]:List AV).length:Int))=false:=rfl;refine rf0 (cj2 d0 @Oa.{0}) ?_;show Wp Tryz.prog 146 T _ _;refine Wp.le (aM.of (aY ?_) (OLe.upd (OLe.bZ _) (show cm (.cells [.sl 3 [] (.exact 0)]) (.cells [.sl 3 (bks (([]:List Bk).map (ju l))) .any]) from aA.cons ay.cap aA.nil)) (λx hx=>hx) (N4 _) (N4 _)) (HR n m);exact xSb
 ·obtain ⟨k1,k2⟩:=hk ho;have h0:mO bs k=qF k bs.length (csI l bs 0):=by
   unfold mO qF mV csI;rw[Ob ho,Ob ho];simp
  rw[h0];unfold qF fN;refine dI ?_;refine Wp.cO [0,2,4] xA7 (λj:Nat × Nat × Nat=>[(10,.int .i64 (j.1:Nat))]) (λj=>⟨qF k bs.length (csI l bs j.1),j.2.1,[],j.2.2⟩) (λj=>j.1<=bs.length/\n<=j.2.1) (λj=>bs.length - j.1) (0,n,m) ⟨Ot _,N4 _⟩ rfl ?_ ?_
  ·exact xSb
  rintro ⟨i,n1,m1⟩ ⟨hi,hn1⟩;simp only at hi hn1;have y1:¬(1=k):=by omega
  by_cases hc:i<bs.length
  ·have g1:decide ((i:Int)<((bs.length:Nat):Int))=true:=N9 ae;have e1:IntKind.i64.wrap ((i:Int)+1)=((i+1:Nat):Int):=by rw[IntWalk.i64_in _ ae];omega
   rw[Lj l bs i hc];have hnx:=Hp l bs i hc;have hAl:(((bs.take i).map (ju l)).map jU).flatten.length=i*3:=by rw[El];simp;omega
   generalize (((bs.take i).map (ju l)).map jU).flatten=AA at*
   generalize (bs.drop (i+1)).flatMap cell0=BB at*
   have W:=λQ=>IN i k bs.length AA BB hAl (bs.getD i default).n (bs.getD i default).st hc hb k1 n1 m1 ae Q;unfold qF fN;refine rf0 (cj2 g1 y1) ?_;refine Wp.le (s':=⟨tm [(0,.sl 2 (prs l) .any),(2,.ptr 0 0),(4,.ptr 1 0),(10,.int .i64 i)],⟨qF k bs.length (AA++ .str (bs.getD i default).n:: .int .i64 (bs.getD i default).st:: .sl 8 [] (.exact 0)::BB),n1,[],m1⟩⟩) (aM.of (aY ?_) (OLe.bZ _) (λx hx=>hx) (N4 _) (N4 _)) ?_
   ·exact xSb
   refine JC W ?_;rintro s' ⟨n',m',hn',hle⟩;show Wp Tryz.prog 146 _ s' _;refine Wp.le hle ?_;refine rf0 e1 ?_;refine ⟨(i+1,n',m'),⟨by simp only;omega,by simp only;omega⟩,by simp only;omega,?_⟩;simp only;rw[hnx];refine aM.of (aY ?_) (OLe.bZ _) (λx hx=>hx) (N4 _) (N4 _);exact xSb
  ·have hi2:i=bs.length:=by omega
   subst hi2;have g1:decide (((bs.length:Nat):Int)<((bs.length:Nat):Int))=false:=N6 ae;unfold qF fN;refine rf0 (cj2 g1 y1) ?_;show Wp Tryz.prog 146 T _ _;have hcs:csI l bs bs.length=((bs.map (ju l)).map jU).flatten:=by
    unfold csI;rw[OG,Pg (N4 _)];simp
   have hrl:((bs.map (ju l)).map jU).length=bs.length:=by simp
   have hr3:∀x∈(bs.map (ju l)).map jU,x.length=3:=λx hx=>by
    obtain ⟨b,-,rfl⟩:=OC.1 hx;rfl
   have hrb:=yr (bs.map (ju l));rw[hcs];refine Wp.le (aM.NO _ _ k 1 (rows:=(bs.map (ju l)).map jU) (sz:=3) (c:=none) hr3 ae (by simp only[upd,Of]) (by rw[hrl];simp only[upd,y1,Od,Of])) ?_;refine Wp.le (aM.of (aY ?_) (λa u hu=>⟨u,?_,cm.refl _⟩) (λx hx=>hx) (N4 _) (N4 _)) (HR n1 m1)
   ·have k0:¬(0=k):=by omega
    simp only[aQ,go_sem,reduceIte,Nat.reduceEqDiff,Nat.reduceAdd,bx,unT,Ov,k0,y1];and_intros<;>first|exact trivial|exact ay.refl _|exact ay.any _|exact ay.refl _|(refine ay.int ?_;omega)
   ·rw[<-hrb] at hu;simp only[upd,fN,aB,zIm,H.drop] at hu |-;by_cases a1:a=1
    ·subst a1;simpa using hu
    ·by_cases a0:a=0
     ·subst a0;simp[show ¬(0=k) by omega] at hu |-;exact hu
     ·simp[a1,a0] at hu
def kH(l:List Pr):List Bk:=(bk1 l).map (ju l)
def tp(l:List Pr):AV:=if l.all (λp=>cF p.k)=true then yt l (kH l) else qC
theorem Em(l:List Pr)(m:List Bk):aW (yt l m)=true:=by
 have hn:aW qC=true:=rfl;have he:aW (.tup [cC m,.int .i64 0])=true:=by simp[aW,aJ,dR]
 unfold yt;by_cases hc:(decide (imE m=0)&&decide ((if imB m=true then aP (aZ m) else [])=l))=true
 ·rw[Oi hc];exact he
 ·rw[Ob hc];exact hn
theorem Hq(l:List Pr)(hl:l.length<=2000)(hks:∀p∈l,p.k.length<=140737488355328)(hvs:∀p∈l,p.v.length<=140737488355328)(hT:imB (kH l)=true->(aZ (kH l)).length<=100000):
  aI Tryz.prog 21 [.sl 2 (prs l) .any] (tp l):=by
 have hp:aW (tp l)=true:=by
  unfold tp;split
  ·exact Em _ _
  ·exact (rfl:aW qC=true)
 refine f21.vi ah (by simp[aJ,aW,bA,dX]) hp ?_;refine K4 l hl hks (tp l) (λh=>?_) (λh k n m hn hk=>?_)
 ·unfold tp;rw[Ob (by rw[h];simp)];exact ay.refl _
 ·have hok:∀p∈l,cF p.k=true:=OK.1 h;have hR:tp l=yt l (kH l):=by unfold tp;rw[Oi h]
  rw[hR];have hf:Few (kH l):=λb hb=>by
   obtain ⟨b0,-,rfl⟩:=OC.1 hb;show (iD l l b0.n).length<=1000000;unfold iD;rw[PF];have:=List.length_filter_le (isV b0.n) l;omega
  exact Lk l hl hok hks hvs (bk1 l) (OI (AI l) hl) k n m hn hk _ (λn m=>K5 l hl (kH l) hf hT n m)
theorem yA{nm:List UInt8}{p:Pr}(h:isV nm p=true):(bc p.k).b=nm:=by
 unfold isV at h;simp only[Oh,Ov] at h;exact h.2
theorem tq{α:Type}:∀l:List α,(l.map λ_=>0).sum=0
 |[]=>rfl
 |_::l=>by simp only[OJ,List.sum_cons,tq l]
theorem yB(p:Pr):∀ns:List (List UInt8),ns.Pairwise (· ≠ ·)->(ns.map λnm=>if isV nm p=true then 1 else 0).sum<=1
 |[],_=>by simp
 |nm::ns,h=>by
  obtain ⟨h1,h2⟩:=PA.1 h;have ih:=yB p ns h2;simp only[OJ,List.sum_cons];by_cases hv:isV nm p=true
  ·have hz:(ns.map λnm=>if isV nm p=true then 1 else 0)=ns.map λ_=>0:=Pb λx hx=>by
    rw[Ob];intro hx2;exact h1 x hx ((yA hv).symm.trans (yA hx2))
   rw[hz,Oi hv,tq];exact N4 _
  ·rw[Ob hv];omega
theorem uT:∀(l:List Pr)(ns:List (List UInt8)),ns.Pairwise (· ≠ ·)->(ns.map λnm=>(l.filter (isV nm)).length).sum<=l.length
 |[],ns,_=>by
  have e:(ns.map λnm=>(([]:List Pr).filter (isV nm)).length)=ns.map λ_=>0:=rfl;rw[e,tq];exact Ot _
 |p::l,ns,h=>by
  have ih:=uT l ns h;have h1:=yB p ns h;have e:(ns.map λnm=>((p::l).filter (isV nm)).length)=ns.map λnm=>(if isV nm p=true then 1 else 0)+(l.filter (isV nm)).length:=Pb λx hx=>by
   rw[List.filter_cons];split
   ·simp;omega
   ·simp
  have sp:∀ns:List (List UInt8),(ns.map λnm=>(if isV nm p=true then 1 else 0)+(l.filter (isV nm)).length).sum=(ns.map λnm=>if isV nm p=true then 1 else 0).sum+(ns.map λnm=>(l.filter (isV nm)).length).sum:=by
   intro ns;induction ns with
   |nil=>rfl
   |cons a ns ih=>simp only[OJ,List.sum_cons,ih];omega
  rw[e,sp,List.length_cons];omega
theorem Hr(l:List Pr)(hl:l.length<=2000)(h:imB (kH l)=true):(aZ (kH l)).length<=100000:=by
 have hn:((kH l).map Bk.n).Pairwise (· ≠ ·):=PX.2 (List.Pairwise.imp (λ{a b} hlt=>jG hlt) (jj h));have hcount:((kH l).map λb=>b.l.length).sum<=l.length:=by
  have:=uT l _ hn;rw[Qr] at this;have e:((kH l).map λb=>b.l.length)=(kH l).map ((λnm=>(l.filter (isV nm)).length) ∘ Bk.n):=by
   unfold kH;rw[Qr,Qr];exact Pb λb _=>by simp[ju,iD,Function.comp]
  rw[e];exact this
 have hm:(kH l).length<=2000:=by
  unfold kH;rw[PF];exact OI (AI l) hl
 have key:∀b∈kH l,(gD b).length<=1+17*b.l.length:=λb hx=>by
  have ho:=jJ h hx;have e:(gD b).length=1+((b.l.map (cW b.n)).flatten).length:=by
   unfold gD cw;rw[PF,List.flatten_cons,Og];rfl
  rw[e];have hv:∀l:List Vs,(∀v∈l,v.okV=true)->((l.map (cW b.n)).flatten).length<=17*l.length:=by
   intro l;induction l with
   |nil=>intro _;simp
   |cons v l ih=>
    intro hv;have h1:=ih λu hu=>hv u (by simp[hu]);have h2:=lu (oW (hv v ah)).2;have h3:(cW b.n v).length=dG v.b+1:=by simp[cW]
    simp only[OJ,List.flatten_cons,Og,List.length_cons,h3];omega
  have:=hv b.l λv hv=>qw ho hv;omega
 have all:∀m:List Bk,(∀b∈m,(gD b).length<=1+17*b.l.length)->(aZ m).length<=m.length+17*(m.map λb=>b.l.length).sum:=by
  intro m;induction m with
  |nil=>intro _;simp[aZ]
  |cons b m ih=>
   intro hb;have h1:=ih λu hu=>hb u (by simp[hu]);have h2:=hb b ah;unfold aZ at*
   simp only[OJ,List.flatten_cons,Og,List.length_cons,List.sum_cons];omega
 have:=all _ key;omega
theorem AT(l:List Pr)(hl:l.length<=2000)(hks:∀p∈l,p.k.length<=140737488355328)(hvs:∀p∈l,p.v.length<=140737488355328):
  aI Tryz.prog 21 [.sl 2 (prs l) .any] (tp l):=Hq l hl hks hvs (Hr l hl)
section
variable{m:List Bk}(h:imB m=true)
include h
omit h in
theorem JD{p:Pr}(hp:p∈aP (aZ m)):pA (aP (aZ m)) p.k=0/\sk (aP (aZ m)) p.k=p.v:=by
 have hpw:(aP (aZ m)).Pairwise λa b=>a.k≠b.k:=(iz (aZ m)).imp λhl=>jG hl;unfold pA sk;cases hf:(aP (aZ m)).find? (mW p.k) with
 |none=>
  have:=List.find?_eq_none.1 hf p hp;simp[mW] at this
 |some q=>
  have h1:q.k=p.k:=by simpa [mW] using List.find?_some hf
  have h2:=wh (f:=Pr.k) hpw q (List.mem_of_find?_eq_some hf) p hp h1;rw[h2];exact ⟨rfl,rfl⟩
omit h in
theorem get_none{l:List Pr}{k:List UInt8}(hk:∀p∈l,p.k≠k):pA l k=7:=by
 unfold pA;cases hf:l.find? (mW k) with
 |none=>rfl
 |some q=>
  have h1:q.k=k:=by simpa [mW] using List.find?_some hf
  exact absurd h1 (hk q (List.mem_of_find?_eq_some hf))
theorem J7{b:Bk}(hb:b∈m){v:Vs}(hv:v∈b.l){k:Nat}(hk:k<=16):(kyC b.n v k).ok:=by
 have q:=tD h hb hv;refine ⟨by show (1:Int)<=3/\(3:Int)<=6;decide,rfl,λn hn=>?_,λe=>absurd e (by show ¬(3:Int)=1;decide),q.b,λ_=>q.o (by show ¬(2:Int)=1;decide)⟩;have hn:n=v.id\/n=(k:Int):=by simpa [kyC] using hn
 rcases hn with rfl|rfl
 ·exact q.r v.id (by simp[kyV])
 ·omega
theorem NK{b:Bk}(hb:b∈m){v:Vs}(hv:v∈b.l):dG v.b<=16:=by
 have q:v.okV=true:=qw (jJ h hb) hv;have r:=AB q;have e:(v.b.length:Int)=v.sz:=by
  simp only[Vs.okV,Vs.fit,Oh,Ov] at q;exact q.2.1.2
 simp only[cX,Oh,Ov] at r;exact lu ae
theorem uU{b:Bk}(hb:b∈m){v:Vs}(hv:v∈b.l):∀(n k:Nat),n+k=16->k<=dG v.b->mv (aP (aZ m)) b.n v.o v.id n k (v.b.take (160*k))=v.b
 |0,k,e,hk=>by
  have:=NK h hb hv;unfold mv;rw[O8];unfold dG at*
  omega
 |n+1,k,e,hk=>by
  unfold mv;have hS:dB ⟨3,b.n,v.o,[v.id,(k:Int)]⟩=cU (kyC b.n v k):=ik (J7 h hb hv ae);rw[hS];by_cases hc:k<dG v.b
  ·have hm:=(il h ⟨cU (kyC b.n v k),chunk v.b k⟩).2 (.inr (.inr ⟨b,hb,v,hv,k,hc,rfl⟩));obtain ⟨g1,g2⟩:=JD hm;rw[Oi g1,g2];have ht:v.b.take (160*k)++chunk v.b k=v.b.take (160*(k+1)):=by
    rw[<-jL v.b k,<-jL v.b (k+1),List.range_succ,Pl,PN];simp
   show mv _ _ _ _ n (k+1) (v.b.take (160*k)++chunk v.b k)=_;rw[ht];exact uU hb hv n (k+1) ae hc
  ·have g:pA (aP (aZ m)) (cU (kyC b.n v k))=7:=get_none λp hp e=>by
    have hpo:=(eU (J7 h hb hv (show k<=16 by omega))).2;rcases (il h p).1 hp with ⟨c,hc',rfl⟩|⟨c,hc',u,hu,rfl⟩|⟨c,hc',u,hu,j,hj,rfl⟩
    ·have:=pB h hc';simp only at e;rw[e,hpo] at this;simp[kyC,kyB] at this
    ·have:=pV h hc' hu;simp only at e;rw[e,hpo] at this;simp[kyC,kyV] at this
    ·have:=pC h hc' hu hj;simp only at e;rw[e,hpo] at this;simp[kyC] at this;obtain ⟨e1,e2,e3,e4⟩:=this;obtain rfl:=sZ h hb hc' e1;obtain rfl:=B0 h hb hv hu e2 e3;omega
   rw[Ob (by rw[g];decide),O8];unfold dG at hc hk;omega
theorem En{b:Bk}(hb:b∈m){v:Vs}(hv:v∈b.l):o5 (aP (aZ m)) b.n v.o v.id=v.b:=by
 have:=uU h hb hv 16 0 rfl (Ot _);simpa [o5] using this
theorem JE{b:Bk}(hb:b∈m):iD (aP (aZ m)) (aP (aZ m)) b.n=b.l:=by
 unfold iD;have e:(aP (aZ m)).filter (isV b.n)=VP b:=Ni h hb;rw[e];unfold VP;rw[Qr]
 conv=>rhs;rw[<-List.map_id b.l]
 refine Pb λv hv=>?_;simp only[Function.comp,id];unfold Hi;have hh:=(ly (qw (jJ h hb) hv)).2;simp only[pV h hb hv,hh];show (⟨v.o,v.id,v.sz,v.re,v.im,v.g,v.u,o5 (aP (aZ m)) b.n v.o v.id⟩:Vs)=v;rw[En h hb hv]
theorem Eo:kH (aP (aZ m))=m:=by
 unfold kH bk1;have e:(aP (aZ m)).filter GV=BP m:=JY h;rw[e];unfold BP;rw[Qr,Qr]
 conv=>rhs;rw[<-List.map_id m]
 refine Pb λb hb=>?_;simp only[Function.comp,id];unfold ju Jh;simp only[pB h hb];have hs:=(B2 (GD (jJ h hb))).1;rw[hs];show (⟨b.n,b.st,iD (aP (aZ m)) (aP (aZ m)) b.n⟩:Bk)=b;rw[JE h hb]
theorem Ep:(aP (aZ m)).all (λp=>cF p.k)=true:=by
 rw[OK];intro p hp;rcases (il h p).1 hp with ⟨c,hc,rfl⟩|⟨c,hc,u,hu,rfl⟩|⟨c,hc,u,hu,j,hj,rfl⟩
 ·exact (eU (Ay h hc)).1
 ·exact (eU (tD h hc hu)).1
 ·exact (eU (wj h hc hu hj)).1
end
theorem Hs(L:List Pr):qD L=tp L:=by
 by_cases hk:gN L=true
 ·have hk':=hk;unfold gN at hk';cases hr:kG L L.length with
  |none=>rw[hr] at hk';cases hk'
  |some S=>
   rw[hr] at hk';simp only[Oh,Ov] at hk';obtain ⟨h1,h2,h3⟩:=hk';have hB:imB S.1=true:=by
    cases hb:imB S.1 with
    |true=>rfl
    |false=>unfold imE at h2;rw[hb] at h2;simp at h2
   rw[Oi hB] at h3;have hS:mY L=S.1:=by unfold mY;rw[hr]
   have hM:=Eo hB;have hA:=Ep hB;rw[h3] at hM hA;unfold qD tp yt;rw[Oi hk,hS,Oi hA,hM,Oi (by rw[Oi hB,h3,h2];simp)]
 ·unfold qD;rw[Ob hk];unfold tp;by_cases hA:L.all (λp=>cF p.k)=true
  ·rw[Oi hA];unfold yt;rw[Ob];intro hc;simp only[Oh,Ov] at hc;obtain ⟨c1,c2⟩:=hc;have hB:imB (kH L)=true:=by
    cases hb:imB (kH L) with
    |true=>rfl
    |false=>unfold imE at c1;rw[hb] at c1;simp at c1
   rw[Oi hB] at c2;have hr:=D7 hB;rw[c2] at hr;apply hk;unfold gN;rw[hr];simp[c1,hB,c2]
  ·rw[Ob hA]
theorem yC{A:AV}(h:A=qC\/∃m:List Bk,A= .tup [cC m,.int .i64 0]/\m.length<=35184372088832/\∀b∈m,b.l.length<=35184372088832):
  ∃(x:List AV)(e:Int),A= .tup [.agg [.sl 3 x .any],.int .i64 e]/\aI Tryz.prog 22 [.agg [.sl 3 x .any],.agg [.sl 3 x .any]] (.bool true):=by
 rcases h with rfl|⟨m,rfl,h1,h2⟩
 ·exact ⟨[],4,rfl,xH [] ah ah⟩
 ·exact ⟨bks m,0,rfl,xH m h1 h2⟩
set_option maxHeartbeats 4000000 in
theorem AU(B:List UInt8)(L:List Pr)(hks:∀p∈L,p.k.length<=140737488355328)(hvs:∀p∈L,p.v.length<=140737488355328):
  aI Tryz.prog 4 [.sl 1 (aD B) .any,.sl 2 (prs L) .any] (.bool true):=by
 refine f4.aF ah (by simp[aJ,aW,bA,dX,nG]) rfl ?_;unfold c4 zz;have lb:=bm B;have lp:=ba L;by_cases hB:B.length<=100000
 case neg=>
  have d1:decide ((100000:Int)<(B.length:Int))=true:=N9 ae;refine rn1 (cj2 lb d1) p7 ?_;refine aG ?_;exact ay.refl _
 have d1:decide ((100000:Int)<(B.length:Int))=false:=N6 ae;by_cases hL:L.length<=100
 case neg=>
  have d2:decide ((100:Int)<(L.length:Int))=true:=N9 ae;refine rn1 (cj4 lb lp d1 d2) p7 ?_;refine aG ?_;exact ay.refl _
 have d2:decide ((100:Int)<(L.length:Int))=false:=N6 ae;have c1:=Js B ae;have c2:=JB B ae;have c3:=Jn L ae hks hvs;have c4:=AT L ae hks hvs;rw[<-Hs] at c4;obtain ⟨x,ex,hx,sx⟩:=yC (A:=nv B) (by
  unfold nv;cases ho:dO B with
  |none=>exact .inl rfl
  |some M=>
   have hf:=Hc ae ho;have hi:=(uQ ho).1;exact .inr ⟨M,rfl,by have:=(sG hi).1;omega,λb hb=>by have:=hf b hb;omega⟩)
 obtain ⟨y,ey,hy,sy⟩:=yC (A:=qD L) (by
  unfold qD;cases ho:gN L with
  |false=>exact .inl ah
  |true=>
   obtain ⟨h1,h2,h3⟩:=Hb ho;refine .inr ⟨mY L,by simp,ae,λb hb=>?_⟩;have:b.l.length<=NB (mY L):=Lg (OC.2 ⟨b,hb,rfl⟩);omega)
 rw[hx] at c1 c2;rw[hy] at c3 c4;have r1:B.length*1<=140737488355328:=by omega
 have r2:B.length<4611686018427387904:=by omega
 have r3:L.length*32<=140737488355328:=by omega
 have r4:L.length<4611686018427387904:=by omega
 refine rn0 (cj4 lb lp d1 d2) ?_;refine Wp.gS (xAd (bf lb lp d1 d2 @Ol r1 r2 r3 r4 @List.nil_append.{0} @Oa.{0} (cj3 @bR @Oz.{0,0} @OE))) ?_;refine az.bO xA2 (by simp only[go_sem,reduceIte,Nat.reduceEqDiff,Nat.reduceAdd,bx,List.map];exact aA.cons ay.cap aA.nil) (c1) ?_;refine az.evR xA1 ?_;refine az.nil ⟨by simp[bg,aN,apart,aU],?_⟩;refine rn1 (bf lb lp d1 d2 @Ol r1 r2 r3 r4 @List.nil_append.{0} @Oa.{0} (cj3 @bR @Oz.{0,0} @OE)) c2 ?_;refine az.bO xA2 (by simp only[go_sem,reduceIte,Nat.reduceEqDiff,Nat.reduceAdd,bx,List.map];exact aA.cons ay.cap aA.nil) (c3) ?_;refine az.evR xA1 ?_;refine az.nil ⟨by simp[bg,aN,apart,aU],?_⟩;refine rn4 (bf lb lp d1 d2 @Ol r1 r2 r3 r4 @List.nil_append.{0} @Oa.{0} (cj3 @bR @Oz.{0,0} @OE)) c4 sx sy p7 ?_;refine aG ?_;exact ay.refl _
theorem p9{b:Nat}(avs:List AV)(h:xi (oI Tryz.prog 9) Tryz.f4.params.toList avs)(_:cQ avs<=b):aI Tryz.prog 4 avs (.bool true):=by
 rw[Tryz.params4] at h;cases h with|cons h1 h=>cases h with|cons h2 h=>
 cases h;obtain ⟨B,rfl,-⟩:=AO h1;obtain ⟨L,rfl,hp⟩:=Hf h2;have er:reachBytes=140737488351232:=rfl;exact AU B L (λp h=>by have:=(hp p h).1;omega) (λp h=>by have:=(hp p h).2;omega)
end Go.Proofs.YtjnoobmaedgooaaGreat.Arch
end
section
namespace Go.Proofs.YtjnoobmaedgooaaGreat.Arch
open Go Go.Av Go.Proofs Go.Proofs.YtjnoobmaedgooaaGreat.C
open Go.ChangeShapes Go.WideShapes Go.ChangeAt Go.RowKit
set_option maxRecDepth 100000 in
theorem na(os:Os)(started:os.Started)(H:Type)(enc:TypeId × Value->H):
  ReturnsInHanded {} Tryz.checked os 4 .any (Rows.archiveReadsSpec.pre6 enc Tryz.prog Tryz.f4 Rows.archiveReadsRow.domain false) (Rows.archiveReadsSpec.post enc Tryz.prog Tryz.f4 false true false false):=by
 refine returnsInHanded_of_change_sized (C:=Tryz.checked) own started (by kernel_rfl) Tryz.func4
  (ChangeSpec.witness6 (enc:=enc) (C:=Tryz.checked) false ⟨#[],#[.slice none 0 0,.slice none 0 0],[]⟩ 8 (by kernel_rfl) (by kernel_rfl) (by kernel_rfl) (by kernel_rfl)) ?_
 intro W base args ds gs before hval hW _ hwt _;exact Dx laid N1 NC full rfl (λl hl=>by match l,hl with|[_,_],_=>rfl) rfl Tryz.underlying4 (by kernel_rfl) (by kernel_rfl) hval hW hwt (λavs h hb=>p9 avs h hb)
theorem qa:(Rows.archiveReadsRow.inPlace == Tryz.pinned.checked.prog.inPlace 4)=true:=by kernel_rfl
theorem qb:(Rows.archiveReadsRow.unfollowed == Tryz.pinned.checked.prog.unfollowed 4)=true:=by kernel_rfl
theorem qc:(Rows.archiveReadsRow.recurses == Tryz.pinned.checked.prog.recurses 4)=true:=by kernel_rfl
theorem qd:(Rows.archiveReadsRow.named == Tryz.pinned.checked.prog.varsNamed 4)=true:=by kernel_rfl
theorem nc:joinedFacts Tryz.pinned.checked.prog 4 Tryz.f4 Rows.archiveReadsSpec Rows.archiveReadsRow=true:=by
 unfold joinedFacts;rw[qa,qb,qc,qd];kernel_rfl
theorem nY:Tryz.pinned.checked.prog.funcNamed Rows.archiveReadsRow.func=some 4:=by kernel_rfl
theorem said_ArchiveReads:Rows.ArchiveReadsSaid:=
 OpenClaim.holds_of_wide 4 Tryz.f4 rfl rfl rfl rfl rfl rfl rfl ⟨rfl,rfl,rfl,rfl,rfl⟩ rfl rfl rfl rfl rfl nY Tryz.func4 nc
  (Ox (by kernel_rfl)) (by unfold Func.isWrapper;first|(rw [Oi (by decide+kernel)];kernel_rfl)|(rw [Ob (by decide+kernel)];exact ⟨rfl,rfl⟩))
  (λos started H enc _=>na os started H enc)
#print axioms said_ArchiveReads
end Go.Proofs.YtjnoobmaedgooaaGreat.Arch
end
