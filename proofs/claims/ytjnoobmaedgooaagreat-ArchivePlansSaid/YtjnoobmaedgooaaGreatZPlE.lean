/- Parts of a proof: a layer of abstract values over the model, the functions' walks, plain laws. -/
import Derived.Test.YtjnoobmaedgooaaGreatZPlD
set_option linter.unusedSimpArgs false
set_option linter.unusedVariables false
section
set_option maxRecDepth 100000
namespace Go.Proofs.YtjnoobmaedgooaaGreat.Arch
open Go Go.Av Go.Proofs Go.Proofs.YtjnoobmaedgooaaGreat.C Go.Proofs.YtjnoobmaedgooaaGreat.Desk Go.Proofs.YtjnoobmaedgooaaGreat.Batch
instance:Inhabited Bk:=⟨⟨[],0,[]⟩⟩
def bks(m:List Bk):List AV:=m.map ff
def bB(m:List Bk):AV:= .agg [.sl 3 (bks m) .any]
theorem eL(l:List Bk):(bks l).length=l.length:=O2 _
theorem ft(l:List Bk)(j:Nat)(d:AV)(h:j<l.length):(bks l).getD j d=ff (l.getD j default):=by
 simp[bks,Ou,N0 h]
theorem Gj(l:List Bk):aF (bks l)=true:=Av.bC (λa=>gd a) l
theorem bW(m:List Bk):aO (bB m)=true:=by simp[bB,aO,aF,aU,Gj]
def Few(m:List Bk):Prop:=∀b∈m,b.l.length<=1000000
theorem Few.at{m:List Bk}(h:Few m)(j:Nat):(m.getD j default).l.length<=1000000:=by
 by_cases hj:j<m.length
 ·rw[Ou,N0 hj];exact h _ (O0 hj)
 ·rw[Ou,Pp aa];exact Og _
def gX(b:Bk):Bool:=decide (bT b.n=0)&&p6 b.st&&cQ b.l
def o8(m:List Bk)(j:Nat):Bool:=gX (m.getD j default)&&(decide (j=0)||Op.bytesLess (m.getD (j - 1) default).n (m.getD j default).n)
def imB(m:List Bk):Bool:=decide (m.length<=65535)&&(List.range m.length).all (o8 m)
def imE(m:List Bk):Int:=if imB m=true then 0 else 4
theorem oi{m:List Bk}{j:Nat}(hj:j<m.length)(h:o8 m j=false):imE m=4:=by
 unfold imE;rw[N7];unfold imB;simp only[Ob,OH,O1,not_and];intro _ hh;rw[hh j hj] at h;cases h
theorem BS{m:List Bk}(hl:m.length<=65535)(h:∀i,i<m.length->o8 m i=true):imE m=0:=by
 unfold imE imB;rw[Of];simp only[Ob,OH,O1,Oj];exact ⟨hl,h⟩
theorem sE{s:List UInt8}(h:bT s=0):s.length<=12:=by
 unfold bT at h;split at h
 ·rename_i h';exact h'.2.1
 ·cases h
set_option maxHeartbeats 8000000 in
theorem xC(m:List Bk)(hf:Few m):aI Tryz.prog 16 [bB m] (.int .i64 (imE m)):=by
 refine f16.aE af (by simp[aF,bW]) rfl ?_;unfold c16 bB zz;have len:=eL m;cases d0:decide ((65535:Int)<(m.length:Int)) with
 |true=>
  have hb:imE m=4:=by
   unfold imE imB;rw[N1 (by have:=Oh d0;omega)];rfl
  rw[hb];refine rn0 (cj2 @len d0) ?_;refine aG ?_;exact av.refl _
 |false=>
 have hl:=Ox d0;refine rn0 (cj2 @len d0) ?_;refine Wp.r5 [1] (by simp only[go_sem,reduceIte,Nat.reduceEqDiff,List.map,len];exact rfl) (λj:Nat=>[(3,.int .i64 j)]) (λj=>j<=m.length/\∀i,i<j->o8 m i=true) (λj=>m.length - j) 0 ⟨Og _,λi h=>by omega⟩ ?_ ?_
 ·exact xSb
 rintro j n hn ⟨hj,hok⟩;have hn':1<=n:=hn;have n0:¬(0=n):=by omega
 have n1:¬(n=0):=by omega
 by_cases hc:j<m.length
 ·have h2:(0:Int)<=(j:Int):=by omega
  have q1:decide ((j:Int)<(m.length:Int))=true:=N3 aa;have h3:(j:Int)<(m.length:Int):=by omega
  have e1:IntKind.i64.wrap ((j:Int)+1)=((j+1:Nat):Int):=by rw[IntWalk.i64_in _ aa];omega
  have gj:=λd=>ft m j d hc;have ga:=λd=>ft m (j - 1) d aa;have hv:=DW (m.getD j default) (hf.at j);have hbk:bkR (m.getD j default)=gX (m.getD j default):=by unfold bkR gX;rw[DX]
  rw[hbk] at hv;have ok1:o8 m j=(gX (m.getD j default)&&(decide (j=0)||Op.bytesLess (m.getD (j - 1) default).n (m.getD j default).n)):=rfl;have hls:gX (m.getD j default)=true->Ls (m.getD j default).n:=by
   intro h;simp only[gX,Ob,Oj] at h;have:=sE h.1.1;unfold Ls;omega
  have hla:0<j->Ls (m.getD (j - 1) default).n:=by
   intro h;have:=hok (j - 1) aa;simp only[o8,gX,Ob,Oj] at this;have:=sE this.1.1.1;unfold Ls;omega
  have next:o8 m j=true->∀i,i<j+1->o8 m i=true:=λh i hi=>by
   rcases Qd.1 hi with h'|rfl
   ·exact hok i h'
   ·exact h
  generalize m.getD j default=v at*
  generalize m.getD (j - 1) default=p at*
  cases c1:gX v with
  |false=>
   have hb:imE m=4:=oi hc (by rw[ok1,c1];rfl);rw[c1] at hv;unfold ff at hv gj ga;rw[hb];refine rn1 (gv @q1 h2 h3 e1 n0 n1 @NZ gj ga @len) hv ?_;refine aG ?_;exact av.refl _
  |true=>
  rw[c1,OP] at ok1;rw[c1] at hv;by_cases hj0:j=0
  ·have g0:decide ((0:Int)<(j:Int))=false:=N1 aa;unfold ff at hv gj ga;refine rn1 (gw @q1 h2 h3 e1 n0 n1 @NZ gj ga @len g0) hv ?_;refine ⟨j+1,n,by show 1<=n;omega,⟨aa,next (by rw[ok1,N3 hj0];rfl)⟩,aa,?_⟩;exact xSu
  ·have g0:decide ((0:Int)<(j:Int))=true:=N3 aa;have ew:IntKind.i64.wrap ((j:Int) - 1)=((j - 1:Nat):Int):=by rw[IntWalk.i64_in _ aa];omega
   have h6:(0:Int)<=((j - 1:Nat):Int):=PL _;have h7:((j - 1:Nat):Int)<(m.length:Int):=by omega
   have hb3:=fB p.n v.n (hla aa) (hls c1);rw[N1 hj0,Qt] at ok1;cases c2:Op.bytesLess p.n v.n with
   |false=>
    have hb:imE m=4:=oi hc (by rw[ok1,c2]);rw[c2] at hb3;unfold ff at hv gj ga;rw[hb];refine rn2 (aY @q1 h2 h3 e1 n0 n1 @NZ gj ga @len g0 (cj3 ew h6 h7)) hv hb3 ?_;refine aG ?_;exact av.refl _
   |true=>
    rw[c2] at hb3;unfold ff at hv gj ga;refine rn2 (aY @q1 h2 h3 e1 n0 n1 @NZ gj ga @len g0 (cj3 ew h6 h7)) hv hb3 ?_;refine ⟨j+1,n,by show 1<=n;omega,⟨aa,next (by rw[ok1,c2])⟩,aa,?_⟩;exact xSu
 ·have hj2:j=m.length:=by omega
  subst hj2;have q1:decide ((m.length:Int)<(m.length:Int))=false:=N1 aa;rw[BS aa hok];refine rn0 (cj2 @q1 @len) ?_;refine aG ?_;exact av.refl _
set_option maxHeartbeats 8000000 in
theorem vw(m:List Bk)(hf:Few m):aI Tryz.prog 15 [bB m] (.int .i64 (imE m)):=by
 refine f15.aE af (by simp[aF,bW]) rfl ?_;unfold c15 bB zz;have len:=eL m;cases d0:decide ((65535:Int)<(m.length:Int)) with
 |true=>
  have hb:imE m=4:=by
   unfold imE imB;rw[N1 (by have:=Oh d0;omega)];rfl
  rw[hb];refine rn0 (cj2 @len d0) ?_;refine aG ?_;exact av.refl _
 |false=>
 have hl:=Ox d0;refine rn0 (cj2 @len d0) ?_;refine Wp.r5 [1,12,13] (by simp only[go_sem,reduceIte,Nat.reduceEqDiff,List.map,len];exact rfl) (λj:Nat=>[(14,.int .i64 j)]) (λj=>j<=m.length/\∀i,i<j->o8 m i=true) (λj=>m.length - j) 0 ⟨Og _,λi h=>by omega⟩ ?_ ?_
 ·exact xSb
 rintro j n hn ⟨hj,hok⟩;have hn':1<=n:=hn;have n0:¬(0=n):=by omega
 have n1:¬(n=0):=by omega
 by_cases hc:j<m.length
 ·have h2:(0:Int)<=(j:Int):=by omega
  have q1:decide ((j:Int)<(m.length:Int))=true:=N3 aa;have h3:(j:Int)<(m.length:Int):=by omega
  have e1:IntKind.i64.wrap ((j:Int)+1)=((j+1:Nat):Int):=by rw[IntWalk.i64_in _ aa];omega
  have gj:=λd=>ft m j d hc;have ga:=λd=>ft m (j - 1) d aa;have hst:=Gh (m.getD j default).l (hf.at j);have hbu:=xn (m.getD j default).n;have hsa:=BJ (m.getD j default).st;have ok1:o8 m j=(gX (m.getD j default)&&(decide (j=0)||Op.bytesLess (m.getD (j - 1) default).n (m.getD j default).n)):=rfl;have next:o8 m j=true->∀i,i<j+1->o8 m i=true:=λh i hi=>by
   rcases Qd.1 hi with h'|rfl
   ·exact hok i h'
   ·exact h
  generalize m.getD j default=v at*
  generalize m.getD (j - 1) default=p at*
  unfold gX at ok1;unfold ff at gj ga;unfold stE at hsa;generalize stS v.st=ss at*
  cases c1:p6 v.st with
  |false=>
   have hb:imE m=4:=oi hc (by rw[ok1,c1];simp);rw[c1,N7 af] at hsa;obtain ⟨z,hz,dz⟩:∃z:Int,z=2/\decide (z=0)=false:=⟨2,rfl,rfl⟩;rw[<-hz] at hsa;rw[hb];clear hz;refine rn1 (gw @q1 h2 h3 e1 n0 n1 @NZ gj ga @len dz) hsa ?_;refine aG ?_;exact av.refl _
  |true=>
  rw[c1,Of rfl] at hsa;cases c2:decide (bT v.n=0) with
  |false=>
   have hb:imE m=4:=oi hc (by rw[ok1,c2];simp);generalize bT v.n=z at*
   rw[hb];refine rn2 (gw @q1 h2 h3 e1 n0 n1 @NZ gj ga @len c2) hsa hbu ?_;refine aG ?_;exact av.refl _
  |true=>
  have hz:=Oh c2;rw[hz] at hbu;rw[c1,c2] at ok1;simp only[OP] at ok1;by_cases hj0:j=0
  ·have g0:decide ((0:Int)<(j:Int))=false:=N1 aa;rw[N3 hj0,Bool.true_or,Bool.and_true] at ok1;cases c3:cQ v.l with
   |false=>
    have hb:imE m=4:=oi hc (by rw[ok1,c3]);rw[c3] at hst;rw[hb];refine rn3 (gw @q1 h2 h3 e1 n0 n1 @NZ gj ga @len g0) hsa hbu hst ?_;refine aG ?_;exact av.refl _
   |true=>
    rw[c3] at hst;refine rn3 (gw @q1 h2 h3 e1 n0 n1 @NZ gj ga @len g0) hsa hbu hst ?_;refine ⟨j+1,n+1,by show 1<=n+1;omega,⟨aa,next (by rw[ok1,c3])⟩,aa,?_⟩;refine aL.tmN aa (OLe.at (by simp[upd,aA,n0,n1])) (by simp only[aR,go_sem,reduceIte,Nat.reduceEqDiff,Nat.reduceAdd,bx,n0,n1];and_intros<;>first|exact trivial|exact av.refl _|exact av.any _|(refine av.int ?_;omega))
  ·have g0:decide ((0:Int)<(j:Int))=true:=N3 aa;have ew:IntKind.i64.wrap ((j:Int) - 1)=((j - 1:Nat):Int):=by rw[IntWalk.i64_in _ aa];omega
   have h6:(0:Int)<=((j - 1:Nat):Int):=PL _;have h7:((j - 1:Nat):Int)<(m.length:Int):=by omega
   rw[N1 hj0,Qt] at ok1;cases c4:Op.bytesLess p.n v.n with
   |false=>
    have hb:imE m=4:=oi hc (by rw[ok1,c4,PS]);rw[hb];refine rn2 (aY @q1 h2 h3 e1 n0 n1 @NZ gj ga @len g0 (cj4 ew h6 h7 c4)) hsa hbu ?_;refine aG ?_;exact av.refl _
   |true=>
    rw[c4,Bool.and_true] at ok1;cases c3:cQ v.l with
    |false=>
     have hb:imE m=4:=oi hc (by rw[ok1,c3]);rw[c3] at hst;rw[hb];refine rn3 (aY @q1 h2 h3 e1 n0 n1 @NZ gj ga @len g0 (cj4 ew h6 h7 c4)) hsa hbu hst ?_;refine aG ?_;exact av.refl _
    |true=>
     rw[c3] at hst;refine rn3 (aY @q1 h2 h3 e1 n0 n1 @NZ gj ga @len g0 (cj4 ew h6 h7 c4)) hsa hbu hst ?_;refine ⟨j+1,n+1,by show 1<=n+1;omega,⟨aa,next (by rw[ok1,c3])⟩,aa,?_⟩;refine aL.tmN aa (OLe.at (by simp[upd,aA,n0,n1])) (by simp only[aR,go_sem,reduceIte,Nat.reduceEqDiff,Nat.reduceAdd,bx,n0,n1];and_intros<;>first|exact trivial|exact av.refl _|exact av.any _|(refine av.int ?_;omega))
 ·have hj2:j=m.length:=by omega
  subst hj2;have q1:decide ((m.length:Int)<(m.length:Int))=false:=N1 aa;rw[BS aa hok];refine rn0 (cj2 @q1 @len) ?_;refine aG ?_;exact av.refl _
theorem BT(s:List UInt8)(hs:s.length<256)(xs:List UInt8)(hx:xs.length<=1099511627775):lh Tryz.prog 39 (λt=>[.sl 1 (aD xs) (.own t),.str s]) (λt=> .sl 1 (aD (xs++be 1 s.length++s)) (.own t)):=by
 intro t n m;suffices h:∃r h',bo Tryz.prog 39 [.sl 1 (aD xs) (.own t),.str s] (.only aA [t] n m) r h'/\∃t' m',m<=m'/\r= .sl 1 (aD (xs++be 1 s.length++s)) (.own t')/\h'= .only aA [t'] n m' by
  obtain ⟨r,h',ha,t',m',hm,rfl,rfl⟩:=h;exact ⟨t',m',hm,ha⟩
 refine f39.eY af ?_;unfold c39 zz;refine Wp.bQ xA1 ah ?_;refine Wp.seqItems xA1 ?_;refine az.dD t ae xA4 ae (zS s.length aa xs aa) λt1 m1 h1=>?_;have e1:(xs++be 1 s.length).length+s.length<=140737488355328:=by rw[N6,aW];omega
 have e2:(xs++be 1 s.length).length+s.length<4611686018427387904:=by omega
 refine az.eval (by simp only[go_sem,reduceIte,Nat.reduceEqDiff,Nat.reduceAdd,bx,OO,e1,e2,Pz,Oe,N9,Ow,OW];exact rfl) ?_;refine az.nil ⟨by trivial,?_⟩;rw[<-lz];refine Wp.ret ⟨trivial,_,rfl,m1,m1+1,by have:m<=m1:=h1;omega,?_,rfl⟩;simp only[go_sem,reduceIte,Nat.reduceEqDiff]
def shB(s:List UInt8):List UInt8:=be 1 s.length++s
theorem lD(s:List UInt8):(shB s).length=s.length+1:=by simp[shB,aW];omega
def uy(v:Vs):List UInt8:=shB v.o++be 8 v.id.toNat++eP v.sz.toNat v.re.toNat v.im.toNat v.g v.u++be 2 v.b.length++v.b
def gY(l:List Vs):List UInt8:=(l.map uy).flatten
def dY(b:Bk):List UInt8:=shB b.n++be 1 b.st.toNat++be 4 b.l.length++gY b.l
def sF(m:List Bk):List UInt8:=[65,82,67,72]++be 2 m.length++(m.map dY).flatten
def xD(m:List Bk):List UInt8:=if imB m=true then sF m++be 4 (DH (sF m)) else []
theorem uz(l:List Vs)(j:Nat)(h:j<l.length):gY (l.take (j+1))=gY (l.take j)++uy (l.getD j default):=by
 have e:l.getD j default=l[j]:=by simp[Ou,N0 h]
 unfold gY;rw[e,Ov h,O3,PG];congr 1;simp
theorem vA{v:Vs}(h:v.okV=true):(uy v).length<=2700/\v.o.length<=32/\v.b.length<=2560:=by
 simp only[Vs.okV,Vs.fit,Ob,Oj] at h;have h1:=vq h.1.1.1;obtain ⟨s,r,i,e1,-,-,hs,-,-⟩:=kD h.2.1.1;have h2:=h.2.1.2;have h3:v.b.length<=2560:=by omega
 refine ⟨?_,h1,h3⟩;simp only[uy,N6,lD,aW,gE];omega
theorem nq{l:List Vs}(h:cQ l=true)(i:Nat)(hi:i<l.length):(l.getD i default).okV=true:=by
 unfold cQ at h;rw[OH] at h;have:=h i (O1.2 hi);simp only[jx,Ob] at this;exact this.1.1
theorem sG{l:List Vs}(h:cQ l=true):∀j,j<=l.length->(gY (l.take j)).length<=2700*j
 |0,_=>by simp[gY]
 |j+1,hj=>by
  rw[uz l j aa,N6];have:=sG h j aa;have:=(vA (nq h j aa)).1;omega
theorem sH(m:List Bk)(j:Nat)(h:j<m.length):((m.take (j+1)).map dY).flatten=((m.take j).map dY).flatten++dY (m.getD j default):=by
 have e:m.getD j default=m[j]:=by simp[Ou,N0 h]
 rw[e,Ov h,O3,PG];congr 1;simp
theorem uA{b:Bk}(h:gX b=true)(hl:b.l.length<=1000000):(dY b).length<=2700000100/\b.n.length<=12/\(∃k:Nat,b.st=k/\k<=2)/\cQ b.l=true:=by
 simp only[gX,Ob,Oj] at h;have h1:=sE h.1.1;have h2:∃k:Nat,b.st=k/\k<=2:=by
  have:=h.1.2;simp[p6] at this;exact ⟨b.st.toNat,aa,aa⟩
 have h3:=sG h.2 b.l.length (NY _);rw[Ot] at h3;refine ⟨?_,h1,h2,h.2⟩;simp only[dY,N6,lD,aW];omega
theorem sI{m:List Bk}(h:imB m=true):m.length<=65535/\∀i,i<m.length->gX (m.getD i default)=true:=by
 unfold imB at h;simp only[Ob,Oj,OH,O1] at h;refine ⟨h.1,λi hi=>?_⟩;have:=h.2 i hi;simp only[o8,Ob] at this;exact this.1
theorem uB{m:List Bk}(h:imB m=true)(hf:Few m):∀j,j<=m.length->((m.take j).map dY).flatten.length<=2700000100*j
 |0,_=>by simp
 |j+1,hj=>by
  rw[sH m j aa,N6];have:=uB h hf j aa;have:=(uA ((sI h).2 j aa) (hf.at j)).1;omega
def p8:AC:=match c11 with| .seq _ (.seq _ r)=>r|_=> .skip
theorem Iu(m:List Bk)(j:Nat):((m.take j).map dY).flatten.length<=((m.map dY).flatten).length:=by
 have h:(m.map dY).flatten=((m.take j).map dY).flatten++((m.drop j).map dY).flatten:=by
  rw[<-PG,<-O3,Po]
 rw[h,N6];omega
set_option maxHeartbeats 8000000 in
theorem Gk(m:List Bk)(hf:Few m)(hs:imB m=true->((m.map dY).flatten).length<=300000000000):aI Tryz.prog 11 [bB m] (.tup [.sl 1 (aD (xD m)) .any,.int .i64 (imE m)]):=by
 have hpu:aF (aD (xD m))=true:=Av.bC (λa=>rfl) _;refine f11.aE af (by simp[aF,bW]) (by simp[aO,aF,aU,hpu]) ?_;unfold c11 zz;have h1:=vw m hf;have len:=eL m;unfold imE xD at*
 cases hm:imB m with
 |false=>
  rw[hm] at h1;simp only[Oa,N5] at h1 |-;unfold bB at*
  refine nA h1 ?_;refine aG ?_;exact av.tup (ay.cons av.cap (ay.refl _))
 |true=>
  rw[hm] at h1;simp only[N9] at h1 |-;unfold bB at*
  obtain ⟨hl,hok⟩:=sI hm;refine Wp.le (aL.tok _ _) ?_;change Wp _ _ (.seq _ (.seq _ p8)) _ _;obtain ⟨T,hT⟩:∃T,T=p8:=⟨_,rfl⟩;rw[<-hT];refine nA h1 ?_;subst hT;unfold p8 c11 zz;dsimp only;refine Wp.seq (Wp.reg ?_);refine az.opV rfl (by simp only[nz,go_sem,List.all_cons,List.all_nil,List.length_cons,List.length_nil,cellsOf,shaped];exact rfl) rfl ?_;refine az.opV rfl (by simp only[nz,go_sem,bq,List.map,Py,List.flatMap_nil,cellsOf,List.length_cons,List.length_nil,ON,List.cons_append,List.nil_append,reduceIte,Nat.reduceEqDiff,Nat.reduceAdd,upd,Oe,Qw];exact rfl) rfl ?_;have c2:=vp m.length aa [65,82,67,72] af;refine az.eval (by simp only[go_sem,reduceIte,Nat.reduceEqDiff,Nat.reduceAdd,bx,len,bq];exact rfl) ?_;refine az.dD 0 ae (by simp only[go_sem,reduceIte,Nat.reduceEqDiff,List.map,len];exact ay.cons (av.dF rfl) (ay.refl _)) ae c2 λt1 m1 _=>?_;refine az.eval xA1 ?_;refine az.nil ⟨by trivial,?_⟩;simp only[aM.andThen];have l1:=aW 2 m.length;refine Wp.le (s':=⟨tm [(1,.ptr 0 0),(5,.sl 1 (aD ([65,82,67,72]++be 2 m.length)) (.own t1))],⟨upd aA 0 (some (.cells [.sl 3 (bks m) .any])),2,[t1],m1⟩⟩) (aL.of (aS ?_) (λi o h=>⟨o,?_,cy.refl _⟩) (λ_ h=>?_) (NY _) (NY _)) ?_
  ·exact xSb
  ·simp only[upd,aA] at h |-;by_cases i0:i=0
   ·subst i0;simpa using h
   ·rw[N7 i0] at h;cases h
  ·simpa using h
  refine rf0 @len ?_;generalize hb2:be 2 m.length=b2 at*
  refine Wp.gB [1,24,25] (by simp only[go_sem,reduceIte,Nat.reduceEqDiff,List.map,len];exact rfl) (λ(j:Nat) tk=>[(5,.sl 1 (aD ([65,82,67,72]++b2++((m.take j).map dY).flatten)) (.own tk)),(26,.int .i64 j)]) (λj=>j<=m.length) (λj=>m.length - j) 0 t1 (Og _) rfl ?_ ?_
  ·exact bY (cj4 @Ph.{0} @OE.{0,0} @PN.{0} @ON.{0})
  rintro j tk n mm hn hj;have hn':2<=n:=hn;have n0:¬(0=n):=by omega
  have n1:¬(n=0):=by omega
  have hlen:((m.take j).map dY).flatten.length<=300000000000:=Oz (Iu m j) (hs hm);by_cases hc:j<m.length
  ·have h2:(0:Int)<=(j:Int):=by omega
   have q1:decide ((j:Int)<(m.length:Int))=true:=N3 aa;have h3:(j:Int)<(m.length:Int):=by omega
   have e1:IntKind.i64.wrap ((j:Int)+1)=((j+1:Nat):Int):=by rw[IntWalk.i64_in _ aa];omega
   have gj:=λd=>ft m j d hc;have hsn:=sH m j hc;have hlb:=hf.at j;obtain ⟨g1,g2,⟨st,g3,g4⟩,g5⟩:=uA (hok j hc) hlb;generalize m.getD j default=v at*
   obtain ⟨nm,st',l⟩:=v;simp only at g2 g3 g5 hlb;subst g3;unfold ff at gj;have len2:=eK l;have l3:=lD nm;have l4:=aW 1 st;have l5:=aW 4 l.length;have hbk:dY ⟨nm,(st:Int),l⟩=shB nm++be 1 st++be 4 l.length++gY l:=by simp[dY]
   rw[hbk] at hsn g1;generalize hP:[65,82,67,72]++b2++((m.take j).map dY).flatten=P;have lP:P.length<=400000000000:=by rw[<-hP];simp only[N6,l1,List.length_cons,List.length_nil];omega
   have hP2:[65,82,67,72]++b2++((m.take (j+1)).map dY).flatten=P++shB nm++be 1 st++be 4 l.length++gY l:=by rw[hsn,<-hP];simp only[Pn]
   have c2:=BT nm aa P aa;rw[show P++be 1 nm.length++nm=P++shB nm by simp[shB]] at c2;have c3:=zS st aa (P++shB nm) (by simp only[N6,l3];omega);have c4:=qY l.length aa (P++shB nm++be 1 st) (by simp only[N6,l3,l4];omega);generalize shB nm=b3 at*
   generalize be 1 st=b4 at*
   generalize be 4 l.length=b5 at*
   refine rn0 (gv @q1 h2 h3 e1 n0 n1 @NZ gj @len len2) ?_;refine az.dD tk ae xA4 ae c2 λta ma _=>?_;refine az.eval (by simp only[go_sem,reduceIte,Nat.reduceEqDiff,Nat.reduceAdd,bx,n0,n1];exact rfl) ?_;refine az.dD ta ae xA4 ae c3 λtb mb _=>?_;refine az.eval (by simp only[go_sem,reduceIte,Nat.reduceEqDiff,Nat.reduceAdd,bx,n0,n1,len2];exact rfl) ?_;refine az.dD tb ae (by simp only[go_sem,reduceIte,Nat.reduceEqDiff,List.map,len2];exact ay.refl _) ae c4 λtc mc _=>?_;refine az.eval (by simp only[go_sem,reduceIte,Nat.reduceEqDiff,Nat.reduceAdd,bx,n0,n1];exact rfl) ?_;refine az.nil ⟨by simp[bw,aV,apart,aZ],?_⟩;refine rn0 (cj3 n0 n1 len2) ?_;have lV:=λi (hi:i<=l.length)=>sG g5 i hi;refine Wp.gB [1,24,25,26,42,43] xA7 (λ(i:Nat) tk=>[(5,.sl 1 (aD (P++b3++b4++b5++gY (l.take i))) (.own tk)),(44,.int .i64 i)]) (λi=>i<=l.length) (λi=>l.length - i) 0 tc (Og _) (by simp[mj]) ?_ ?_
   ·exact bY (cj5 @gY.eq_1 @Ph.{0} @OE.{0,0} @PN.{0} @ON.{0})
   rintro i tk2 k mk hk hi;have hk':n+1<=k:=hk;have m0:¬(0=k):=by omega
   have m1':¬(k=0):=by omega
   have m2:¬(n=k):=by omega
   have m3:¬(k=n):=by omega
   have lQ:(P++b3++b4++b5++gY (l.take i)).length<=500000000000:=by
    have:=lV i hi;simp only[N6,l3,l4,l5];omega
   have hvs:=λh=>uz l i h;generalize hQ:P++b3++b4++b5++gY (l.take i)=Q at*
   by_cases hci:i<l.length
   ·have i2:(0:Int)<=(i:Int):=by omega
    have i1:decide ((i:Int)<(l.length:Int))=true:=N3 aa;have i3:(i:Int)<(l.length:Int):=by omega
    have i4:IntKind.i64.wrap ((i:Int)+1)=((i+1:Nat):Int):=by rw[IntWalk.i64_in _ aa];omega
    have gi:=λd=>iC l i d hci;have hov:=nq g5 i hci;have hvs:=hvs hci;obtain ⟨w1,w2,w3⟩:=vA hov;have hrr:=hov;simp only[Vs.okV,Vs.fit,Vs.rh,Ob,Oj] at hrr;obtain ⟨⟨⟨-,y1⟩,y2⟩,⟨y3,-⟩,-⟩:=hrr;generalize l.getD i default=v at*
    obtain ⟨vo,vid,vsz,vre,vim,vg,vu,vb⟩:=v;simp only at w2 w3 y1 y2 y3;obtain ⟨id,rfl⟩:∃id:Nat,vid=id:=⟨vid.toNat,aa⟩;have c5:=qZ vsz vre vim vg vu;unfold cZ nL fq at c5;rw[y3] at c5;simp only[N9] at c5;have v1:=lD vo;have v2:=aW 8 id;have v3:=gE vsz.toNat vre.toNat vim.toNat vg vu;have v4:=aW 2 vb.length;have hvb:uy ⟨vo,(id:Int),vsz,vre,vim,vg,vu,vb⟩=shB vo++be 8 id++eP vsz.toNat vre.toNat vim.toNat vg vu++be 2 vb.length++vb:=by simp[uy]
    rw[hvb] at hvs;have hQ2:P++b3++b4++b5++gY (l.take (i+1))=Q++shB vo++be 8 id++eP vsz.toNat vre.toNat vim.toNat vg vu++be 2 vb.length++vb:=by rw[hvs,<-hQ];simp only[Pn]
    have c6:=BT vo aa Q aa;rw[show Q++be 1 vo.length++vo=Q++shB vo by simp[shB]] at c6;have c7:=Ia id aa (Q++shB vo) (by simp only[N6,v1];omega);have c8:=vp vb.length aa (Q++shB vo++be 8 id++eP vsz.toNat vre.toNat vim.toNat vg vu) (by simp only[N6,v1,v2,v3];omega);generalize shB vo=d1 at*
    generalize be 8 id=d2 at*
    generalize eP vsz.toNat vre.toNat vim.toNat vg vu=d3 at*
    generalize be 2 vb.length=d4 at*
    have x1:(Q++d1++d2).length+d3.length<=140737488355328:=by simp only[N6,v1,v2,v3];omega
    have x2:(Q++d1++d2).length+d3.length<4611686018427387904:=by omega
    have x3:(Q++d1++d2++d3++d4).length+vb.length<=140737488355328:=by simp only[N6,v1,v2,v3,v4];omega
    have x4:(Q++d1++d2++d3++d4).length+vb.length<4611686018427387904:=by omega
    unfold cU at gi;refine rn1 (aY i1 i2 i3 i4 n0 n1 m0 m1' m2 m3 @NZ (cj2 gi len2)) c5 ?_;refine az.dD tk2 ae xA4 ae c6 λta' ma' _=>?_;refine az.eval (by simp only[go_sem,reduceIte,Nat.reduceEqDiff,Nat.reduceAdd,bx,n0,n1,m0,m1',m2,m3];exact rfl) ?_;refine az.dD ta' ae xA4 ae c7 λtb' mb' _=>?_;refine az.eval (by simp only[go_sem,reduceIte,Nat.reduceEqDiff,Nat.reduceAdd,bx,n0,n1,m0,m1',m2,m3,OO,x1,x2,Pz,Oe,N9,Ow,OW];exact rfl) ?_;refine az.nil ⟨by simp[bw,aV,apart,aZ],?_⟩;refine rn0 (cj6 n0 n1 m0 m1' m2 m3) ?_;rw[<-lz];refine az.dD mb' ae xA4 (by simp[mj]) c8 λtc' mc' _=>?_;refine az.eval (by simp only[go_sem,reduceIte,Nat.reduceEqDiff,Nat.reduceAdd,bx,n0,n1,m0,m1',m2,m3,OO,x3,x4,Pz,Oe,N9,Ow,OW];exact rfl) ?_;refine az.nil ⟨by simp[bw,aV,apart,aZ],?_⟩;refine rn0 i4 ?_;rw[<-lz];refine ⟨i+1,mc',k+1,mc'+1,by show n+1<=k+1;omega,aa,aa,?_⟩;rw[hQ2];refine aL.of (aS (by simp only[aR,go_sem,reduceIte,Nat.reduceEqDiff,Nat.reduceAdd];and_intros<;>first|exact trivial|exact av.refl _|exact av.any _|(refine av.int ?_;omega))) (λa o ho=>by
     refine ⟨o,?_,cy.refl _⟩;simp only[upd,aA] at ho |-;by_cases a1:a=k
     ·subst a1;simp[m1',m3] at ho
     ·simpa [a1] using ho) (λ_ h=>h) (NY _) (NY _)
   ·have hi2:i=l.length:=by omega
    subst hi2;have i1:decide ((l.length:Int)<(l.length:Int))=false:=N1 aa;rw[Ot] at hQ;refine rn0 (cj9 i1 e1 n0 n1 m0 m1' m2 m3 len2) ?_;refine ⟨j+1,tk2,k,mk,by show 2<=k;omega,aa,aa,?_⟩;rw[hP2,hQ];refine aL.tmN aa (OLe.at (by simp[upd,aA,n0,n1])) (by simp only[aR,go_sem,reduceIte,Nat.reduceEqDiff,Nat.reduceAdd,bx,n0,n1];and_intros<;>first|exact trivial|exact av.refl _|exact av.any _|(refine av.int ?_;omega))
  ·have hj2:j=m.length:=by omega
   subst hj2;have q1:decide ((m.length:Int)<(m.length:Int))=false:=N1 aa;rw[Ot] at hlen |-;have e:sF m=[65,82,67,72]++b2++(m.map dY).flatten:=by unfold sF;rw[hb2]
   have hln:(sF m).length<=1000000000000:=by rw[e];simp only[N6,l1,List.length_cons,List.length_nil];omega
   rw[<-e];have c3:=M9 (sF m) aa;have c4:=qY (DH (sF m)) (Il _) (sF m) aa;generalize be 4 (DH (sF m))=b4 at*
   generalize DH (sF m)=sm at*
   generalize sF m=ib at*
   refine rn1 (cj2 @q1 @len) c3 ?_;refine az.dD tk ae xA4 ae c4 λt4 m4 _=>?_;refine az.eval xA1 ?_;refine az.nil ⟨by trivial,?_⟩;refine aG ?_;exact av.tup (ay.cons av.cap (ay.refl _))
theorem Iv(m:List Bk)(hf:Few m)(h100:m.length<=100):aI Tryz.prog 11 [bB m] (.tup [.sl 1 (aD (xD m)) .any,.int .i64 (imE m)]):=
 Gk m hf λhm=>by
  have:=uB hm hf m.length (NY _);rw[Ot] at this;omega
def chunk(s:List UInt8)(k:Nat):List UInt8:=(s.take (min s.length (160*k+160))).drop (160*k)
def chunks(s:List UInt8)(n:Nat):List (List UInt8):=(List.range n).map (chunk s)
def dI(s:List UInt8):Nat:=(s.length+159)/160
def kE(l:List (List UInt8)):List AV:=l.map AV.str
theorem iU(l:List (List UInt8)):(kE l).length=l.length:=O2 _
theorem sJ(l:List (List UInt8)):aF (kE l)=true:=Av.bC (λa=>rfl) l
theorem iu(s:List UInt8)(n:Nat):(chunks s n).length=n:=by simp[chunks]
theorem qI(s:List UInt8)(n:Nat):kE (chunks s (n+1))=kE (chunks s n)++[.str (chunk s n)]:=by simp[chunks,kE,List.range_succ]
theorem KK(s:List UInt8)(hs:s.length<=2560):aI Tryz.prog 99 [.str s] (.tup [.sl 1 (kE (chunks s (dI s))) .any,.int .i64 0]):=by
 refine f99.aE af rfl (by simp[aO,aF,aU,sJ]) ?_;unfold c99 zz;have d0:decide ((2560:Int)<(s.length:Int))=false:=N1 aa;refine Wp.le (aL.tok _ _) ?_;refine rf0 d0 ?_;refine Wp.gB [0] xA7 (λ(k:Nat) tk=>[(4,.sl 1 (kE (chunks s k)) (.own tk)),(5,.int .i64 (160*k:Nat))]) (λk=>k<=dI s) (λk=>dI s - k) 0 0 (Og _) rfl ?_ ?_
 ·simp only[aR,go_sem,reduceIte,Nat.reduceEqDiff,Nat.reduceAdd,bx];and_intros<;>first|exact trivial|exact av.refl _|exact av.any _|exact av.dF rfl|(refine av.int ?_;omega)
 rintro k tk n m hn hk;unfold dI at hk |-;by_cases hc:160*k<s.length
 ·have q1:decide (((160*k:Nat):Int)<(s.length:Int))=true:=N3 aa;have ew:IntKind.i64.wrap (((160*k:Nat):Int)+160)=((160*k+160:Nat):Int):=by rw[IntWalk.i64_in _ aa];omega
  have em:(if ((160*k+160:Nat):Int)<(s.length:Int) then ((160*k+160:Nat):Int) else (s.length:Int))=((min s.length (160*k+160):Nat):Int):=by split<;>omega
  have h2:(0:Int)<=((160*k:Nat):Int):=PL _;have h3:((160*k:Nat):Int)<=((min s.length (160*k+160):Nat):Int):=by omega
  have h4:((min s.length (160*k+160):Nat):Int)<=(s.length:Int):=by omega
  have ls:=iU (chunks s k);rw[iu] at ls;have e6:(k+1)*16<=140737488355328:=by omega
  have e7:k+1<4611686018427387904:=by omega
  have h5:(0:Int)<=((min s.length (160*k+160):Nat):Int):=PL _;have e8:160*k+160=160*(k+1):=by omega
  refine rn0 @q1 ?_;refine Wp.nX (xAd (aY ew em h2 h3 h4 h5 @NZ @O8.{0,0} @Ol.{0,0} @ls e6 (aY e7 @Pz @Oe @OO @N2.{0} @N4.{0} @Od @ne_eq.{1} @Ow @Pl @OW (cj2 @Oc.{0} @Om.{0})))) ah ?_;simp only[aM.inBlock,aM.andThen];refine rn0 ew ?_;refine ⟨k+1,m,n,m+1,Og _,aa,aa,?_⟩;rw[e8,qI];exact xSu
 ·have hk2:k=(s.length+159)/160:=by omega
  have q1:decide (((160*k:Nat):Int)<(s.length:Int))=false:=N1 aa;rw[<-hk2];refine rn0 @q1 ?_;refine aG ?_;exact av.tup (ay.cons av.cap (ay.refl _))
theorem Al(s:List UInt8)(k:Nat):chunk s k=(s.drop (160*k)).take (min (s.length - 160*k) 160):=by
 unfold chunk;rw[List.drop_take];congr 1;omega
theorem DY(s:List UInt8)(k:Nat):(s.drop (160*k)).drop (min (s.length - 160*k) 160)=s.drop (160*(k+1)):=by
 rw[PQ];by_cases h:160*(k+1)<=s.length
 ·congr 1;omega
 ·rw[OY aa,OY aa]
theorem Nb(s:List UInt8)(hs:s.length<=2560):aI Tryz.prog 93 [.str s] (.tup [.sl 1 (kE (chunks s (dI s))) .any,.int .i64 0]):=by
 refine f93.aE af rfl (by simp[aO,aF,aU,sJ]) ?_;unfold c93 zz;have d0:decide ((2560:Int)<(s.length:Int))=false:=N1 aa;have a1:IntKind.i64.wrap ((s.length:Int)+160)=((s.length+160:Nat):Int):=by rw[IntWalk.i64_in _ aa];omega
 have a2:IntKind.i64.wrap (((s.length+160:Nat):Int) - 1)=((s.length+159:Nat):Int):=by rw[IntWalk.i64_in _ aa];omega
 have a3:IntKind.i64.wrap (((s.length+159:Nat):Int).tdiv 160)=(dI s:Int):=by
  rw[show ((s.length+159:Nat):Int).tdiv 160=(((s.length+159)/160:Nat):Int) by rw[Int.tdiv_eq_ediv_of_nonneg (PL _)];omega];rw[IntWalk.i64_in _ aa];rfl
 refine Wp.le (aL.tok _ _) ?_;refine rf0 (cj4 d0 a1 a2 a3) ?_;refine Wp.gB [13] xA7 (λ(k:Nat) tk=>[(0,.str (s.drop (160*k))),(4,.sl 1 (kE (chunks s k)) (.own tk)),(14,.int .i64 k)]) (λk=>k<=dI s) (λk=>dI s - k) 0 0 (Og _) rfl ?_ ?_
 ·simp only[aR,go_sem,reduceIte,Nat.reduceEqDiff,Nat.reduceAdd,bx,Pw,Nat.mul_zero];and_intros<;>first|exact trivial|exact av.refl _|exact av.any _|exact av.dF rfl|(refine av.int ?_;omega)
 rintro k tk n m hn hk;by_cases hc:k<dI s
 ·have q1:decide ((k:Int)<(dI s:Int))=true:=N3 aa;have hc':160*k<s.length:=by unfold dI at hc;omega
  have hb:(s.drop (160*k)).length=s.length - 160*k:=OC;have em:(if ((s.drop (160*k)).length:Int)<160 then ((s.drop (160*k)).length:Int) else 160)=((min (s.length - 160*k) 160:Nat):Int):=by rw[hb];split<;>omega
  have h5:(0:Int)<=((min (s.length - 160*k) 160:Nat):Int):=PL _;have h6:((min (s.length - 160*k) 160:Nat):Int)<=((s.drop (160*k)).length:Int):=by rw[hb];omega
  have r1:=Al s k;have r2:=DY s k;have e1:IntKind.i64.wrap ((k:Int)+1)=((k+1:Nat):Int):=by rw[IntWalk.i64_in _ aa];omega
  have ls:=iU (chunks s k);rw[iu] at ls;have e6:(k+1)*16<=140737488355328:=by unfold dI at hk;omega
  have e7:k+1<4611686018427387904:=by omega
  generalize s.drop (160*k)=b at*
  generalize min (s.length - 160*k) 160=q at*
  refine rn0 (cj4 @q1 em h5 h6) ?_;refine Wp.nX (xAd (aY h5 h6 @NZ @O8.{0,0} @Ol.{0,0} @ls e6 e7 @Pz @Oe @OO (cj9 @N2.{0} @N4.{0} @Od @ne_eq.{1} @Ow @Pl @OW @Oc.{0} @Om.{0}))) ah ?_;simp only[aM.inBlock,aM.andThen];refine rn0 (cj8 h5 h6 @NZ @O8.{0,0} @Ol.{0,0} @Oe e1 @Ot.{0}) ?_;refine ⟨k+1,m,n,m+1,Og _,aa,aa,?_⟩;rw[qI,r1,<-r2];exact xSu
 ·have hk2:k=dI s:=by omega
  have q1:decide ((k:Int)<(dI s:Int))=false:=N1 aa;rw[<-hk2] at q1 |-;refine rn0 @q1 ?_;refine aG ?_;exact av.tup (ay.cons av.cap (ay.refl _))
def kyB(b:Bk):Ky:=⟨1,b.n,[],[]⟩
def kyV(n:List UInt8)(v:Vs):Ky:=⟨2,n,v.o,[v.id]⟩
def kyC(n:List UInt8)(v:Vs)(k:Nat):Ky:=⟨3,n,v.o,[v.id,k]⟩
def mB(v:Vs):List UInt8:=cZ v.sz v.re v.im v.g v.u
def vB(b:Bk):Ch:=⟨dC (kyB b),stS b.st,false⟩
def chV(n:List UInt8)(v:Vs):Ch:=⟨dC (kyV n v),mB v,false⟩
def chC(n:List UInt8)(v:Vs)(k:Nat):Ch:=⟨dC (kyC n v k),chunk v.b k,false⟩
def cT(n:List UInt8)(v:Vs):List Ch:=chV n v::(List.range (dI v.b)).map (chC n v)
def bD(b:Bk):List (List Ch):=[vB b]::b.l.map (cT b.n)
def Vs.room(v:Vs):Prop:=v.id<9223372036854775808/\v.b.length<=2560
theorem vC(b:Bk):(kyB b).fit:=⟨by simp[kyB],by simp[kyB]⟩
theorem vD(n:List UInt8){v:Vs}(h:v.room):(kyV n v).fit:=⟨by simp[kyV],by simp[kyV];exact h.1⟩
theorem vE(n:List UInt8){v:Vs}(h:v.room)(k:Nat)(hk:k<=1000000):(kyC n v k).fit:=⟨by simp[kyC],by simp[kyC];exact ⟨h.1,aa⟩⟩
theorem sK(x:Ky)(hf:x.fit)(v:List UInt8):aI Tryz.prog 92 [dp x,.str v] (.agg [.str (dC x),.str v,.bool false]):=by
 refine f92.aE af (by simp[aF,eJ,aO]) rfl ?_;unfold c92 zz;have c1:=J0 x hf;have hE:dp x= .agg [.int .i64 x.k,.str x.b,.str x.o,.sl 1 (ints x.ns) .any]:=rfl;rw[hE] at c1 |-;refine nA c1 ?_;refine aG ?_;exact av.refl _
theorem vF(x:Ky)(hf:x.fit):aI Tryz.prog 98 [.int .i64 x.k,.str x.b,.str x.o,.sl 1 (ints x.ns) .any] (.str (dC x)):=by
 refine f98.aE af (by simp[aF,aO,aU,tR]) rfl ?_;unfold c98 zz;have c1:=Gf x hf;have hE:dp x= .agg [.int .i64 x.k,.str x.b,.str x.o,.sl 1 (ints x.ns) .any]:=rfl;rw[hE] at c1;refine nA c1 ?_;refine aG ?_;exact av.refl _
theorem xE(b:Bk):aI Tryz.prog 44 [ff b] (.clo (.func 91) [] [.ref [.str b.n,.int .i64 b.st,.sl 8 (vss b.l) .any]]):=by
 refine f44.u0 af (by simp[aF,gd]) (by simp[aO,aF,aU,o7]) ?_;unfold c44 zz;have hE:ff b= .agg [.str b.n,.int .i64 b.st,.sl 8 (vss b.l) .any]:=rfl;rw[hE];refine r7 ?_;refine Wp.ret ⟨trivial,_,rfl,?_⟩;simp[unT,rY,upd,go_sem];exact av.refl _
def rws(l:List (List Ch)):List AV:=l.map λr=> .sl 3 (chs r) .any
theorem gf(l:List (List Ch)):(rws l).length=l.length:=O2 _
theorem o9(l:List (List Ch)):aF (rws l)=true:=Av.bC (λa=>by simp[aO,aU,gC]) l
theorem mC(l:List (List Ch))(r:List Ch):rws (l++[r])=rws l++[.sl 3 (chs r) .any]:=by simp[rws]
theorem sL(l:List (List Ch))(j:Nat)(d:AV)(h:j<l.length):(rws l).getD j d= .sl 3 (chs (l.getD j default)) .any:=by
 simp[rws,Ou,N0 h]
theorem pc{v:Vs}(h:v.okV=true):v.room:=by
 have h2:=vA h;refine ⟨?_,h2.2.2⟩;simp only[Vs.okV,Ob,Oj] at h;omega
theorem vG{b:Bk}(h:gX b=true)(j:Nat)(hj:j<b.l.length):(b.l.getD j default).room:=by
 unfold gX at h;simp only[Ob] at h;exact pc (nq h.2 j hj)
theorem lE{s:List UInt8}(h:s.length<=2560):dI s<=16:=by unfold dI;omega
theorem xF(n:List UInt8)(l:List Vs)(j:Nat)(h:j<l.length):(l.take (j+1)).map (cT n)=(l.take j).map (cT n)++[cT n (l.getD j default)]:=by
 have e:l.getD j default=l[j]:=by simp[Ou,N0 h]
 rw[e,Ov h,O3];simp
def iD(n:List UInt8)(v:Vs)(k:Nat):List Ch:=chV n v::(List.range k).map (chC n v)
theorem sM(n:List UInt8)(v:Vs)(k:Nat):chs (iD n v (k+1))=chs (iD n v k)++[.agg [.str (dC (kyC n v k)),.str (chunk v.b k),.bool false]]:=by
 simp[iD,chs,List.range_succ,mv,chC]
theorem uC(n:List UInt8)(v:Vs)(k:Nat):(chs (iD n v k)).length=k+1:=by simp[iD,chs]
theorem sN(l:List (List UInt8))(j:Nat)(d:AV)(h:j<l.length):(kE l).getD j d= .str (l.getD j default):=by
 simp[kE,Ou,N0 h]
theorem uD(s:List UInt8)(n j:Nat)(h:j<n):(chunks s n).getD j default=chunk s j:=by
 simp[chunks,Ou,h]
theorem xG{k n:Nat}(h:k<n)(hn:n<=1000000):decide ((k:Int)<(n:Int))=true/\(0:Int)<=(k:Int)/\(k:Int)<(n:Int)/\IntKind.i64.wrap ((k:Int)+1)=((k+1:Nat):Int)/\(k+1+1)*40<=140737488355328/\k+1+1<4611686018427387904:=by
 refine ⟨N3 aa,aa,aa,?_,aa,aa⟩;rw[IntWalk.i64_in _ aa];omega
theorem cK{k n:Nat}(h:k<n)(hn:n<=10000000):decide ((k:Int)<(n:Int))=true/\(0:Int)<=(k:Int)/\(k:Int)<(n:Int)/\IntKind.i64.wrap ((k:Int)+1)=((k+1:Nat):Int):=by
 refine ⟨N3 aa,aa,aa,?_⟩;rw[IntWalk.i64_in _ aa];omega
theorem dZ(n:Nat):decide ((n:Int)<(n:Int))=false:=N1 aa
theorem OLe.bK(f:Nat->Option Av.Obj):OLe f f:=λj o h=>⟨o,h,cy.refl o⟩
theorem Gl{h:Nat->Option Av.Obj}{n:Nat}{A B:Av.Obj}:OLe (upd (upd h n (some A)) n (some B)) (upd h n (some B)):=λa u hu=>by
 refine ⟨u,?_,cy.refl _⟩;simp only[upd] at hu |-;by_cases a1:a=n
 ·subst a1;simpa using hu
 ·simpa [a1] using hu
set_option maxHeartbeats 4000000 in
theorem uE(b:Bk)(hb:gX b=true)(hl:b.l.length<=1000000):aI Tryz.prog 47 [ff b] (.sl 1 (rws (bD b)) .any):=by
 refine f47.aE af (by simp[aF,gd]) (by simp[aO,aU,o9]) ?_;unfold c47 zz;have hroom:=vG hb;have c1:=FV b.st;have c2:=vF (kyB b) (vC b);have hL:bD b=[vB b]::b.l.map (cT b.n):=rfl;have hB1:vB b=⟨dC (kyB b),stS b.st,false⟩:=rfl;rw[hL,hB1];unfold kyB at c2 |-;simp only at c2;clear hb hL hB1;obtain ⟨nm,st,l⟩:=b;simp only at*
 have hE:ff ⟨nm,st,l⟩= .agg [.str nm,.int .i64 st,.sl 8 (vss l) .any]:=rfl;have len:=eK l;rw[hE];have hi0:ints []=[]:=rfl;rw[hi0] at c2;generalize dC ⟨1,nm,[],[]⟩=k0 at*
 generalize stS st=s0 at*
 refine LB c1 c2 ?_;refine Wp.le (aL.tok _ _) ?_;refine Wp.cI [1] xA7 (λb:Nat × Nat × Nat × Nat=>[(5,.sl 1 (rws ([⟨k0,s0,false⟩]::(l.take b.1).map (cT nm))) (.own b.2.1)),(6,.int .i64 (b.1:Nat))])
  (λb=>⟨upd aA 0 (some (.cells [.str nm,.int .i64 st,.sl 8 (vss l) .any])),b.2.2.1,[b.2.1],b.2.2.2⟩) (λb=>b.1<=l.length/\1<=b.2.2.1/\b.2.1<b.2.2.2) (λb=>l.length - b.1) (0,0,1,1) ⟨Og _,NY _,by simp⟩ rfl ?_ ?_
 ·simp only[aR,go_sem,reduceIte,Nat.reduceEqDiff,Nat.reduceAdd,bx,List.take_zero,OE];and_intros<;>first|exact trivial|exact av.refl _|exact av.any _|exact av.trans (av.dF rfl) (av.slc ⟨av.cap,trivial⟩)|(refine av.int ?_;omega)
 rintro ⟨j,tk,n,m⟩ ⟨hj,hn2,htm⟩;simp only at hj hn2 htm;have n0:¬(0=n):=by omega
 have n1:¬(n=0):=by omega
 by_cases hc:j<l.length
 ·obtain ⟨g1,h2,h3,e1⟩:=ixF (j:=j) (n:=l.length) aa aa;have hat:=iC l j .any hc;have hsn:=xF nm l j hc;have hrm:=hroom j hc;have hlen:(rws ([⟨k0,s0,false⟩]::(l.take j).map (cT nm))).length=j+1:=by rw[gf];simp;omega
  have e6:(j+1+1)*24<=140737488355328:=by omega
  have e7:j+1+1<4611686018427387904:=by omega
  generalize l.getD j default=v at*
  have c3:=Gg v.sz v.re v.im v.g v.u;have c4:=vF (kyV nm v) (vD nm hrm);have c5:=KK v.b hrm.2;have c6:=λk hk=>vF (kyC nm v k) (vE nm hrm k hk);have h16:=lE hrm.2;have hP0:iD nm v 0=[⟨dC (kyV nm v),cZ v.sz v.re v.im v.g v.u,false⟩]:=rfl;have hPs:=sM nm v;have hPl:=uC nm v;have hT:cT nm v=iD nm v (dI v.b):=rfl;have hch:=uD v.b (dI v.b);have hsl:=sN (chunks v.b (dI v.b));have hcl:=iu v.b (dI v.b);have hsl2:=iU (chunks v.b (dI v.b));rw[hcl] at hsl2 hsl;generalize dI v.b=cn at*
  generalize chunks v.b cn=cks at*
  unfold kyV at c4 hP0;unfold kyC at c6 hPs;simp only at c4 c6;have hi1:ints [v.id]=[.int .i64 v.id]:=rfl;have hi2:∀k:Nat,ints [v.id,k]=[.int .i64 v.id,.int .i64 k]:=λ_=>rfl;rw[hi1] at c4;simp only[hi2] at c6;unfold fq at c3;unfold cU at hat;generalize dC ⟨2,nm,v.o,[v.id]⟩=k1 at*
  generalize cZ v.sz v.re v.im v.g v.u=hh at*
  refine rn3 (cj8 g1 h2 h3 @len hat n0 n1 @NZ) c3 c4 c5 ?_;have VER:(some (Av.Obj.cells [.str v.o,.int .i64 v.id,.int .i64 v.sz,.int .i64 v.re,.int .i64 v.im,.bool v.g,.bool v.u,.str v.b]))=some (Av.Obj.cells [.str v.o,.int .i64 v.id,.int .i64 v.sz,.int .i64 v.re,.int .i64 v.im,.bool v.g,.bool v.u,.str v.b]):=rfl;refine Wp.le (aL.tok _ _) ?_;refine Wp.le (s':=⟨tm [(1,.ptr 0 0),(5,.sl 1 (rws ([⟨k0,s0,false⟩]::(l.take j).map (cT nm))) (.own tk)),(6,.int .i64 j),(7,.ptr n 0),(10,.sl 3 (chs (iD nm v 0)) (.own m)),(11,.sl 1 (kE cks) .any),(13,.int .i64 0)],
   ⟨upd (upd aA 0 (some (.cells [.str nm,.int .i64 st,.sl 8 (vss l) .any]))) n (some (.cells [.str v.o,.int .i64 v.id,.int .i64 v.sz,.int .i64 v.re,.int .i64 v.im,.bool v.g,.bool v.u,.str v.b])),n+1,[m,tk],m+1⟩⟩) (aL.of (aS ?_) Gl (λa ha=>ha) (NY _) (NY _)) ?_
  ·rw[hP0];simp only[aR,go_sem,reduceIte,Nat.reduceEqDiff,Nat.reduceAdd,bx];and_intros<;>first|exact trivial|exact av.refl _|exact av.any _|exact av.dF rfl|(refine av.int ?_;omega)
  refine Wp.cI [1,5,6,7,11] xA7 (λb:Nat × Nat × Nat=>[(10,.sl 3 (chs (iD nm v b.1)) (.own b.2.1)),(13,.int .i64 (b.1:Nat))])
   (λb=>⟨upd (upd aA 0 (some (.cells [.str nm,.int .i64 st,.sl 8 (vss l) .any]))) n (some (.cells [.str v.o,.int .i64 v.id,.int .i64 v.sz,.int .i64 v.re,.int .i64 v.im,.bool v.g,.bool v.u,.str v.b])),n+1,[b.2.1,tk],b.2.2⟩)
   (λb=>b.1<=cn/\m<=b.2.1/\m<b.2.2) (λb=>cn - b.1) (0,m,m+1) ⟨Og _,NY _,by simp⟩ rfl ?_ ?_
  ·exact xSb
  rintro ⟨k,t2,m2⟩ ⟨hk,hm1,hm2⟩;simp only at hk hm1 hm2;by_cases hck:k<cn
  ·obtain ⟨kg,k2,k3,ke,e8,e9⟩:=xG hck (Oz h16 al);have c7:=c6 k (Oz hk (Oz h16 al));have hx:=hsl k .any hck;rw[hch k hck] at hx;have hPk:=hPs k;have hlk:=hPl k;generalize chs (iD nm v k)=row at*
   generalize dC ⟨3,nm,v.o,[v.id,(k:Int)]⟩=kk at*
   generalize chunk v.b k=ck at*
   refine rn1 (aY kg k2 k3 hsl2 n0 n1 hx hlk e8 e9 @OO (cj8 @Pl @N2.{0} @N4.{0} @Od @Om.{0} @OW @Oe @NZ)) c7 ?_;refine ⟨(k+1,m2,m2+1),⟨hck,by show m<=m2;exact Nat.le_of_lt hm2,Nat.lt_succ_of_lt hm2⟩,O5 hck (OD _),?_⟩;rw[hPk];have hne:decide (¬tk=t2)=true:=N3 aa;refine aL.of (aS ?_) (OLe.bK _) (λa ha=>?_) (NY _) (NY _)
   ·exact bY ke
   ·simpa [hne] using ha
  ·have hk2:k=cn:=by omega
   subst hk2;have kg:=dZ k;refine rn0 (cj4 kg hsl2 n0 n1) ?_;refine Wp.le (s':=⟨tm [(1,.ptr 0 0),(5,.sl 1 (rws ([⟨k0,s0,false⟩]::(l.take j).map (cT nm))) (.own tk)),(6,.int .i64 j),(10,.sl 3 (chs (iD nm v k)) .any)],
    ⟨upd aA 0 (some (.cells [.str nm,.int .i64 st,.sl 8 (vss l) .any])),n+1,[tk],m2⟩⟩) (aL.of (aS ?_) (OLe.skip (by simp[upd,aA,n1])) (λa ha=>by simp only[Oc] at ha;subst ha;simp) (NY _) (NY _)) ?_
   ·simp only[aR,go_sem,reduceIte,Nat.reduceEqDiff,Nat.reduceAdd,bx];and_intros<;>first|exact trivial|exact av.refl _|exact av.any _|exact av.cap|(refine av.int ?_;omega)
   refine rn0 (aY e6 e7 hlen @OO @Pl @N2.{0} @N4.{0} @Od @Om.{0} @Oc.{0} @OW @Oe) ?_;refine ⟨(j+1,m2,n+1,m2+1),⟨hc,by simp,by simp⟩,O5 hc (OD _),?_⟩;refine aL.of (aS ?_) (OLe.bK _) (λa ha=>by simpa using ha) (NY _) (NY _);rw[hsn,hT,<-List.cons_append,mC];exact bY e1
 ·have hj2:j=l.length:=by omega
  subst hj2;have g1:=ixE (l.length);rw[Ot];refine rn0 (cj2 g1 @len) ?_;refine aG ?_;exact av.cap
def cY(c:Ch):Pr:=⟨c.k,c.v⟩
def fF(b:Bk):List Pr:=(bD b).flatten.map cY
def aN(m:List Bk):List Pr:=(m.map fF).flatten
theorem xH(a:List Pr)(p:Pr):aH (a++[p])=jk (aH a) p.k p.v:=by simp[aH]
theorem KL(l:List Pr):∀p∈aH l,Ls p.k:=λp hp=>by
 have:=(dM l).2.1 p hp;simp only[shut,QQ,P4] at this;unfold Ls;omega
theorem pe{α β:Type}[Inhabited α](f:α->β)(l:List α)(j:Nat)(h:j<l.length):(l.take (j+1)).map f=(l.take j).map f++[f (l.getD j default)]:=by
 have e:l.getD j default=l[j]:=by simp[Ou,N0 h]
 rw[e,Ov h,O3];simp
theorem jm(m:List Bk)(j:Nat)(h:j<m.length):aN (m.take (j+1))=aN (m.take j)++fF (m.getD j default):=by
 unfold aN;rw[pe fF m j h];simp
theorem nr(l:List (List Ch))(j:Nat)(h:j<l.length):((l.take (j+1)).flatten.map cY)=(l.take j).flatten.map cY++(l.getD j []).map cY:=by
 have e:l.getD j []=l[j]:=by simp[Ou,N0 h]
 rw[e,Ov h,PG,O3];simp only[List.flatten_cons,List.flatten_nil,ON]
theorem mD(m:List Bk)(j:Nat):(aN (m.take j)).length<=(aN m).length:=by
 have h:aN m=aN (m.take j)++aN (m.drop j):=by unfold aN;rw[<-PG,<-O3,Po]
 rw[h,N6];omega
theorem q0(l:List (List Ch))(j:Nat):((l.take j).flatten.map cY).length<=(l.flatten.map cY).length:=by
 have h:l.flatten.map cY=(l.take j).flatten.map cY++(l.drop j).flatten.map cY:=by rw[<-O3,<-PG,Po]
 rw[h,N6];omega
theorem vH(l:List Pr):(aH l).length<=l.length:=(dM l).2.2
theorem vI(x:Ky)(hf:x.fit):Ls (dC x):=by
 unfold dC Ls;split
 ·rename_i h;have:=o6 (p7 hf h);omega
 ·simp
theorem DZ{b:Bk}(hb:gX b=true):∀r∈bD b,∀c∈r,Ls c.k:=by
 intro r hr c hc;unfold bD at hr;rcases Om.1 hr with rfl|hr
 ·simp only[Oc] at hc;subst hc;exact vI _ (vC b)
 ·obtain ⟨v,hv,rfl⟩:=Oo.1 hr;obtain ⟨i,hi,rfl⟩:=P7.1 hv;have hrm:=vG hb i hi;have e:b.l.getD i default=b.l[i]:=by simp[Ou,N0 hi]
  rw[e] at hrm;unfold cT at hc;rcases Om.1 hc with rfl|hc
  ·exact vI _ (vD _ hrm)
  ·obtain ⟨k,hk,rfl⟩:=Oo.1 hc;have h16:=lE hrm.2;have:=O1.1 hk;exact vI _ (vE _ hrm k aa)
set_option maxHeartbeats 4000000 in
theorem nt(m:List Bk)(hf:Few m)(hF:imB m=true->(aN m).length<=100000):aI Tryz.prog 14 [bB m] (.tup [.sl 2 (prs (if imB m=true then aH (aN m) else [])) .any,.int .i64 (imE m)]):=by
 refine f14.aE af (by simp[aF,bW]) (by simp[aO,aF,aU,dw]) ?_;unfold c14 zz;have h1:=xC m hf;have len:=eL m;unfold imE at*
 cases hm:imB m with
 |false=>
  rw[hm] at h1;simp only[Oa,N5] at h1 |-;unfold bB at*
  refine Dp h1 ?_;refine aG ?_;exact av.tup (ay.cons av.cap (ay.refl _))
 |true=>
  rw[hm] at h1;simp only[N9] at h1 |-;unfold bB at*
  obtain ⟨hl,hok⟩:=sI hm
  replace hF:=hF hm
  refine Dp h1 ?_;refine Wp.dB [1] xA6 (λj:Nat=>[(5,.sl 2 (prs (aH (aN (m.take j)))) .any),(6,.int .i64 (j:Nat))]) (λj=>j<=m.length) (λj=>m.length - j) 0 (Og _) ?_ ?_
  ·simp only[aR,go_sem,reduceIte,Nat.reduceEqDiff,Nat.reduceAdd,bx];and_intros<;>first|exact trivial|exact av.refl _|exact av.any _|exact av.cap|(refine av.int ?_;omega)
  rintro j hj;by_cases hc:j<m.length
  ·obtain ⟨g1,g2,g3,e1⟩:=cK hc (Oz hl al);have hat:=ft m j .any hc;have hb:=hok j hc;have hfe:=hf.at j;have hsn:=jm m j hc;have hle:=mD m (j+1);rw[hsn,N6] at hle;have c1:=uE (m.getD j default) hb hfe;have hls:=DZ hb;have hFB:fF (m.getD j default)=(bD (m.getD j default)).flatten.map cY:=rfl;rw[hFB] at hsn hle;have htl:(bD (m.getD j default)).length<=1000001:=by simp only[bD,List.length_cons,O2];exact Nat.succ_le_succ hfe
   generalize bD (m.getD j default)=R at*
   generalize aN (m.take j)=P0 at*
   generalize m.getD j default=b at*
   clear hFB;obtain ⟨nm,st,vl⟩:=b;unfold ff at hat c1;have rl:=gf R;refine rn1 (cj6 g1 g2 g3 @len hat @NZ) c1 ?_;refine Wp.dB [1,6,7] xA6 (λk:Nat=>[(5,.sl 2 (prs (aH (P0++(R.take k).flatten.map cY))) .any),(8,.int .i64 (k:Nat))]) (λk=>k<=R.length) (λk=>R.length - k) 0 (Og _) ?_ ?_
   ·exact bY (cj4 @Ph.{0} @PN.{0} @OE.{0,0} @ON.{0})
   rintro k hk;by_cases hck:k<R.length
   ·obtain ⟨k1,k2,k3,k4⟩:=cK hck (Oz htl al);have hak:=sL R k .any hck;have hsk:=nr R k hck;have hlk:=q0 R (k+1);rw[hsk,N6] at hlk;have hm2:R.getD k []∈R:=by rw[show R.getD k []=R[k] by simp[Ou,N0 hck]];exact O0 hck
    have hls2:=hls _ hm2;have hdd:R.getD k default=R.getD k []:=rfl;rw[hdd] at hak;generalize R.getD k []=r at*
    have hfin:P0++(R.take (k+1)).flatten.map cY=(P0++(R.take k).flatten.map cY)++r.map cY:=by rw[hsk,Pn]
    have hb2:(P0++(R.take k).flatten.map cY).length+r.length<=100000:=by
     have q1:r.length=(r.map cY).length:=(O2 _).symm;rw[N6,q1];exact Oz aa hF
    generalize P0++(R.take k).flatten.map cY=P1 at*
    clear hlk hle hm2 hsk;have cl:=bF r;refine rn0 (cj6 k1 k2 k3 rl hak @NZ) ?_;refine Wp.dB [1,6,7,8] xA6 (λi:Nat=>[(5,.sl 2 (prs (aH (P1++(r.take i).map cY))) .any),(9,.int .i64 (i:Nat))]) (λi=>i<=r.length) (λi=>r.length - i) 0 (Og _) ?_ ?_
    ·exact bY (cj3 @Ph.{0} @OE.{0,0} @ON.{0})
    rintro i hi;by_cases hci:i<r.length
    ·obtain ⟨i1,i2,i3,i4⟩:=cK hci (Oz (Oz (Nat.le_add_left _ _) hb2) al);have hai:=mw r i .any hci;have hm3:r.getD i default∈r:=by rw[Av.fT hci];exact O0 hci
     have hlc:=hls2 _ hm3;have hsi:=pe cY r i hci;generalize r.getD i default=c at*
     have hss:aH (P1++(r.take (i+1)).map cY)=jk (aH (P1++(r.take i).map cY)) c.k c.v:=by
      rw[hsi,<-Pn,xH];rfl
     have hsl:=vH (P1++(r.take i).map cY);have hP1:(aH (P1++(r.take i).map cY)).length<=1000000:=by
      simp only[N6,O2,OJ] at hsl;omega
     have cp:=FI (aH (P1++(r.take i).map cY)) hP1 (KL _) c.k c.v hlc;unfold mv at hai;generalize aH (P1++(r.take i).map cY)=S at*
     refine rn1 (gw k1 k2 k3 i1 i2 i3 rl cl hak hai @NZ) cp ?_;refine ⟨i+1,hci,O5 hci (OD _),?_⟩;rw[hss];exact u5 i4
    ·have hi2:i=r.length:=by omega
     subst hi2;have ig:=dZ r.length;rw[Ot];refine rn0 (cj7 k2 k3 ig rl cl hak @NZ) ?_;refine ⟨k+1,hck,O5 hck (OD _),?_⟩;rw[hfin];exact u5 k4
   ·have hk2:k=R.length:=by omega
    subst hk2;have kg:=dZ R.length;rw[Ot];refine rn0 (cj2 kg rl) ?_;refine ⟨j+1,hc,O5 hc (OD _),?_⟩;rw[hsn];exact u5 e1
  ·have hj2:j=m.length:=by omega
   subst hj2;have g1:=dZ m.length;rw[Ot];refine rn0 (cj2 g1 @len) ?_;refine aG ?_;exact av.refl _
theorem xI:∀(s s' x y:List UInt8),(∀b∈s,b≠0)->(∀b∈s',b≠0)->s++[0,1]++x=s'++[0,1]++y->s=s'/\x=y
 |[],[],x,y,_,_,h=>by simpa using h
 |[],b::s',x,y,_,h2,h=>by
  simp only[List.nil_append,List.cons_append,Pf] at h;exact absurd h.1.symm (h2 b af)
 |a::s,[],x,y,h1,_,h=>by
  simp only[List.nil_append,List.cons_append,Pf] at h;exact absurd h.1 (h1 a af)
 |a::s,b::s',x,y,h1,h2,h=>by
  simp only[List.cons_append,Pf] at h;obtain ⟨rfl,h⟩:=h;obtain ⟨rfl,rfl⟩:=xI s s' x y (λb hb=>h1 b (by simp[hb])) (λb hb=>h2 b (by simp[hb])) h;exact ⟨rfl,rfl⟩
theorem Iw{a b m:UInt8}(h:a ^^^ m=b ^^^ m):a=b:=by
 have:=Pb (· ^^^ m) h;simpa [UInt8.xor_assoc] using this
theorem Gm{m:UInt8}{a b:List UInt8}(h:bA m a=bA m b):a=b:=by
 unfold bA at h;exact (List.map_inj_right λx y=>Iw).1 h
theorem Gn:∀(b x y:Nat),x<256^b->y<256^b->be b x=be b y->x=y
 |0,x,y,hx,hy,_=>by simp at hx hy;omega
 |b+1,x,y,hx,hy,h=>by
  simp only[be,Pf] at h;obtain ⟨h1,h2⟩:=h;have hp:0<256^b:=Nat.pow_pos al;have e1:x/256^b<256:=Nat.div_lt_of_lt_mul (by rw[<-Nat.pow_succ];exact hx);have e2:y/256^b<256:=Nat.div_lt_of_lt_mul (by rw[<-Nat.pow_succ];exact hy);have h1:x/256^b=y/256^b:=by
   have:=Pb UInt8.toNat h1;simp only[UInt8.toNat_ofNat'] at this;rw[O9 e1,O9 e2] at this;exact this
  have hb:∀z,be b z=be b (z%256^b):=be_mod b;rw[hb x,hb y] at h2;have h3:=Gn b _ _ (QX _ hp) (QX _ hp) h2;rw[<-Nat.div_add_mod x (256^b),<-Nat.div_add_mod y (256^b),h1,h3]
where
 be_mod:∀(b z:Nat),be b z=be b (z%256^b):=by
  intro b z;have key:∀c,c<=b->be c z=be c (z%256^b):=by
   intro c;induction c with
   |zero=>intro _;rfl
   |succ c ih=>
    intro hc;simp only[be];rw[ih aa];congr 1;apply Q4.1;simp only[UInt8.toNat_ofNat'];have e:256^b=256^c*256^(b - c):=by rw[<-Qo];congr 1;omega
    have e2:(256:Nat)^(b - c)=256*256^(b - c - 1):=by rw[<-Nat.pow_succ'];congr 1;omega
    rw[e,Nat.mod_mul_right_div_self,e2,Nat.mod_mul_right_mod]
  exact key b (NY _)
theorem KM{a b:Nat}(ha:a<9223372036854775808)(hb:b<9223372036854775808)(h:upB a=upB b):a=b:=by
 have e:(256:Nat)^8=18446744073709551616:=by decide
 have:=Gn 8 (a+9223372036854775808) (b+9223372036854775808) (by rw[e];omega) (by rw[e];omega) h;omega
theorem KN{p q:Pt}(hp:p.ok)(hq:q.ok){x y:List UInt8}(h:ptB p++x=ptB q++y):p=q/\x=y:=by
 obtain ⟨pk,pn,ps⟩:=p;obtain ⟨qk,qn,qs⟩:=q;have P1:=hp.t;have P2:=hp.u;have Q1:=hq.t;have Q2:=hq.u;simp only at P1 P2 Q1 Q2;have h1:=hp.k;have h2:=hq.k;simp only at h1 h2;have num:∀(m:UInt8)(x y:List UInt8),(0<=pn/\pn<9223372036854775808)->(0<=qn/\qn<9223372036854775808)->bA m (upB pn.toNat)++x=bA m (upB qn.toNat)++y->pn=qn/\x=y:=by
  intro m x y a b h;obtain ⟨e1,e2⟩:=List.append_inj h (by simp[cJ,upB,aW]);have:=KM aa aa (Gm e1);exact ⟨aa,e2⟩
 rcases h1 with rfl|rfl|rfl<;>rcases h2 with rfl|rfl|rfl
 ·simp[ptB] at h;obtain ⟨a1,a2,-⟩:=P1 rfl;obtain ⟨b1,b2,-⟩:=Q1 rfl;obtain ⟨rfl,rfl⟩:=xI ps qs x y a2 b2 (by simpa using h);rw[a1,b1];simp
 ·simp[ptB] at h
 ·simp[ptB] at h
 ·simp[ptB] at h
 ·simp[ptB] at h;obtain ⟨a1,a2,a3⟩:=P2 al;obtain ⟨b1,b2,b3⟩:=Q2 al;obtain ⟨rfl,rfl⟩:=num 0 x y ⟨a2,a3⟩ ⟨b2,b3⟩ h;rw[a1,b1];simp
 ·simp[ptB] at h
 ·simp[ptB] at h
 ·simp[ptB] at h
 ·simp[ptB] at h;obtain ⟨a1,a2,a3⟩:=P2 al;obtain ⟨b1,b2,b3⟩:=Q2 al;obtain ⟨rfl,rfl⟩:=num 255 x y ⟨a2,a3⟩ ⟨b2,b3⟩ h;rw[a1,b1];simp
theorem Am(p:Pt):ptB p≠[]:=λh=>by have:=BN p;rw[h] at this;simp at this
theorem BU:∀{l l':List Pt},(∀p∈l,p.ok)->(∀p∈l',p.ok)->cW l=cW l'->l=l'
 |[],[],_,_,_=>rfl
 |[],q::l',_,_,h=>by
  simp only[cW,Oy,OE,List.flatten_cons,List.flatten_nil] at h;exact absurd (List.append_eq_nil_iff.1 h.symm).1 (Am q)
 |p::l,[],_,_,h=>by
  simp only[cW,Oy,OE,List.flatten_cons,List.flatten_nil] at h;exact absurd (List.append_eq_nil_iff.1 h).1 (Am p)
 |p::l,q::l',h1,h2,h=>by
  simp only[cW,Oy,List.flatten_cons] at h;obtain ⟨rfl,h3⟩:=KN (h1 p af) (h2 q af) h;rw[BU (λp hp=>h1 p (by simp[hp])) (λp hp=>h2 p (by simp[hp])) h3]
theorem An{a b:Int}(ha:1<=a/\a<=6)(hb:1<=b/\b<=6)(h:dt a=dt b):a=b:=by
 obtain ⟨a1,a2⟩:=ha;obtain ⟨b1,b2⟩:=hb;have A:a=1\/a=2\/a=3\/a=4\/a=5\/a=6:=by omega
 have B:b=1\/b=2\/b=3\/b=4\/b=5\/b=6:=by omega
 rcases A with rfl|rfl|rfl|rfl|rfl|rfl<;>rcases B with rfl|rfl|rfl|rfl|rfl|rfl<;>first|rfl|(revert h;decide)
theorem xJ{k:Int}:∀{a b:List Int},a.map (bU k)=b.map (bU k)->a=b:=λ{a b} h=>
 (List.map_inj_right λx y h=>by simp only[bU,Pt.mk.injEq,Pz,P5] at h;exact h).1 h
theorem key_inj{x y:Ky}(hx:x.ok)(hy:y.ok)(h:cS x=cS y):x=y:=by
 have h1:=BU (jl hx) (jl hy) h;obtain ⟨k,b,o,ns⟩:=x;obtain ⟨k',b',o',ns'⟩:=y;unfold fc at h1;simp only[Pf] at h1;obtain ⟨e1,e2,e3⟩:=h1;have ek:k=k':=An hx.k hy.k (by simpa [txt] using e1);have eb:b=b':=by simpa [txt] using e2
 subst ek eb;have hxe:=hx.e;have hye:=hy.e;have hxo:=hx.o;have hyo:=hy.o;simp only at hxe hye hxo hyo;by_cases hk:k=1
 ·rw[hxe hk,hye hk] at e3 |-;simp only[N9,List.nil_append] at e3;rw[xJ e3]
 ·have n1:o≠[]:=λe=>by have:=(eI (hxo hk)).1;rw[e] at this;simp at this
  have n2:o'≠[]:=λe=>by have:=(eI (hyo hk)).1;rw[e] at this;simp at this
  simp only[n1,n2,N5,List.cons_append,List.nil_append,Pf] at e3;obtain ⟨e4,e5⟩:=e3;have eo:o=o':=by simpa [txt] using e4
  rw[eo,xJ e5]
theorem BV{α:Type}{P:List α->Prop}(h0:P [])(h1:∀a x,P a->P (a++[x]))(l:List α):P l:=by
 have h:∀m:List α,P m.reverse:=λm=>by
  induction m with
  |nil=>exact h0
  |cons x m ih=>rw[List.reverse_cons];exact h1 _ x ih
 have:=h l.reverse
 rwa [List.reverse_reverse] at this
theorem Gp{α:Type}[Inhabited α]{r:α->α->Prop}(tr:∀x y z,r x y->r y z->r x z){l:List α}(h:∀i,i+1<l.length->r (l.getD i default) (l.getD (i+1) default)):l.Pairwise r:=by
 have key:∀d i,i+d+1<l.length->r (l.getD i default) (l.getD (i+d+1) default):=by
  intro d;induction d with
  |zero=>intro i hi;exact h i hi
  |succ d ih=>intro i hi;exact tr _ _ _ (ih i aa) (h (i+d+1) aa)
 rw[PA];intro i j hi hj hij;have:=key (j - i - 1) i aa;rw[show i+(j - i - 1)+1=j by omega,Av.fT hi,Av.fT hj] at this;exact this
theorem Gq{l:List Pr}(h:l.Pairwise λx y=>x.k≠y.k):∀x∈l,∀y∈l,x.k=y.k->x=y:=by
 intro x hx y hy e;obtain ⟨i,hi,rfl⟩:=P7.1 hx;obtain ⟨j,hj,rfl⟩:=P7.1 hy;have hp:=PA.1 h;rcases Nat.lt_trichotomy i j with h1|h1|h1
 ·exact absurd e (hp i j hi hj h1)
 ·subst h1;rfl
 ·exact absurd e.symm (hp j i hj hi h1)
theorem Ao{l:List Pr}(h:l.Pairwise λx y=>x.k≠y.k):l.Nodup:=h.imp λh e=>h (by rw[e])
theorem p9{k v:Bs}:∀{l:List Pr}{b:Bool},(∀x∈l,x.k≠k)->(eh k v b l).length=l.length+(if b then 0 else 1)/\∀x,x∈eh k v b l↔(b=false/\x=⟨k,v⟩)\/x∈l
 |[],b,_=>by cases b<;>simp[eh]
 |p::l,b,h=>by
  have h1:=p9 (k:=k) (v:=v) (l:=l) (b:=true) λx hx=>h x (by simp[hx]);have h2:=p9 (k:=k) (v:=v) (l:=l) (b:=false) λx hx=>h x (by simp[hx]);have hp:=h p af;simp only[N9,N5,Oa,Nat.add_zero,Bool.true_eq_false,false_and,false_or,Pz] at h1 h2;rw[eh];cases b<;>cases Op.bytesLess p.k k<;>simp[hp,h1.1,h2.1,h1.2,h2.2];all_goals (try intro x;try constructor)<;>(try (intro h;rcases h with h|h|h<;>simp[h]))
theorem sO{l:List Pr}(h:l.Pairwise λx y=>x.k≠y.k)(hs:∀p∈l,shut p.k p.v=false):(aH l).length=l.length/\∀x,x∈aH l↔x∈l:=by
 revert h hs;refine BV (P:=λl=>(l.Pairwise λx y=>x.k≠y.k)->(∀p∈l,shut p.k p.v=false)->(aH l).length=l.length/\∀x,x∈aH l↔x∈l) (λ_ _=>by simp[aH]) (λa p ih h hs=>?_) l;have hp:=QO.1 h;obtain ⟨i1,i2⟩:=ih hp.1 λq hq=>hs q (by simp[hq]);have hsp:=hs p af;rw[xH,jk,N7 (by rw[hsp];simp)];have:=p9 (k:=p.k) (v:=p.v) (l:=aH a) (b:=false) λx hx=>hp.2.2 x ((i2 x).1 hx) p af;refine ⟨by rw[this.1,i1];simp,λx=>?_⟩;rw[this.2,i2];simp only[Pz,OM,Oc];exact or_comm
theorem iE(l:List Pr):(aH l).Pairwise λx y=>Op.bytesLess x.k y.k=true:=(dM l).1
theorem mE{a b c:List UInt8}(h1:Op.bytesLess a b=true)(h2:Op.bytesLess b c=true):Op.bytesLess a c=true:=Batch.dH h1 h2
def vJ(n:List UInt8)(v:Vs):List Ky:=kyV n v::(List.range (dI v.b)).map (kyC n v)
def vK(b:Bk):List Ky:=kyB b::(b.l.map (vJ b.n)).flatten
def Ap(m:List Bk):List Ky:=(m.map vK).flatten
theorem xK(n:List UInt8)(v:Vs):(cT n v).map (λc=>c.k)=(vJ n v).map dC:=by
 simp[cT,vJ,chV,Function.comp_def,chC]
theorem Aq(b:Bk):(fF b).map (λp=>p.k)=(vK b).map dC:=by
 unfold fF bD vK;simp only[List.flatten_cons,O3,Oy,OE,Qe,List.singleton_append,List.map_flatten,Function.comp_def];congr 1;congr 1;refine Pd λv _=>?_;exact xK b.n v
theorem sP(m:List Bk):(aN m).map (λp=>p.k)=(Ap m).map dC:=by
 unfold aN Ap;simp only[List.map_flatten,Qe,Function.comp_def];congr 1;exact Pd λb _=>Aq b
theorem lN{m:List Bk}(h:imB m=true){b:Bk}(hb:b∈m):gX b=true:=by
 obtain ⟨i,hi,rfl⟩:=P7.1 hb;have:=(sI h).2 i hi
 rwa [show m.getD i default=m[i] by simp[Ou,N0 hi]] at this
theorem uF{b:Bk}(h:gX b=true){v:Vs}(hv:v∈b.l):v.okV=true:=by
 obtain ⟨i,hi,rfl⟩:=P7.1 hv;unfold gX at h;simp only[Ob] at h;have:=nq h.2 i hi
 rwa [show b.l.getD i default=b.l[i] by simp[Ou,N0 hi]] at this
theorem KO{v:Vs}(h:v.okV=true):bX v.o=0/\0<=v.id/\v.id<=1152921504606846976:=by
 simp only[Vs.okV,Ob,Oj] at h;exact ⟨h.1.1.1,h.1.1.2,h.1.2⟩
theorem mF{m:List Bk}(h:imB m=true):∀x∈Ap m,x.ok:=by
 intro x hx;unfold Ap at hx;obtain ⟨l,hl,hx⟩:=Pk.1 hx;obtain ⟨b,hb,rfl⟩:=Oo.1 hl;have hob:=lN h hb;have hbn:bT b.n=0:=by
  unfold gX at hob;simp only[Ob,Oj] at hob;exact hob.1.1
 unfold vK at hx;rcases Om.1 hx with rfl|hx
 ·exact ⟨by simp[kyB],rfl,by simp[kyB],λ_=>rfl,hbn,λh=>absurd rfl h⟩
 ·obtain ⟨l,hl,hx⟩:=Pk.1 hx;obtain ⟨v,hv,rfl⟩:=Oo.1 hl;have hov:=uF hob hv;obtain ⟨h1,h2,h3⟩:=KO hov;unfold vJ at hx;rcases Om.1 hx with rfl|hx
  ·exact ⟨by simp[kyV],rfl,by simp[kyV];omega,λh=>absurd h (by simp[kyV]),hbn,λ_=>h1⟩
  ·obtain ⟨k,hk,rfl⟩:=Oo.1 hx;have:=O1.1 hk;have h16:=lE (pc hov).2;exact ⟨by simp[kyC],rfl,by simp[kyC];omega,λh=>absurd h (by simp[kyC]),hbn,λ_=>h1⟩
theorem jn{m:List Bk}(h:imB m=true):m.Pairwise λa b=>Op.bytesLess a.n b.n=true:=by
 refine Gp (r:=λa b:Bk=>Op.bytesLess a.n b.n=true) (λx y z h1 h2=>mE h1 h2) λi hi=>?_;unfold imB at h;simp only[Ob,OH,O1] at h;have:=h.2 (i+1) hi;unfold o8 at this;simp only[Ob,OS,Oj,Nat.add_sub_cancel] at this;rcases this.2 with h|h
 ·omega
 ·exact h
theorem Ar{a b c:Vs}(h1:a.next b=true)(h2:b.next c=true):a.next c=true:=by
 unfold Vs.next at*
 simp only[OS,Ob,Oj] at*
 rcases h1 with h1|⟨h1,h3⟩ <;>rcases h2 with h2|⟨h2,h4⟩
 ·exact .inl (mE h1 h2)
 ·rw[<-h2];exact .inl h1
 ·rw[h1];exact .inl h2
 ·exact .inr ⟨h1.trans h2,aa⟩
theorem rf{b:Bk}(h:gX b=true):b.l.Pairwise λu v=>u.next v=true:=by
 refine Gp (r:=λu v:Vs=>u.next v=true) (λx y z h1 h2=>Ar h1 h2) λi hi=>?_;unfold gX at h;simp only[Ob] at h;have h:=h.2;unfold cQ at h;simp only[OH,O1] at h;have:=h (i+1) hi;unfold jx at this;simp only[Ob,OS,Oj,Nat.add_sub_cancel] at this;rcases this.1.2 with h|h
 ·omega
 ·exact h
theorem next_ne{u v:Vs}(h:u.next v=true):u.o≠v.o\/u.id≠v.id:=by
 unfold Vs.next at h;simp only[OS,Ob,Oj] at h;rcases h with h|⟨h1,h2⟩
 ·exact .inl (jK h)
 ·exact .inr aa
theorem rp{n:List UInt8}{v:Vs}{x:Ky}(h:x∈vJ n v):x.b=n/\x.o=v.o/\x.ns.head? =some v.id/\x.k≠1:=by
 unfold vJ at h;rcases Om.1 h with rfl|h
 ·exact ⟨rfl,rfl,rfl,by simp[kyV]⟩
 ·obtain ⟨k,hk,rfl⟩:=Oo.1 h;exact ⟨rfl,rfl,rfl,by simp[kyC]⟩
theorem BW{b:Bk}{x:Ky}(h:x∈vK b):x.b=b.n:=by
 unfold vK at h;rcases Om.1 h with rfl|h
 ·rfl
 ·obtain ⟨l,hl,hx⟩:=Pk.1 h;obtain ⟨v,hv,rfl⟩:=Oo.1 hl;exact (rp hx).1
theorem As(n:List UInt8)(v:Vs):(vJ n v).Pairwise (· ≠ ·):=by
 unfold vJ;refine Pu.2 ⟨λx hx=>?_,?_⟩
 ·obtain ⟨k,hk,rfl⟩:=Oo.1 hx;simp[kyV,kyC]
 ·refine PK.2 (List.Pairwise.imp (λ{a b} h e=>h ?_) (List.nodup_range:(List.range (dI v.b)).Nodup));have e2:((a:Int))=(b:Int):=by simpa [kyC] using e
  omega
theorem Au{b:Bk}(h:gX b=true):(vK b).Pairwise (· ≠ ·):=by
 unfold vK;refine Pu.2 ⟨λx hx e=>?_,?_⟩
 ·obtain ⟨l,hl,hx⟩:=Pk.1 hx;obtain ⟨v,hv,rfl⟩:=Oo.1 hl;have:=(rp hx).2.2.2;rw[<-e] at this;exact this rfl
 ·refine List.pairwise_flatten.2 ⟨λl hl=>?_,?_⟩
  ·obtain ⟨v,hv,rfl⟩:=Oo.1 hl;exact As _ _
  ·refine PK.2 (List.Pairwise.imp (λ{u v} hn x hx y hy e=>?_) (rf h));subst e;obtain ⟨-,a2,a3,-⟩:=rp hx;obtain ⟨-,b2,b3,-⟩:=rp hy;rcases next_ne hn with h|h
   ·exact h (a2.symm.trans b2)
   ·exact h (QZ (a3.symm.trans b3))
theorem Aw{m:List Bk}(h:imB m=true):(Ap m).Pairwise (· ≠ ·):=by
 unfold Ap;refine List.pairwise_flatten.2 ⟨λl hl=>?_,?_⟩
 ·obtain ⟨b,hb,rfl⟩:=Oo.1 hl;exact Au (lN h hb)
 ·refine PK.2 (List.Pairwise.imp (λ{a b} hn x hx y hy e=>?_) (jn h));subst e;exact jK hn ((BW hx).symm.trans (BW hy))
theorem iv{x:Ky}(h:x.ok):dC x=cS x:=by
 unfold dC;have:gx x=0:=by
  unfold gx;have h1:iO x=true:=by
   unfold iO mA;simp only[Ob,OH,Oj,OS,QR,P4];refine ⟨⟨λn hn=>(h.r n hn).1,h.n.symm⟩,?_⟩;by_cases hk:x.k=1
   ·exact .inr (h.e hk)
   ·exact .inl hk
  rw[h1,Of rfl,Of h.b];split
  ·rfl
  ·exact h.o ‹_›
 rw[Of this]
theorem gF{m:List Bk}(h:imB m=true):(aN m).Pairwise λx y=>x.k≠y.k:=by
 have h1:((Ap m).map dC).Pairwise (· ≠ ·):=by
  refine PK.2 ?_;refine QG (λ{a b} ha hb hn e=>hn ?_) (Aw h);rw[iv (mF h a ha),iv (mF h b hb)] at e;exact key_inj (mF h a ha) (mF h b hb) e
 rw[<-sP] at h1;exact PK.1 h1
theorem D0(s:List UInt8)(k:Nat):(chunk s k).length<=160:=by
 unfold chunk;rw[OC,OJ];omega
theorem D1(v:Vs):(mB v).length<=11:=by
 unfold mB cZ;split
 ·rw[gE];exact NY _
 ·simp
theorem Ix(v:Int):(stS v).length<=1:=by unfold stS;split<;>simp
theorem sQ{m:List Bk}(h:imB m=true):∀p∈aN m,shut p.k p.v=false:=by
 intro p hp;have hk:p.k.length<=81:=by
  have:p.k∈(aN m).map (λp=>p.k):=Oo.2 ⟨p,hp,rfl⟩;rw[sP] at this;obtain ⟨x,hx,e⟩:=Oo.1 this;have ho:=mF h x hx;rw[<-e,iv ho];exact o6 ho
 have hv:p.v.length<=160:=by
  unfold aN at hp;obtain ⟨l,hl,hp⟩:=Pk.1 hp;obtain ⟨b,hb,rfl⟩:=Oo.1 hl;unfold fF at hp;obtain ⟨c,hc,rfl⟩:=Oo.1 hp;obtain ⟨r,hr,hc⟩:=Pk.1 hc;unfold bD at hr;rcases Om.1 hr with rfl|hr
  ·simp only[Oc] at hc;subst hc;have:=Ix b.st;show (stS b.st).length<=160;omega
  ·obtain ⟨v,hv,rfl⟩:=Oo.1 hr;unfold cT at hc;rcases Om.1 hc with rfl|hc
   ·have:=D1 v;show (mB v).length<=160;omega
   ·obtain ⟨k,hk,rfl⟩:=Oo.1 hc;exact D0 _ _
 simp only[shut,QQ,P4];omega
theorem Gr{l:List Pr}(h:l.Pairwise λx y=>x.k≠y.k):∀x∈l,∀y∈l,x=y\/Op.bytesLess x.k y.k=true\/Op.bytesLess y.k x.k=true:=λx hx y hy=>by
 rcases Batch.fo x.k y.k with h1|h1|h1
 ·exact .inr (.inl h1)
 ·exact .inl (Gq h x hx y hy h1)
 ·exact .inr (.inr h1)
def rdT:List UInt8->Option (List UInt8 × Nat)
 |[]=>none
 |[_]=>none
 |a::b::r=>if a≠0 then (rdT (b::r)).map λx=>(a::x.1,x.2+1) else if b=255 then (rdT r).map λx=>(0::x.1,x.2+2) else if b=1 then some ([],2) else none
def lT(l:List UInt8):List UInt8:=l.set 0 (l.getD 0 0 ^^^ 128)
def rdN(m:UInt8)(b:List UInt8):Int:=i64 (lT (bA m b))
def rdP:List UInt8->Option (Pt × Nat)
 |[]=>none
 |a::r=>if a=2 then (rdT r).map λx=>(⟨1,0,x.1⟩,x.2+1) else if a=3 then (if r.length<8 then none else some (⟨2,rdN 0 (r.take 8),[]⟩,9)) else if a=4 then (if r.length<8 then none else some (⟨3,rdN 255 (r.take 8),[]⟩,9)) else none
theorem vL:∀{s t n},rdT s=some (t,n)->2<=n/\n<=s.length
 |[],_,_,h=>by simp[rdT] at h
 |[_],_,_,h=>by simp[rdT] at h
 |a::b::r,t,n,h=>by
  simp only[rdT] at h;split at h
  ·obtain ⟨⟨t',n'⟩,h1,h2⟩:=N8.1 h;have:=vL h1;simp only[Oq] at h2;simp only[List.length_cons] at*
   omega
  ·split at h
   ·obtain ⟨⟨t',n'⟩,h1,h2⟩:=N8.1 h;have:=vL h1;simp only[Oq] at h2;simp only[List.length_cons] at*
    omega
   ·split at h
    ·simp only[Oi,Oq] at h;simp only[List.length_cons];omega
    ·cases h
theorem ru{s:List UInt8}{p:Pt}{n:Nat}(h:rdP s=some (p,n)):1<=n/\n<=s.length:=by
 cases s with
 |nil=>simp[rdP] at h
 |cons a r=>
  simp only[rdP] at h;split at h
  ·obtain ⟨⟨t',n'⟩,h1,h2⟩:=N8.1 h;have:=vL h1;simp only[Oq] at h2;simp only[List.length_cons];omega
  ·split at h
   ·split at h
    ·cases h
    ·simp only[Oi,Oq] at h;simp only[List.length_cons];omega
   ·split at h
    ·split at h
     ·cases h
     ·simp only[Oi,Oq] at h;simp only[List.length_cons];omega
    ·cases h
def qL:Nat->List UInt8->Option (List Pt)
 |0,s=>if s=[] then some [] else none
 |k+1,s=>if s=[] then some [] else match rdP s with
  |none=>none
  |some (p,n)=>(qL k (s.drop n)).map (p:: ·)
theorem uG:∀{k j:Nat}{s:List UInt8},s.length<=k->s.length<=j->qL k s=qL j s
 |0,0,_,_,_=>rfl
 |0,j+1,s,h,_=>by
  have:s=[]:=List.eq_nil_of_length_eq_zero aa;subst this;simp[qL]
 |k+1,0,s,_,h=>by
  have:s=[]:=List.eq_nil_of_length_eq_zero aa;subst this;simp[qL]
 |k+1,j+1,s,h1,h2=>by
  simp only[qL];split
  ·rfl
  ·cases hp:rdP s with
   |none=>rfl
   |some x=>
    obtain ⟨p,n⟩:=x;have:=ru hp;simp only;rw[uG (k:=k) (j:=j) (by rw[OC];omega) (by rw[OC];omega)]
def pf(s:List UInt8):Option (List Pt):=qL s.length s
theorem xL:pf []=some []:=rfl
theorem kF{s:List UInt8}(h:s≠[]):pf s=match rdP s with|none=>none|some (p,n)=>(pf (s.drop n)).map (p:: ·):=by
 unfold pf;obtain ⟨k,hk⟩:∃k,s.length=k+1:=⟨s.length - 1,by have:=Qb.2 h;omega⟩;rw[hk];simp only[qL,N7 h];cases hp:rdP s with
 |none=>rfl
 |some x=>
  obtain ⟨p,n⟩:=x;have:=ru hp;simp only;rw[uG (k:=k) (j:=(s.drop n).length) (by rw[OC];omega) (NY _)]
def iV(s:List UInt8):List Pt:=if 128<s.length then [] else (pf s).getD []
def jV(s:List UInt8):Int:=if 128<s.length then 5 else if (pf s).isSome then 0 else 4
theorem mG(c:UInt8)(l:List UInt8):val (c::l)=c.toNat*256^l.length+val l:=by
 have key:∀(l:List UInt8)(a:Nat),l.foldl (λn c=>n*256+c.toNat) a=a*256^l.length+val l:=by
  intro l;induction l with
  |nil=>intro a;simp[Batch.val]
  |cons c l ih=>
   intro a;rw[List.foldl_cons,ih,List.length_cons];have:val (c::l)=c.toNat*256^l.length+val l:=by
    show (c::l).foldl _ 0=_;rw[List.foldl_cons,ih];simp
   rw[this,Px,Nat.pow_succ,Nat.mul_assoc,Nat.mul_comm 256,PH]
 have:=key l c.toNat;show (c::l).foldl _ 0=_;rw[List.foldl_cons];simpa using this
theorem KP(a:UInt8):(a ^^^ 128).toNat=if a.toNat<128 then a.toNat+128 else a.toNat - 128:=by
 have h:∀x:BitVec 8,(x ^^^ 128#8).toNat=if x.toNat<128 then x.toNat+128 else x.toNat - 128:=by decide
 exact h a.toBitVec
theorem NP(n:Nat)(h:n<18446744073709551616):nN .u64 (n:Int) 9223372036854775808=((if n<9223372036854775808 then n+9223372036854775808 else n - 9223372036854775808:Nat):Int):=by
 split
 ·exact F3 n ‹_›
 ·have e:=F3 (n - 9223372036854775808) aa;have e1:n - 9223372036854775808+9223372036854775808=n:=by omega
  rw[e1] at e;rw[<-e];unfold nN;change IntKind.u64.wrap (((BitVec.ofInt 64 (IntKind.u64.wrap (((BitVec.ofInt 64 ((n - 9223372036854775808:Nat):Int) ^^^ BitVec.ofInt 64 9223372036854775808).toNat:Nat):Int)) ^^^ BitVec.ofInt 64 9223372036854775808).toNat:Nat):Int)=_;generalize hb:BitVec.ofInt 64 ((n - 9223372036854775808:Nat):Int)=b;have hw:IntKind.u64.wrap (((b ^^^ BitVec.ofInt 64 9223372036854775808).toNat:Nat):Int)=(((b ^^^ BitVec.ofInt 64 9223372036854775808).toNat:Nat):Int):=IntWalk.u64_in _ (by have:=(b ^^^ BitVec.ofInt 64 9223372036854775808).isLt;omega);rw[hw,BitVec.ofInt_natCast,BitVec.ofNat_toNat,BitVec.setWidth_eq,BitVec.xor_assoc,BitVec.xor_self,BitVec.xor_zero,<-hb];rw[BitVec.ofInt_natCast,Qz,O9 aa];exact IntWalk.u64_in _ aa
theorem Iy{l:List UInt8}(h:l.length=8):nN .u64 (val l:Int) 9223372036854775808=(val (lT l):Int):=by
 cases l with
 |nil=>simp at h
 |cons a r=>
  simp only[List.length_cons] at h;have hr:r.length=7:=by omega
  have h1:=mG a r;have h2:=jU r;rw[hr] at h1 h2;have e:(256:Nat)^7=72057594037927936:=by decide
  rw[e] at h1 h2;have ha:=a.toNat_lt;have h3:val (lT (a::r))=(a ^^^ 128).toNat*72057594037927936+val r:=by
   have:lT (a::r)=(a ^^^ 128)::r:=rfl;rw[this,mG,hr,e]
  rw[h3,KP,h1,NP _ aa];congr 1;split<;>split<;>omega
theorem xM(v c:Nat)(hv:v<72057594037927936)(hc:c<256):orI .u64 ((v*256:Nat):Int) (c:Int)=((v*256+c:Nat):Int):=by
 unfold orI;change IntKind.u64.wrap (((BitVec.ofInt 64 ((v*256:Nat):Int) ||| BitVec.ofInt 64 (c:Int)).toNat:Nat):Int)=_;rw[BE v c hv hc];exact IntWalk.u64_in _ aa
theorem Gs(b:List UInt8)(hb:b.length=8)(m:UInt8):aI Tryz.prog 199 [.str b,.int .u8 m.toNat] (.int .i64 (rdN m b)):=by
 refine f199.aE af rfl rfl ?_;unfold Mr zz;have lb:=bI b;have lm:=cJ m b;have vt:=Iy (l:=bA m b) (by rw[lm,hb]);have hv:∀j,j<=8->val ((bA m b).take j)<256^j:=λj hj=>by
  have:=jU ((bA m b).take j)
  rwa [OJ,lm,hb,Pv hj] at this
 have hstep:∀j,j<8->val ((bA m b).take (j+1))=val ((bA m b).take j)*256+(b.getD j 0 ^^^ m).toNat:=λj hj=>by
  rw[sq _ _ (by rw[lm,hb];exact hj)];congr 2;simp[bA,List.getD,N0 (show j<b.length by omega)]
 refine rf0 lb ?_;refine Wp.le (s':=⟨tm [(1,.int .u8 m.toNat),(5,.int .u64 0),(9,.sl 1 (aD b) .any),(10,.int .i64 8),(11,.int .i64 0)],H0 0 1⟩) (aL.of (aS ?_) (λa o ho=>by cases ho) (λa ha=>by cases ha) (NY _) (NY _)) ?_
 ·have h8:((b.length:Nat):Int)=8:=by omega
  simp only[aR,go_sem,reduceIte,Nat.reduceEqDiff,Nat.reduceAdd,bx,h8];and_intros<;>first|exact trivial|exact av.refl _|exact av.any _|exact av.cap|(refine av.int ?_;omega)
 refine Wp.dB [1,9,10] xA6 (λj:Nat=>[(5,.int .u64 (val ((bA m b).take j))),(11,.int .i64 (j:Nat))]) (λj=>j<=8) (λj=>8 - j) 0 (Og _) ?_ ?_
 ·exact bY @Ph.{0}
 rintro j hj;by_cases hc:j<8
 ·have g1:decide ((j:Int)<8)=true:=N3 aa;have g2:(0:Int)<=(j:Int):=by omega
  have g3:(j:Int)<(b.length:Int):=by omega
  have hat:(aD b).getD j .any=byte (b.getD j 0):=by
   exact lg b j .any aa
  unfold byte at hat;have hvj:=hv j aa;have hpw:(256:Nat)^j<=256^7:=P8 aa aa;have e7:(256:Nat)^7=72057594037927936:=by decide
  rw[e7] at hpw;have hs:=hstep j hc;have x0:=FZ (b.getD j 0) m;have hc2:=(b.getD j 0 ^^^ m).toNat_lt;generalize val ((bA m b).take j)=v at*
  have e1:IntKind.u64.wrap ((v:Int)*2^(min (Int.toNat 8) 64))=((v*256:Nat):Int):=by
   rw[show min (Int.toNat 8) 64=8 from rfl,IntWalk.u64_in _ aa];omega
  have e2:¬(8:Int)<0:=by omega
  have o1:=xM v _ aa hc2;generalize (b.getD j 0 ^^^ m).toNat=c at*
  have e3:IntKind.u64.wrap (c:Int)=(c:Int):=IntWalk.u64_in _ aa;have e5:IntKind.i64.wrap ((j:Int)+1)=((j+1:Nat):Int):=by rw[IntWalk.i64_in _ aa];omega
  refine rf0 (aY g1 g2 g3 lb hat x0 wU e1 e2 e3 o1 (cj2 @NZ @Oe)) ?_;refine ⟨j+1,aa,aa,?_⟩;rw[hs];exact u5 e5
 ·have hj8:j=8:=by omega
  subst hj8;have ht:(bA m b).take 8=bA m b:=OT (by rw[lm,hb];exact NY _);have g1:decide (((8:Nat):Int)<8)=false:=rfl;rw[ht];refine rf0 (cj2 g1 vt) ?_;refine aG ?_;exact av.refl _
def pg:Pt:=⟨0,0,[]⟩
def rdR(s:List UInt8):Pt × Nat:=(rdP s).getD (pg,0)
theorem dR(c:UInt8)(k:Nat)(hk:k<256):decide (((c.toNat:Nat):Int)=(k:Int))=decide (c=UInt8.ofNat k):=by
 rw[Qv];constructor
 ·intro h;apply Q4.1;rw[UInt8.toNat_ofNat',O9 hk];omega
 ·rintro rfl;rw[UInt8.toNat_ofNat',O9 hk]
theorem Ax(l:List UInt8):bA 0 l=l:=by simp[bA]
theorem Iz(b:List UInt8):mix b b.length=bA 255 b:=by
 unfold mix bA;rw[Ot,List.drop_length,ON];exact Pd λx _=>(F6 x).symm
theorem xN(a:UInt8)(r:List UInt8)(hr:r.length<=1000)(d:Bool)(ha:a=if d then 4 else 3):aI Tryz.prog 163 [.str (a::r)] (.tup [bR (rdR (a::r)).1,.int .i64 (rdR (a::r)).2]):=by
 refine f163.aE af rfl rfl ?_;unfold HY zz;have hsl:(a::r).length=r.length+1:=rfl;have l0:(0:Int)<(((a::r).length:Nat):Int):=by omega
 have g0:(a::r).getD 0 0=a:=rfl;have q3:=dR a 3 al;have q4:=dR a 4 al;have e3:decide (a=UInt8.ofNat 3)= !d:=by rw[ha];cases d<;>decide
 have e4:decide (a=UInt8.ofNat 4)=d:=by rw[ha];cases d<;>decide
 rw[e3] at q3;rw[e4] at q4;have hbyte:((3:Nat):Int)=3:=rfl;have hbyte4:((4:Nat):Int)=4:=rfl;rw[hbyte] at q3;rw[hbyte4] at q4;by_cases h8:r.length<8
 ·have hR:rdR (a::r)=(pg,0):=by
   unfold rdR rdP;rw[ha];cases d<;>simp[h8]
  have d1:decide ((((a::r).length:Nat):Int)<9)=true:=N3 aa;rw[hR];unfold pg bR;generalize hs0:a::r=s0 at*
  cases d
  ·refine rf0 (gw l0 g0 @byte.eq_1 q3 @q4 d1 Int.toNat_zero @OL @Oe @OK @OB) ?_;refine aG ?_;exact av.refl _
  ·refine rf0 (gw l0 g0 @byte.eq_1 q3 @q4 d1 Int.toNat_zero @OL @Oe @OK @OB) ?_;refine aG ?_;exact av.refl _
 ·have d1:decide ((((a::r).length:Nat):Int)<9)=false:=N1 aa;have x1:(9:Int)<=(((a::r).length:Nat):Int):=by omega
  have x0:(0:Int)<=1:=by decide
  have x2:(1:Int)<=((9:Nat):Int):=by decide
  have x3:(0:Int)<=9:=by decide
  have t1:Int.toNat 1=1:=rfl;have t9:Int.toNat 9=9:=rfl;have hsub:((a::r).take 9).drop 1=r.take 8:=rfl;have hR:rdR (a::r)=(⟨if d then 3 else 2,rdN (if d then 255 else 0) (r.take 8),[]⟩,9):=by
   unfold rdR rdP;rw[ha];cases d<;>simp[h8]
  rw[hR];have h8':(r.take 8).length=8:=by simp;omega
  generalize hs0:a::r=s0 at*
  generalize hB:r.take 8=b at*
  cases d
  ·have xk:IntKind.i64.wrap (IntKind.i64.wrap ((a.toNat:Nat):Int) - 1)=2:=by rw[ha];rfl
   refine rf0 (gw l0 g0 @byte.eq_1 q3 @q4 d1 Int.toNat_zero @OL @Oe @OK @OB) ?_;refine Wp.pT ?_;refine aw.op1 ae xA1 ?_;simp only[bq];refine aw.op1 ae (by simp only[go_sem,reduceIte,Nat.reduceEqDiff,Nat.reduceAdd,bx,x0,x1,x2,x3,t1,t9,hsub,Option.bind_some,Option.map_some];exact rfl) ?_;simp only[bq];refine aw.s2b (l:=b) ae (by simp only[go_sem,reduceIte,Nat.reduceEqDiff,hsub]) aa ?_;simp only[bq];refine aw.evF xAc ?_;refine dG ?_;refine Wp.le (s':=⟨tm [(0,.str s0),(2,.ptr 0 0),(4,.bool false),(5,.tsl 1 1 0 b.length none),(6,.int .i64 0)],⟨upd (upd aA 0 (some (.cells [.int .i64 0,.int .i64 0,.str []]))) 1 (some (dA b)),2,[],0⟩⟩) (aL.of (aS ?_) (OLe.bK _) (λa ha=>ha) (NY _) (NY _)) ?_
   ·exact xSb
   refine Wp.cI [0,2,4,5] xA7 (λj:Unit=>[(6,.int .i64 0)]) (λj=>⟨upd (upd aA 0 (some (.cells [.int .i64 0,.int .i64 0,.str []]))) 1 (some (dA b)),2,[],0⟩) (λ_=>True) (λ_=>0) () trivial rfl ?_ ?_
   ·exact xSb
   rintro - -
   have z1:decide ((0:Int)<8)=true:=rfl;have hB0:b.length=8:=h8';have l1:(0:Int)<((b.length:Nat):Int):=by omega
   have xx:=FZ (b.getD 0 0) 128;have xy:((128:UInt8).toNat:Int)=128:=rfl;rw[xy] at xx;have htop:lT (bA 0 b)=b.set 0 (b.getD 0 0 ^^^ 128):=by rw[Ax];rfl
   have hlt:(b.set 0 (b.getD 0 0 ^^^ 128)).length=b.length:=by rw[List.length_set]
   refine rf0 (cj7 z1 l1 Int.toNat_zero @OL @Oe @Qr @Nat.add_zero) ?_;refine aw.wV (l:=b) ae ar (by simp only[upd,reduceIte]) aa ?_;simp only[bq];refine aw.evF (xAd (cj7 xx l1 Int.toNat_zero @OL @Oe @Qr @Nat.add_zero)) ?_;refine aw.sa (b:=b.getD 0 0 ^^^ 128) (l:=b) ae ar (by simp only[upd,reduceIte]) (by simp only[go_sem,reduceIte,Nat.reduceEqDiff]) aa ?_;try simp only[bq]
   refine aw.nil ?_;have hS:lT (bA 0 b)=b.set 0 (b.getD 0 0 ^^^ 128):=htop;refine Wp.le (aL.LG _ _ 1 5 (l:=b.set 0 (b.getD 0 0 ^^^ 128)) (c:=none) (by simp only[upd,reduceIte]) (by simp only[go_sem,reduceIte,Nat.reduceEqDiff];rw[hlt])) ?_;rw[<-hS];have hSl:(lT (bA 0 b)).length=8:=by rw[hS,hlt];exact h8'
   have cn:=kv (lT (bA 0 b)) 0 8 aa aa aa;have hN:i64 (((lT (bA 0 b)).drop 0).take 8)=rdN 0 b:=by
    rw[Pw,OT aa];rfl
   rw[hN] at cn;have z0:((0:Nat):Int)=0:=rfl;have z8:((8:Nat):Int)=8:=rfl;rw[z0,z8] at cn;clear hS htop hlt hB0 hN;generalize lT (bA 0 b)=S at*
   refine Wp.le (s':=⟨tm [(0,.str s0),(2,.ptr 0 0),(5,.sl 1 (aD S) .any)],⟨upd aA 0 (some (.cells [.int .i64 0,.int .i64 0,.str []])),2,[],0⟩⟩) (aL.of (aS ?_) ?_ (λa ha=>ha) (NY _) (NY _)) ?_
   ·exact bY (cj3 @unT.eq_1 @decide_false @Oa)
   ·intro j o ho;refine ⟨o,?_,cy.refl _⟩;simp only[upd,aA] at ho |-;split at ho
    ·rename_i e;subst e;simpa using ho
    ·cases ho
   refine rn1 (gv l0 g0 @byte.eq_1 xk @cz @Ol.{0,0} @OW Int.toNat_zero @OL @Oe) cn ?_;refine aG ?_;exact av.refl _
  ·have xk:IntKind.i64.wrap (IntKind.i64.wrap ((a.toNat:Nat):Int) - 1)=3:=by rw[ha];rfl
   refine rf0 (gw l0 g0 @byte.eq_1 q3 @q4 d1 Int.toNat_zero @OL @Oe @OK @OB) ?_;refine Wp.pT ?_;refine aw.op1 ae xA1 ?_;simp only[bq];refine aw.op1 ae (by simp only[go_sem,reduceIte,Nat.reduceEqDiff,Nat.reduceAdd,bx,x0,x1,x2,x3,t1,t9,hsub,Option.bind_some,Option.map_some];exact rfl) ?_;simp only[bq];refine aw.s2b (l:=b) ae (by simp only[go_sem,reduceIte,Nat.reduceEqDiff,hsub]) aa ?_;simp only[bq];refine aw.evF xAc ?_;refine dG ?_;refine Wp.le (s':=⟨tm [(0,.str s0),(2,.ptr 0 0),(4,.bool true),(5,.tsl 1 1 0 b.length none),(6,.int .i64 0)],⟨upd (upd aA 0 (some (.cells [.int .i64 0,.int .i64 0,.str []]))) 1 (some (dA b)),2,[],0⟩⟩) (aL.of (aS ?_) (OLe.bK _) (λa ha=>ha) (NY _) (NY _)) ?_
   ·exact xSb
   refine Wp.cI [0,2,4,5] xA7 (λj:Nat=>[(6,.int .i64 j)]) (λj=>⟨upd (upd aA 0 (some (.cells [.int .i64 0,.int .i64 0,.str []]))) 1 (some (dA (mix b j))),2,[],0⟩) (λj=>j<=b.length) (λj=>b.length - j) 0 (Og _) (by simp[mix]) ?_ ?_
   ·exact xSb
   rintro j hj;have lm:=og b j;by_cases hc:j<b.length
   ·obtain ⟨g1,h2,h3,e1⟩:=ixF (j:=j) (n:=b.length) aa aa;have hat:=F9 b j hc;have hse:=BO b j hc;have hsu:=F7 (b.getD j 0);have z1:decide ((j:Int)<8)=true:=N3 aa;refine rf0 (cj7 z1 h2 h3 @Oe @NZ @OO @Od) ?_;refine aw.wV (l:=mix b j) ae ar (by simp only[upd,reduceIte]) aa ?_;simp only[bq];refine aw.evF (xAd (cj8 hat hsu h2 h3 @Oe @NZ @OO @Od)) ?_;refine aw.sa (b:=255 - b.getD j 0) (l:=mix b j) ae ar (by simp only[upd,reduceIte]) (by simp only[go_sem,reduceIte,Nat.reduceEqDiff]) aa ?_;try simp only[bq]
    refine aw.nil ?_;refine dG ?_;rw[hse];refine ⟨j+1,aa,aa,?_⟩;refine aL.of (aS ?_) ?_ (λa ha=>ha) (NY _) (NY _)
    ·exact bY e1
    ·intro k o ho;refine ⟨o,?_,cy.refl _⟩;simp only[upd,aA] at ho |-;by_cases k1:k=1
     ·simpa [k1] using ho
     ·simpa [k1] using ho
   ·have hj2:j=b.length:=by omega
    subst hj2;have e8:decide (((b.length:Nat):Int)<8)=false:=N1 aa;rw[Iz] at*
    have hm8:(bA 255 b).length=b.length:=cJ 255 b;generalize hBB:bA 255 b=BB at*
    have l1:(0:Int)<((b.length:Nat):Int):=by omega
    have xx:=FZ (BB.getD 0 0) 128;have xy:((128:UInt8).toNat:Int)=128:=rfl;rw[xy] at xx;refine rf0 (cj7 e8 l1 Int.toNat_zero @OL @Oe @Qr @Nat.add_zero) ?_;refine aw.wV (l:=BB) ae ar (by simp only[upd,reduceIte]) aa ?_;simp only[bq];refine aw.evF (xAd (cj7 xx l1 Int.toNat_zero @OL @Oe @Qr @Nat.add_zero)) ?_;refine aw.sa (b:=BB.getD 0 0 ^^^ 128) (l:=BB) ae ar (by simp only[upd,reduceIte]) (by simp only[go_sem,reduceIte,Nat.reduceEqDiff]) aa ?_;try simp only[bq]
    refine aw.nil ?_;have hS:lT BB=BB.set 0 (BB.getD 0 0 ^^^ 128):=rfl;have hlt:(BB.set 0 (BB.getD 0 0 ^^^ 128)).length=b.length:=by rw[List.length_set];exact hm8
    refine Wp.le (aL.LG _ _ 1 5 (l:=BB.set 0 (BB.getD 0 0 ^^^ 128)) (c:=none) (by simp only[upd,reduceIte]) (by simp only[go_sem,reduceIte,Nat.reduceEqDiff];rw[hlt])) ?_;rw[<-hS];have hSl:(lT BB).length=8:=by rw[hS,hlt];exact h8'
    have cn:=kv (lT BB) 0 8 aa aa aa;have hN:i64 (((lT BB).drop 0).take 8)=rdN 255 b:=by
     rw[Pw,OT aa,<-hBB];rfl
    rw[hN] at cn;have z0:((0:Nat):Int)=0:=rfl;have z8:((8:Nat):Int)=8:=rfl;rw[z0,z8] at cn;clear hS hlt hN;generalize lT BB=S at*
    refine Wp.le (s':=⟨tm [(0,.str s0),(2,.ptr 0 0),(5,.sl 1 (aD S) .any)],⟨upd aA 0 (some (.cells [.int .i64 0,.int .i64 0,.str []])),2,[],0⟩⟩) (aL.of (aS ?_) ?_ (λa ha=>ha) (NY _) (NY _)) ?_
    ·exact bY (cj3 @unT.eq_1 @decide_false @Oa)
    ·intro j o ho;refine ⟨o,?_,cy.refl _⟩;simp only[upd,aA] at ho |-;split at ho
     ·rename_i e;subst e;simpa using ho
     ·cases ho
    refine rn1 (gv l0 g0 @byte.eq_1 xk @cz @Ol.{0,0} @OW Int.toNat_zero @OL @Oe) cn ?_;refine aG ?_;exact av.refl _
theorem vM(a:UInt8)(l:List UInt8)(h:a≠0):rdT (a::l)=(rdT l).map λx=>(a::x.1,x.2+1):=by
 cases l with
 |nil=>rfl
 |cons b r=>simp[rdT,h]
theorem cA(s:List UInt8)(j:Nat)(h:j<s.length):s.drop j=s.getD j 0::s.drop (j+1):=by
 rw[PX h];congr 1;simp[List.getD,N0 h]
theorem Gt(a:UInt8)(r:List UInt8)(hr:r.length<=1000)(ha:a=2):aI Tryz.prog 163 [.str (a::r)] (.tup [bR (rdR (a::r)).1,.int .i64 (rdR (a::r)).2]):=by
 refine f163.aE af rfl rfl ?_;unfold HY zz;have hsl:(a::r).length=r.length+1:=rfl;have l0:(0:Int)<(((a::r).length:Nat):Int):=by omega
 have g0:(a::r).getD 0 0=a:=rfl;have q3:=dR a 3 al;have q4:=dR a 4 al;have q2:=dR a 2 al;have e3:decide (a=UInt8.ofNat 3)=false:=by rw[ha];decide
 have e4:decide (a=UInt8.ofNat 4)=false:=by rw[ha];decide
 have e2:decide (a=UInt8.ofNat 2)=true:=by rw[ha];decide
 rw[e3] at q3;rw[e4] at q4;rw[e2] at q2;have hbyte:((3:Nat):Int)=3:=rfl;have hbyte4:((4:Nat):Int)=4:=rfl;have hbyte2:((2:Nat):Int)=2:=rfl;rw[hbyte] at q3;rw[hbyte4] at q4;rw[hbyte2] at q2;have hR:rdR (a::r)=((rdT ((a::r).drop 1)).map λx=>((⟨1,0,x.1⟩:Pt),x.2+1)).getD (pg,0):=by
  unfold rdR rdP;rw[ha];simp
 generalize hs0:a::r=s at*
 generalize rdR s=R at*
 refine rf0 (gw l0 g0 @byte.eq_1 q3 @q4 @q2 Int.toNat_zero @OL @Oe @OK @OB) ?_;refine Wp.cI [0,2] xA7 (λj:Nat × List UInt8 × Option Nat × Nat=>[(7,.sl 1 (aD j.2.1) (ju j.2.1.length j.2.2.1)),(8,.int .i64 (j.1:Nat))]) (λj=>⟨upd aA 0 (some (.cells [.int .i64 0,.int .i64 0,.str []])),1,mu j.2.2.1,j.2.2.2⟩) (λj=>1<=j.1/\j.1<=s.length/\j.2.1.length<=j.1/\rdT (s.drop 1)=(rdT (s.drop j.1)).map (λx=>(j.2.1++x.1,x.2+(j.1 - 1)))) (λj=>s.length - j.1) (1,[],none,0) ⟨aa,aa,by simp,by simp⟩ rfl ?_ ?_
 ·exact bY (cj4 @ju.eq_1 @aD.eq_1 @OE.{0,0} @N4.{0})
 rintro ⟨j,acc,o,m'⟩ ⟨h1,hj,hacc,hinv⟩;simp only at h1 hj hacc hinv;rw[hinv] at hR;have lb:=bI acc;by_cases hc:j<s.length
 ·obtain ⟨g1,h2,h3,e1⟩:=ixF (j:=j) (n:=s.length) aa aa;have hda:=cA s j hc;have e3:acc.length+1<=140737488355328:=by omega
  have e4:acc.length+1<4611686018427387904:=by omega
  by_cases hz:s.getD j 0=0
  ·have z0:((0:UInt8).toNat:Int)=0:=rfl;have zd:decide ((0:Int)=0)=true:=rfl;by_cases hn:j+1<s.length
   ·have hdb:=cA s (j+1) hn;have y1:decide (((j+1:Nat):Int)=(s.length:Int))=false:=N1 aa;have y2:(0:Int)<=((j+1:Nat):Int):=by omega
    have y3:((j+1:Nat):Int)<(s.length:Int):=by omega
    have p1:=dR (s.getD (j+1) 0) 1 al;have p255:=dR (s.getD (j+1) 0) 255 al;have n1:((1:Nat):Int)=1:=rfl;have n255:((255:Nat):Int)=255:=rfl;rw[n1] at p1;rw[n255] at p255;rw[hda,hdb,hz] at hR;by_cases b1:s.getD (j+1) 0=1
    ·rw[b1] at p1 p255;have c1:decide ((1:UInt8)=UInt8.ofNat 1)=true:=by decide
     have c2:decide ((1:UInt8)=UInt8.ofNat 255)=false:=by decide
     rw[c1] at p1;rw[c2] at p255;have hR2:R=(⟨1,0,acc⟩,j+2):=by
      rw[hR,b1];have:rdT ((0:UInt8)::1::s.drop (j+1+1))=some ([],2):=by simp[rdT]
      rw[this];simp;omega
     subst hR2;have w2:IntKind.i64.wrap ((j:Int)+2)=((j+2:Nat):Int):=by rw[IntWalk.i64_in _ aa];omega
     refine rf0 (aY g1 h2 h3 @Oe @NZ @byte.eq_1 hz z0 zd e1 y1 (cj9 y2 y3 b1 p1 p255 @cz @Ol.{0,0} @OW w2)) ?_;refine aG ?_;exact av.refl _
    ·have c1:decide (s.getD (j+1) 0=UInt8.ofNat 1)=false:=N1 b1;rw[c1] at p1;by_cases b2:s.getD (j+1) 0=255
     ·have c2:decide (s.getD (j+1) 0=UInt8.ofNat 255)=true:=N3 b2;rw[c2] at p255;have hR2:rdT (s.drop 1)=(rdT (s.drop (j+1+1))).map (λx=>(acc++[0]++x.1,x.2+(j+1+1 - 1))):=by
       rw[hinv,hda,hdb,hz,b2];have:rdT ((0:UInt8)::255::s.drop (j+1+1))=(rdT (s.drop (j+1+1))).map λx=>(0::x.1,x.2+2):=by simp[rdT]
       rw[this,Option.map_map];congr 1;funext x;simp;omega
      have w2:IntKind.i64.wrap (((j+1:Nat):Int)+1)=((j+1+1:Nat):Int):=by rw[IntWalk.i64_in _ aa];omega
      have hl2:(acc++[0]).length<=j+1+1:=by simp only[N6,List.length_cons,List.length_nil];omega
      cases o with
      |none=>
       refine rf0 (aY g1 h2 h3 @NZ @byte.eq_1 hz z0 zd e1 y1 y2 (aY y3 p1 p255 w2 @mu.eq_1 @ju.eq_1 lb e3 e4 @OO @Pl (cj9 @Pz @Oe @ne_eq.{1} @Ow @N2.{0} @N4.{0} @Od @OW @Oc.{0}))) ?_;refine ⟨(j+1+1,acc++[0],some m',m'+1),⟨by simp only;omega,by simp only;omega,hl2,hR2⟩,by simp only;omega,?_⟩;refine aL.tm (by simp only[aR,go_sem,reduceIte,Nat.reduceEqDiff,Nat.reduceAdd,bx,e1,w2,ju];and_intros<;>first|exact trivial|exact av.refl _|exact av.any _|exact av.of_eq (by simp[aD,byte])|(refine av.int ?_;omega))
      |some tk=>
       refine rf0 (aY g1 h2 h3 @NZ @byte.eq_1 hz z0 zd e1 y1 y2 (aY y3 p1 p255 w2 @mu.eq_2 @ju.eq_2 lb e3 e4 @OO @Pl (cj9 @Pz @Oe @ne_eq.{1} @Ow @N2.{0} @N4.{0} @Od @OW @Oc.{0}))) ?_;refine ⟨(j+1+1,acc++[0],some m',m'+1),⟨by simp only;omega,by simp only;omega,hl2,hR2⟩,by simp only;omega,?_⟩;refine aL.tm (by simp only[aR,go_sem,reduceIte,Nat.reduceEqDiff,Nat.reduceAdd,bx,e1,w2,ju];and_intros<;>first|exact trivial|exact av.refl _|exact av.any _|exact av.of_eq (by simp[aD,byte])|(refine av.int ?_;omega))
     ·have c2:decide (s.getD (j+1) 0=UInt8.ofNat 255)=false:=N1 b2;rw[c2] at p255;have hR2:R=(pg,0):=by
       rw[hR];have:rdT ((0:UInt8)::s.getD (j+1) 0::s.drop (j+1+1))=none:=by
        generalize s.getD (j+1) 0=y at*
        simp[rdT,b1,b2]
       rw[this];rfl
      subst hR2;unfold pg bR;refine rf0 (aY g1 h2 h3 @Oe @NZ @byte.eq_1 hz z0 zd e1 y1 (cj4 y2 y3 p1 p255)) ?_;refine aG ?_;exact av.refl _
   ·have hdn:s.drop (j+1)=[]:=OY aa;have y1:decide (((j+1:Nat):Int)=(s.length:Int))=true:=N3 aa;rw[hda,hdn,hz] at hR;have hR2:R=(pg,0):=by rw[hR];rfl
    subst hR2;unfold pg bR;refine rf0 (gw g1 h2 h3 @Oe @NZ @byte.eq_1 hz z0 zd e1 y1) ?_;refine aG ?_;exact av.refl _
  ·have d3:=sy hz;have hR2:rdT (s.drop 1)=(rdT (s.drop (j+1))).map (λx=>(acc++[s.getD j 0]++x.1,x.2+(j+1 - 1))):=by
    rw[hinv,hda,vM _ _ hz,Option.map_map];congr 1;funext x;simp;omega
   have hl2:(acc++[s.getD j 0]).length<=j+1:=by simp only[N6,List.length_cons,List.length_nil];omega
   cases o with
   |none=>
    refine rf0 (aY g1 h2 h3 @NZ @byte.eq_1 d3 e1 @mu.eq_1 @ju.eq_1 lb e3 (aY e4 @OO @Pl @Pz @Oe @ne_eq.{1} @Ow @N2.{0} @N4.{0} @Od @OW @Oc.{0})) ?_;refine ⟨(j+1,acc++[s.getD j 0],some m',m'+1),⟨by simp only;omega,by simp only;omega,hl2,hR2⟩,by simp only;omega,?_⟩;refine aL.tm (by simp only[aR,go_sem,reduceIte,Nat.reduceEqDiff,Nat.reduceAdd,bx,e1,ju];and_intros<;>first|exact trivial|exact av.refl _|exact av.any _|exact av.of_eq (by simp[aD,byte])|(refine av.int ?_;omega))
   |some tk=>
    refine rf0 (aY g1 h2 h3 @NZ @byte.eq_1 d3 e1 @mu.eq_2 @ju.eq_2 lb e3 (aY e4 @OO @Pl @Pz @Oe @ne_eq.{1} @Ow @N2.{0} @N4.{0} @Od @OW @Oc.{0})) ?_;refine ⟨(j+1,acc++[s.getD j 0],some m',m'+1),⟨by simp only;omega,by simp only;omega,hl2,hR2⟩,by simp only;omega,?_⟩;refine aL.tm (by simp only[aR,go_sem,reduceIte,Nat.reduceEqDiff,Nat.reduceAdd,bx,e1,ju];and_intros<;>first|exact trivial|exact av.refl _|exact av.any _|exact av.of_eq (by simp[aD,byte])|(refine av.int ?_;omega))
 ·have hj2:j=s.length:=by omega
  subst hj2;have g1:=ixE (s.length);have hdn:s.drop s.length=[]:=OY (NY _);rw[hdn] at hR;have hR2:R=(pg,0):=by rw[hR];rfl
  subst hR2;unfold pg bR;refine rf0 g1 ?_;refine aG ?_;exact av.refl _
theorem Gu(a:UInt8)(r:List UInt8)(hr:r.length<=1000)(h2:a≠2)(h3:a≠3)(h4:a≠4):aI Tryz.prog 163 [.str (a::r)] (.tup [bR (rdR (a::r)).1,.int .i64 (rdR (a::r)).2]):=by
 refine f163.aE af rfl rfl ?_;unfold HY zz;have hsl:(a::r).length=r.length+1:=rfl;have l0:(0:Int)<(((a::r).length:Nat):Int):=by omega
 have g0:(a::r).getD 0 0=a:=rfl;have q3:=dR a 3 al;have q4:=dR a 4 al;have q2:=dR a 2 al;have e3:decide (a=UInt8.ofNat 3)=false:=N1 h3;have e4:decide (a=UInt8.ofNat 4)=false:=N1 h4;have e2:decide (a=UInt8.ofNat 2)=false:=N1 h2;rw[e3] at q3;rw[e4] at q4;rw[e2] at q2;have hbyte:((3:Nat):Int)=3:=rfl;have hbyte4:((4:Nat):Int)=4:=rfl;have hbyte2:((2:Nat):Int)=2:=rfl;rw[hbyte] at q3;rw[hbyte4] at q4;rw[hbyte2] at q2;have hR:rdR (a::r)=(pg,0):=by
  unfold rdR rdP;simp[h2,h3,h4]
 rw[hR];clear hR;generalize hs0:a::r=s at*
 unfold pg bR;refine rf0 (gw l0 g0 @byte.eq_1 q3 @q4 @q2 Int.toNat_zero @OL @Oe @OK @OB) ?_;refine aG ?_;exact av.refl _
theorem IA(s:List UInt8)(h0:s≠[])(hs:s.length<=1000):aI Tryz.prog 163 [.str s] (.tup [bR (rdR s).1,.int .i64 (rdR s).2]):=by
 cases s with
 |nil=>exact absurd rfl h0
 |cons a r=>
  have hr:r.length<=1000:=by simp only[List.length_cons] at hs;omega
  by_cases h3:a=3
  ·exact xN a r hr false h3
  by_cases h4:a=4
  ·exact xN a r hr true h4
  by_cases h2:a=2
  ·exact Gt a r hr h2
  exact Gu a r hr h2 h3 h4
theorem xO(l:List Pt):aF (pts l)=true:=Av.bC (λa=>rfl) l
theorem D2(s:List UInt8)(hs:s.length<=140737488355328):aI Tryz.prog 115 [.str s] (.tup [.sl 3 (pts (iV s)) .any,.int .i64 (jV s)]):=by
 refine f115.aE af rfl (by simp[aO,aF,aU,xO]) ?_;unfold LU zz;by_cases hb:128<s.length
 ·have g0:decide ((128:Int)<((s.length:Nat):Int))=true:=N3 aa;have e1:iV s=[]:=by unfold iV;rw[Of hb]
  have e2:jV s=5:=by unfold jV;rw[Of hb]
  rw[e1,e2];have hp:pts []=[]:=rfl;rw[hp];refine rf0 g0 ?_;refine aG ?_;exact av.tup (ay.cons (av.cap) (ay.cons (av.refl _) ay.nil))
 have g0:decide ((128:Int)<((s.length:Nat):Int))=false:=N1 aa;have e1:iV s=(pf s).getD []:=by unfold iV;rw[N7 hb]
 have e2:jV s=if (pf s).isSome then 0 else 4:=by unfold jV;rw[N7 hb]
 rw[e1,e2];generalize hO:pf s=O at*
 refine rf0 g0 ?_;refine Wp.cI [] xA7 (λj:List UInt8 × List Pt × Option Nat × Nat × Nat=>[(0,.str j.1),(4,.sl 3 (pts j.2.1) (ju j.2.1.length j.2.2.1))]) (λj=>⟨aA,j.2.2.2.1,mu j.2.2.1,j.2.2.2.2⟩) (λj=>O=(pf j.1).map (j.2.1++ ·)/\j.2.1.length+j.1.length<=128) (λj=>j.1.length) (s,[],none,0,0) ⟨by rw[hO];simp,by simp only[List.length_nil];omega⟩ rfl ?_ ?_
 ·exact bY (cj4 @ju.eq_1 @pts.eq_1 @OE.{0,0} @N4.{0})
 rintro ⟨r,out,o,n,m⟩ ⟨hinv,hl⟩;simp only at hinv hl;by_cases h0:r=[]
 ·subst h0;have hE:O=some out:=by rw[hinv,xL];simp
  subst hE;refine rf0 @N4.{0} ?_;refine aG ?_;exact av.tup (ay.cons (av.cap) (ay.cons (av.refl _) ay.nil))
 ·have hst:=kF h0;have hpos:=Qb.2 h0;have g1:decide ((0:Int)<((r.length:Nat):Int))=true:=N3 aa;have c1:=IA r h0 aa;rw[hst] at hinv;cases hp:rdP r with
  |none=>
   have hR:rdR r=(pg,0):=by unfold rdR;rw[hp];rfl
   rw[hp] at hinv;rw[hR] at c1;unfold pg bR at c1;have hE:O=none:=by rw[hinv];rfl
   subst hE;have hpn:pts []=[]:=rfl;have g2:decide (((0:Nat):Int)=0)=true:=rfl;rw[show (none:Option (List Pt)).getD []=[] from rfl,hpn];refine rn1 g1 c1 ?_;refine aG ?_;exact av.tup (ay.cons (av.cap) (ay.cons (av.refl _) ay.nil))
  |some x=>
   obtain ⟨p,k⟩:=x;have hR:rdR r=(p,k):=by unfold rdR;rw[hp];rfl
   rw[hp] at hinv;rw[hR] at c1;obtain ⟨k1,k2⟩:=ru hp;simp only at hinv;obtain ⟨pk,pn,ps⟩:=p;unfold bR at c1;simp only at c1;have g2:decide (((k:Nat):Int)=0)=false:=N1 aa;have x1:(0:Int)<=(k:Int):=by omega
   have x2:(k:Int)<=(r.length:Int):=by omega
   have lp:=cC out;have e6:(out.length+1)*32<=140737488355328:=by omega
   have e7:out.length+1<4611686018427387904:=by omega
   cases o with
   |none=>
    refine rn1 (cj9 g1 g2 x1 x2 @mu.eq_1 @ju.eq_1 lp e6 e7) c1 ?_;refine ⟨(r.drop k,out++[⟨pk,pn,ps⟩],some m,n+1,m+1),⟨?_,?_⟩,?_,?_⟩
    ·rw[hinv,Option.map_map];congr 1;funext x;simp
    ·simp only[N6,List.length_cons,List.length_nil,OC];omega
    ·simp only[OC];omega
    ·refine aL.of (aS ?_) (λa u hu=>by cases hu) (λa ha=>ha) (NY _) (NY _);simp only[aR,go_sem,reduceIte,Nat.reduceEqDiff,Nat.reduceAdd,bx,Int.toNat_natCast,ju,Ot];and_intros<;>first|exact trivial|exact av.refl _|exact av.any _|exact av.of_eq (by rw[fp];rfl)|(refine av.int ?_;omega)
   |some tk=>
    refine rn1 (cj9 g1 g2 x1 x2 @mu.eq_2 @ju.eq_2 lp e6 e7) c1 ?_;refine ⟨(r.drop k,out++[⟨pk,pn,ps⟩],some m,n+1,m+1),⟨?_,?_⟩,?_,?_⟩
    ·rw[hinv,Option.map_map];congr 1;funext x;simp
    ·simp only[N6,List.length_cons,List.length_nil,OC];omega
    ·simp only[OC];omega
    ·refine aL.of (aS ?_) (λa u hu=>by cases hu) (λa ha=>ha) (NY _) (NY _);simp only[aR,go_sem,reduceIte,Nat.reduceEqDiff,Nat.reduceAdd,bx,Int.toNat_natCast,ju,Ot];and_intros<;>first|exact trivial|exact av.refl _|exact av.any _|exact av.of_eq (by rw[fp];rfl)|(refine av.int ?_;omega)
def stO(s:List UInt8)(out:List Pt)(i:Nat):Option (List Pt):=(pf (s.drop i)).map (out++ ·)
def txO(s:List UInt8)(out:List Pt)(t:List UInt8)(i:Nat):Option (List Pt):=(rdT (s.drop i)).bind λx=>stO s (out++[⟨1,0,t++x.1⟩]) (i+x.2)
theorem IB(s:List UInt8)(out:List Pt):stO s out s.length=some out:=by
 unfold stO;rw[OY (NY _),xL];simp
theorem IC(s:List UInt8)(out:List Pt)(t:List UInt8):txO s out t s.length=none:=by
 unfold txO;rw[OY (NY _)];rfl
theorem KQ{s:List UInt8}(out:List Pt)(t:List UInt8){i:Nat}(h:i<s.length)(hz:s.getD i 0≠0):txO s out t i=txO s out (t++[s.getD i 0]) (i+1):=by
 unfold txO;rw[cA s i h,vM _ _ hz];cases rdT (s.drop (i+1)) with
 |none=>rfl
 |some x=>
  have e:i+(x.2+1)=i+1+x.2:=by omega
  simp[e]
theorem ID{s:List UInt8}(out:List Pt)(t:List UInt8){i:Nat}(h:i+1=s.length)(hz:s.getD i 0=0):txO s out t i=none:=by
 unfold txO;rw[cA s i aa,OY aa];rfl
theorem IE{s:List UInt8}(out:List Pt)(t:List UInt8){i:Nat}(h:i+1<s.length)(hz:s.getD i 0=0):txO s out t i=if s.getD (i+1) 0=255 then txO s out (t++[0]) (i+1+1) else if s.getD (i+1) 0=1 then stO s (out++[⟨1,0,t⟩]) (i+1+1) else none:=by
 unfold txO;rw[cA s i aa,cA s (i+1) h,hz];generalize s.getD (i+1) 0=y;have e:rdT ((0:UInt8)::y::s.drop (i+1+1))=if y=255 then (rdT (s.drop (i+1+1))).map λx=>(0::x.1,x.2+2) else if y=1 then some ([],2) else none:=by simp[rdT]
 rw[e];split
 ·cases rdT (s.drop (i+1+1)) with
  |none=>rfl
  |some x=>
   have e:i+(x.2+2)=i+1+1+x.2:=by omega
   simp[e]
 ·split
  ·simp
  ·rfl
theorem Gv{s:List UInt8}(out:List Pt){i:Nat}(h:i<s.length)(h2:s.getD i 0=2):stO s out i=txO s out [] (i+1):=by
 unfold txO stO;rw[kF (by rw[cA s i h];simp),cA s i h,h2];have e:rdP ((2:UInt8)::s.drop (i+1))=(rdT (s.drop (i+1))).map λx=>(⟨1,0,x.1⟩,x.2+1):=by simp[rdP]
 rw[e];cases rdT (s.drop (i+1)) with
 |none=>rfl
 |some x=>
  simp only[Option.map_some,Option.bind_some,Pe,PQ,Option.map_map,List.nil_append];congr 1;funext l;simp
theorem IF{s:List UInt8}(out:List Pt){i:Nat}(h:i<s.length)(d:Bool)(h2:s.getD i 0=if d then 4 else 3):stO s out i=if s.length - (i+1)<8 then none else stO s (out++[⟨if d then 3 else 2,rdN (if d then 255 else 0) ((s.drop (i+1)).take 8),[]⟩]) (i+1+8):=by
 unfold stO;rw[kF (by rw[cA s i h];simp),cA s i h,h2];have hl:(s.drop (i+1)).length=s.length - (i+1):=OC;have e:rdP ((if d then (4:UInt8) else 3)::s.drop (i+1))=if s.length - (i+1)<8 then none else some (⟨if d then 3 else 2,rdN (if d then 255 else 0) ((s.drop (i+1)).take 8),[]⟩,9):=by
  rw[<-hl];cases d<;>simp[rdP]
 rw[e];by_cases h8:s.length - (i+1)<8
 ·rw[Of h8,Of h8];rfl
 ·rw[N7 h8,N7 h8];simp only[Pe,PQ,Option.map_map];congr 1;funext l;simp
theorem IG{s:List UInt8}(out:List Pt){i:Nat}(h:i<s.length)(h2:s.getD i 0≠2)(h3:s.getD i 0≠3)(h4:s.getD i 0≠4):stO s out i=none:=by
 unfold stO;rw[kF (by rw[cA s i h];simp),cA s i h];have e:rdP (s.getD i 0::s.drop (i+1))=none:=by
  generalize s.getD i 0=y at*
  simp[rdP,h2,h3,h4]
 rw[e];rfl
def NQ(O:Option (List Pt)):AV:= .tup [.sl 3 (pts (O.getD [])) .any,.int .i64 (if O.isSome then 0 else 4)]
def QDe(O:Option (List Pt)):aM->St->Prop:=λe s'=>iN e/\∃q,iA [.tmp 2,.tmp 3] s'.t s'.h=some q/\av q (NQ O)
abbrev QDs(O:Option (List Pt)):aM->St->Prop:=aM.within Tryz.prog 99 oY (QDe O)
theorem fC{N:Nat}{c rest:AC}{l:Nat}{s:St}{Q:aM->St->Prop}(h:fE c l=some (.seq .skip rest))(hw:Wp Tryz.prog N rest s (aM.within Tryz.prog N c Q)):aM.within Tryz.prog N c Q (.goto l) s:=by
 simp only[aM.within,h];exact WpS.step (Wp.seq (Wp.skip hw))
theorem vN{t:Tm}{h:H}:QDs none (.goto 3) ⟨t,h⟩:=by
 refine fC Ab ?_;unfold Aa;refine dG ?_;refine Wp.ret (show QDe none .ret _ from ⟨trivial,_,rfl,?_⟩);exact av.tup (ay.cons av.cap (ay.cons (av.refl _) ay.nil))
theorem Ay{t:Tm}{f:Nat->Option Av.Obj}{n m a:Nat}{K:List Nat}{l:List (Nat × AV)}(ha:a∈K)(h:aR t l):aL ⟨t,⟨f,n,K,m⟩⟩ ⟨tm l,⟨aA,n,[a],m⟩⟩:=
 aL.of (aS h) (λa o ho=>by cases ho) (λx hx=>(Oc.1 hx)▸ha) (NY _) (NY _)
set_option maxHeartbeats 4000000 in
theorem Gw(s:List UInt8)(hs:s.length<=128)(i:Nat)(out:List Pt)(a n m:Nat)(d:Bool)(hi:i<s.length)(ho:out.length<=i)(ha:a<m)(h2:s.getD i 0=if d then 4 else 3)
  (ih:∀out' a' m',i+1+8<=s.length->out'.length<=i+1+8->a'<m'->Wp Tryz.prog 99 oc ⟨tm [(0,.str s),(4,.sl 3 (pts out') (.own a')),(6,.int .i64 (i+1+8:Nat))],⟨aA,n,[a'],m'⟩⟩ (QDs (stO s out' (i+1+8)))):
  Wp Tryz.prog 99 vn ⟨tm [(0,.str s),(4,.sl 3 (pts out) (.own a)),(6,.int .i64 (i+1:Nat))],⟨aA,n,[a],m⟩⟩ (QDs (stO s out i)):=by
 rw[IF out hi d h2];unfold vn;have w0:IntKind.i64.wrap (((s.length:Nat):Int) - ((i+1:Nat):Int))=((s.length - (i+1):Nat):Int):=by rw[IntWalk.i64_in _ aa];omega
 by_cases h8:s.length - (i+1)<8
 ·have d1:decide (((s.length - (i+1):Nat):Int)<8)=true:=N3 aa;rw[Of h8];refine rf0 (cj2 w0 d1) ?_;exact Wp.goto (show QDs none (.goto 3) _ from vN)
 ·have d1:decide (((s.length - (i+1):Nat):Int)<8)=false:=N1 aa;rw[N7 h8];have w2:IntKind.i64.wrap (((i+1:Nat):Int) - 1)=(i:Int):=by rw[IntWalk.i64_in _ aa];omega
  have w3:IntKind.i64.wrap (((i+1:Nat):Int)+8)=((i+1+8:Nat):Int):=by rw[IntWalk.i64_in _ aa];omega
  have x1:(0:Int)<=(i:Int):=by omega
  have x2:(i:Int)<(s.length:Int):=by omega
  have x3:(0:Int)<=((i+1:Nat):Int):=by omega
  have x4:((i+1:Nat):Int)<=((i+1+8:Nat):Int):=by omega
  have x5:((i+1+8:Nat):Int)<=(s.length:Int):=by omega
  have x6:(0:Int)<=((i+1+8:Nat):Int):=by omega
  have hcut:(s.take (i+1+8)).drop (i+1)=(s.drop (i+1)).take 8:=by
   rw[List.drop_take];congr 1;omega
  have q3:=dR (s.getD i 0) 3 al;have hbyte:((3:Nat):Int)=3:=rfl;rw[hbyte] at q3;have hb:((s.drop (i+1)).take 8).length=8:=by simp;omega
  have lp:=cC out;have e6:(out.length+1)*32<=140737488355328:=by omega
  have e7:out.length+1<4611686018427387904:=by omega
  generalize hbb:(s.drop (i+1)).take 8=b at*
  cases d with
  |false=>
   have c1:=Gs b hb 0;rw[show decide (s.getD i 0=UInt8.ofNat 3)=true from by rw[h2];rfl] at q3;have z:((0:UInt8).toNat:Int)=0:=rfl;rw[z] at c1;refine rf1 (aY w0 d1 w2 w3 x1 x2 x3 x4 x5 x6 @byte.eq_1 (aY q3 hcut lp e6 e7 @NZ @N2.{0} @N4.{0} @Od @Oc.{0} @OW @Oe)) c1 ?_;have W:=ih (out++[⟨2,rdN 0 b,[]⟩]) m (m+1) aa (by simp only[N6,List.length_cons,List.length_nil];omega) aa;refine Wp.goto ?_;refine fC (Q:=QDe _) od ?_;refine Wp.le (Ay (a:=m) Qm ?_) W;simp only[aR,go_sem,reduceIte,Nat.reduceEqDiff,Nat.reduceAdd,bx];and_intros<;>first|exact trivial|exact av.refl _|exact av.any _|exact av.of_eq (by rw[fp];rfl)|(refine av.int ?_;omega)
  |true=>
   have c1:=Gs b hb 255;rw[show decide (s.getD i 0=UInt8.ofNat 3)=false from by rw[h2];rfl] at q3;have z:((255:UInt8).toNat:Int)=255:=rfl;rw[z] at c1;refine rf1 (aY w0 d1 w2 w3 x1 x2 x3 x4 x5 x6 @byte.eq_1 (aY q3 hcut lp e6 e7 @NZ @N2.{0} @N4.{0} @Od @Oc.{0} @OW @Oe)) c1 ?_;have W:=ih (out++[⟨3,rdN 255 b,[]⟩]) m (m+1) aa (by simp only[N6,List.length_cons,List.length_nil];omega) aa;refine Wp.goto ?_;refine fC (Q:=QDe _) od ?_;refine Wp.le (Ay (a:=m) Qm ?_) W;simp only[aR,go_sem,reduceIte,Nat.reduceEqDiff,Nat.reduceAdd,bx];and_intros<;>first|exact trivial|exact av.refl _|exact av.any _|exact av.of_eq (by rw[fp];rfl)|(refine av.int ?_;omega)
set_option maxHeartbeats 4000000 in
theorem IH(s:List UInt8)(hs:s.length<=128):∀(k:Nat),
  (∀(i:Nat)(out:List Pt)(a n m:Nat),s.length - i<=k->i<=s.length->out.length<=i->a<m->
   Wp Tryz.prog 99 oc ⟨tm [(0,.str s),(4,.sl 3 (pts out) (.own a)),(6,.int .i64 i)],⟨aA,n,[a],m⟩⟩ (QDs (stO s out i)))
  /\(∀(i:Nat)(out:List Pt)(t:List UInt8)(a b n m:Nat),s.length - i<=k->i<=s.length->out.length+1<=i->t.length<=i->a<m->b<m->a≠b->
   Wp Tryz.prog 99 su ⟨tm [(0,.str s),(4,.sl 3 (pts out) (.own a)),(5,.sl 1 (aD t) (.own b)),(6,.int .i64 i)],⟨aA,n,[b,a],m⟩⟩ (QDs (txO s out t i))):=by
 intro k;induction k with
 |zero=>
  constructor
  ·intro i out a n m hk hi ho ha;have hi2:i=s.length:=by omega
   subst hi2;rw[IB];unfold oc;have d1:decide (((s.length:Nat):Int)=((s.length:Nat):Int))=true:=N3 rfl;refine rf0 d1 ?_;refine Wp.ret (show QDe (some out) .ret _ from ⟨trivial,_,rfl,?_⟩);exact av.tup (ay.cons av.cap (ay.cons (av.refl _) ay.nil))
  ·intro i out t a b n m hk hi ho ht ha hb hab;have hi2:i=s.length:=by omega
   subst hi2;rw[IC];unfold su;have d1:decide (((s.length:Nat):Int)=((s.length:Nat):Int))=true:=N3 rfl;refine rf0 d1 ?_;exact Wp.goto (show QDs none (.goto 3) _ from vN)
 |succ k ih=>
  obtain ⟨ih0,ih1⟩:=ih;constructor
  ·intro i out a n m hk hi ho ha;by_cases hc:i<s.length
   ·have d1:decide (((i:Nat):Int)=((s.length:Nat):Int))=false:=N1 aa;have w1:IntKind.i64.wrap ((i:Int)+1)=((i+1:Nat):Int):=by rw[IntWalk.i64_in _ aa];omega
    have w2:IntKind.i64.wrap (((i+1:Nat):Int) - 1)=(i:Int):=by rw[IntWalk.i64_in _ aa];omega
    have x1:(0:Int)<=(i:Int):=by omega
    have x2:(i:Int)<(s.length:Int):=by omega
    have q3:=dR (s.getD i 0) 3 al;have q4:=dR (s.getD i 0) 4 al;have q2:=dR (s.getD i 0) 2 al;have hbyte:((3:Nat):Int)=3:=rfl;have hbyte4:((4:Nat):Int)=4:=rfl;have hbyte2:((2:Nat):Int)=2:=rfl;rw[hbyte] at q3;rw[hbyte4] at q4;rw[hbyte2] at q2;unfold oc;by_cases b2:s.getD i 0=2
    ·rw[Gv out hc b2];rw[show decide (s.getD i 0=UInt8.ofNat 2)=true from N3 b2] at q2;refine rf0 (cj9 d1 w1 w2 x1 x2 @Oe @byte.eq_1 @q2 @NZ) ?_;refine Wp.le (aL.tok _ _) ?_;have W:=ih1 (i+1) out [] a m n (m+1) aa aa aa af aa aa aa;refine Wp.goto ?_;refine fC (Q:=QDe _) oe ?_;refine Wp.le (aL.of (aS ?_) (OLe.bK _) (λa ha=>ha) (NY _) (NY _)) W;simp only[aR,go_sem,reduceIte,Nat.reduceEqDiff,Nat.reduceAdd,bx,aD,OE];and_intros<;>first|exact trivial|exact av.refl _|exact av.any _|exact av.dF rfl|(refine av.int ?_;omega)
    ·rw[show decide (s.getD i 0=UInt8.ofNat 2)=false from N1 b2] at q2;by_cases b3:s.getD i 0=3
     ·rw[show decide (s.getD i 0=UInt8.ofNat 3)=true from N3 b3] at q3;refine rf0 (gv d1 w1 w2 x1 x2 @Oe @byte.eq_1 @q2 q3 @NZ) ?_;have W:=Gw s hs i out a n m false hc ho ha (by simpa using b3) (λout' a' m' h1 h2 h3=>ih0 (i+1+8) out' a' n m' aa h1 h2 h3);refine Wp.goto ?_;refine fC (Q:=QDe _) sv ?_;refine Wp.le (aL.of (aS ?_) (OLe.bK _) (λa ha=>ha) (NY _) (NY _)) W;exact xSb
     ·rw[show decide (s.getD i 0=UInt8.ofNat 3)=false from N1 b3] at q3;by_cases b4:s.getD i 0=4
      ·rw[show decide (s.getD i 0=UInt8.ofNat 4)=true from N3 b4] at q4;refine rf0 (gw d1 w1 w2 x1 x2 @Oe @byte.eq_1 @q2 q3 @q4 @NZ) ?_;have W:=Gw s hs i out a n m true hc ho ha (by simpa using b4) (λout' a' m' h1 h2 h3=>ih0 (i+1+8) out' a' n m' aa h1 h2 h3);refine Wp.goto ?_;refine fC (Q:=QDe _) sv ?_;refine Wp.le (aL.of (aS ?_) (OLe.bK _) (λa ha=>ha) (NY _) (NY _)) W;exact xSb
      ·rw[show decide (s.getD i 0=UInt8.ofNat 4)=false from N1 b4] at q4;rw[IG out hc b2 b3 b4];refine rf0 (gw d1 w1 w2 x1 x2 @Oe @byte.eq_1 @q2 q3 @q4 @NZ) ?_;exact Wp.goto (show QDs none (.goto 3) _ from vN)
   ·exact ih0 i out a n m aa hi ho ha
  ·intro i out t a b n m hk hi ho ht ha hb hab;have lp:=cC out;have lb:=bI t;have e6:(out.length+1)*32<=140737488355328:=by omega
   have e7:out.length+1<4611686018427387904:=by omega
   have e3:t.length+1<=140737488355328:=by omega
   have e4:t.length+1<4611686018427387904:=by omega
   by_cases hc:i<s.length
   ·have d1:decide (((i:Nat):Int)=((s.length:Nat):Int))=false:=N1 aa;have w1:IntKind.i64.wrap ((i:Int)+1)=((i+1:Nat):Int):=by rw[IntWalk.i64_in _ aa];omega
    have w2:IntKind.i64.wrap (((i+1:Nat):Int) - 1)=(i:Int):=by rw[IntWalk.i64_in _ aa];omega
    have x1:(0:Int)<=(i:Int):=by omega
    have x2:(i:Int)<(s.length:Int):=by omega
    unfold su;by_cases hz:s.getD i 0=0
    ·have z0:((0:UInt8).toNat:Int)=0:=rfl;have zd:decide ((0:Int)=0)=true:=rfl;by_cases hn:i+1<s.length
     ·have y1:decide (((i+1:Nat):Int)=(s.length:Int))=false:=N1 aa;have y2:(0:Int)<=((i+1:Nat):Int):=by omega
      have y3:((i+1:Nat):Int)<(s.length:Int):=by omega
      have v1:IntKind.i64.wrap (((i+1:Nat):Int)+1)=((i+1+1:Nat):Int):=by rw[IntWalk.i64_in _ aa];omega
      have v2:IntKind.i64.wrap (((i+1+1:Nat):Int) - 1)=((i+1:Nat):Int):=by rw[IntWalk.i64_in _ aa];omega
      have p1:=dR (s.getD (i+1) 0) 1 al;have p255:=dR (s.getD (i+1) 0) 255 al;have n1:((1:Nat):Int)=1:=rfl;have n255:((255:Nat):Int)=255:=rfl;rw[n1] at p1;rw[n255] at p255;rw[IE out t hn hz];by_cases b2:s.getD (i+1) 0=255
      ·rw[show decide (s.getD (i+1) 0=UInt8.ofNat 255)=true from N3 b2] at p255;rw[Of b2];refine rf0 (aY d1 w1 w2 x1 x2 @Oe @byte.eq_1 hz z0 zd y1 (aY y2 y3 v1 v2 p255 lb e3 e4 @NZ @OO @Pl (cj6 @Pz @N2.{0} @N4.{0} @Od @Om.{0} @OW))) ?_;have W:=ih1 (i+1+1) out (t++[0]) a m n (m+1) aa aa aa (by simp only[N6,List.length_cons,List.length_nil];omega) aa aa aa;refine Wp.goto ?_;refine fC (Q:=QDe _) oe ?_;refine Wp.le (aL.of (aS ?_) (OLe.bK _) (λx hx=>?_) (NY _) (NY _)) W
       ·simp only[aR,go_sem,reduceIte,Nat.reduceEqDiff,Nat.reduceAdd,bx];and_intros<;>first|exact trivial|exact av.refl _|exact av.any _|exact av.of_eq (by simp[aD,byte])|(refine av.int ?_;omega)
       ·have hne:decide (¬a=b)=true:=N3 hab;simpa [hne] using hx
      ·rw[show decide (s.getD (i+1) 0=UInt8.ofNat 255)=false from N1 b2] at p255;rw[N7 b2];by_cases b1:s.getD (i+1) 0=1
       ·rw[show decide (s.getD (i+1) 0=UInt8.ofNat 1)=true from N3 b1] at p1;rw[Of b1];refine rf0 (aY d1 w1 w2 x1 x2 @Oe @byte.eq_1 hz z0 zd y1 (aY y2 y3 v1 v2 p255 p1 lp e6 e7 @cz @Ol.{0,0} (gw @NZ @OO @Pl @Pz @N2.{0} @N4.{0} @Od @Om.{0} @Oc.{0} @OW @or_true))) ?_;have W:=ih0 (i+1+1) (out++[⟨1,0,t⟩]) m n (m+1) aa aa (by simp only[N6,List.length_cons,List.length_nil];omega) aa;refine Wp.goto ?_;refine fC (Q:=QDe _) od ?_;refine Wp.le (Ay (a:=m) Qm ?_) W;simp only[aR,go_sem,reduceIte,Nat.reduceEqDiff,Nat.reduceAdd,bx];and_intros<;>first|exact trivial|exact av.refl _|exact av.any _|exact av.of_eq (by rw[fp];rfl)|(refine av.int ?_;omega)
       ·rw[show decide (s.getD (i+1) 0=UInt8.ofNat 1)=false from N1 b1] at p1;rw[N7 b1];refine rf0 (aY d1 w1 w2 x1 x2 @Oe @byte.eq_1 hz z0 zd y1 (cj7 y2 y3 v1 v2 p255 p1 @NZ)) ?_;refine Wp.ret (show QDe none .ret _ from ⟨trivial,_,rfl,?_⟩);exact av.tup (ay.cons av.cap (ay.cons (av.refl _) ay.nil))
     ·have y1:decide (((i+1:Nat):Int)=(s.length:Int))=true:=N3 aa;rw[ID out t aa hz];refine rf0 (aY d1 w1 w2 x1 x2 @Oe @byte.eq_1 hz z0 zd y1 @NZ) ?_;exact Wp.goto (show QDs none (.goto 3) _ from vN)
    ·have d3:=sy hz;rw[KQ out t hc hz];refine rf0 (aY d1 w1 w2 x1 x2 @Oe @byte.eq_1 d3 lb e3 e4 (cj9 @NZ @OO @Pl @Pz @N2.{0} @N4.{0} @Od @Om.{0} @OW)) ?_;have W:=ih1 (i+1) out (t++[s.getD i 0]) a m n (m+1) aa aa aa (by simp only[N6,List.length_cons,List.length_nil];omega) aa aa aa;refine Wp.goto ?_;refine fC (Q:=QDe _) oe ?_;refine Wp.le (aL.of (aS ?_) (OLe.bK _) (λx hx=>?_) (NY _) (NY _)) W
     ·simp only[aR,go_sem,reduceIte,Nat.reduceEqDiff,Nat.reduceAdd,bx];and_intros<;>first|exact trivial|exact av.refl _|exact av.any _|exact av.of_eq (by simp[aD,byte])|(refine av.int ?_;omega)
     ·have hne:decide (¬a=b)=true:=N3 hab;simpa [hne] using hx
   ·exact ih1 i out t a b n m aa hi ho ht ha hb hab
theorem Gx(s:List UInt8)(hs:s.length<=140737488355328):aI Tryz.prog 156 [.str s] (.tup [.sl 3 (pts (iV s)) .any,.int .i64 (jV s)]):=by
 refine f156.aE af rfl (by simp[aO,aF,aU,xO]) ?_;rw[Ij];by_cases hb:128<s.length
 ·have g0:decide ((128:Int)<((s.length:Nat):Int))=true:=N3 aa;have e1:iV s=[]:=by unfold iV;rw[Of hb]
  have e2:jV s=5:=by unfold jV;rw[Of hb]
  rw[e1,e2];have hp:pts []=[]:=rfl;rw[hp];refine Wp.bQ xA1 ah ?_;refine Wp.scope (WpS.step ?_);unfold oY;refine rf0 g0 ?_;refine Wp.ret ⟨trivial,_,rfl,?_⟩;exact av.tup (ay.cons (av.cap) (ay.cons (av.refl _) ay.nil))
 ·have g0:decide ((128:Int)<((s.length:Nat):Int))=false:=N1 aa;have e1:iV s=(stO s [] 0).getD []:=by unfold iV stO;rw[N7 hb];simp
  have e2:jV s=if (stO s [] 0).isSome then 0 else 4:=by unfold jV stO;rw[N7 hb];simp
  rw[e1,e2];show Wp Tryz.prog 99 _ _ (QDe (stO s [] 0));refine Wp.bQ xA1 ah ?_;refine Wp.scope (WpS.step ?_);show Wp Tryz.prog 99 oY _ (QDs (stO s [] 0));have W:=(IH s aa s.length).1 0 [] 0 0 1 aa aa af aa;unfold oY;generalize oc=R at*
  refine rf0 g0 ?_;refine Wp.le (aL.tok _ _) ?_;refine Wp.le (s':=⟨tm [(0,.str s),(4,.sl 3 (pts []) (.own 0)),(6,.int .i64 (0:Nat))],⟨aA,0,[0],1⟩⟩) (aL.of (aS ?_) (OLe.bK _) (λa ha=>ha) (NY _) (NY _)) W;simp only[aR,go_sem,reduceIte,Nat.reduceEqDiff,Nat.reduceAdd,bx,pts,OE];and_intros<;>first|exact trivial|exact av.refl _|exact av.any _|exact av.dF rfl|(refine av.int ?_;omega)
def lets:List UInt8:=[98,111,99,117,112,113]
def uH(s:List UInt8)(c:UInt8):Int:=match (List.range s.length).find? λi=>s.getD i 0 == c with|some i=>(i:Int)|none=> -1
theorem II(s:List UInt8)(c:UInt8):aI Tryz.prog 219 [.str s,.int .u8 c.toNat] (.int .i64 (uH s c)):=by
 refine f219.aE af rfl rfl ?_;unfold MA zz;have b0:(0:Int)<=((c.toNat:Nat):Int):=by omega
 have b1:((c.toNat:Nat):Int)<256:=by have:=c.toNat_lt;omega
 have b2:UInt8.ofNat c.toNat=c:=UInt8.ofNat_toNat;refine rf0 (cj5 b0 b1 @Oe @NZ b2) ?_;refine aG ?_;exact av.refl _
theorem Gy(s:List UInt8)(c:UInt8)(hs:1<s.length)(hs2:s.length<=1000000):aI Tryz.prog 200 [.str s,.str [c]] (.int .i64 (uH s c)):=by
 refine f200.aE af rfl rfl ?_;unfold Ms zz;have ci:=II s c;have d1:decide (((1:Nat):Int)=1)=true:=rfl;have d0:decide (((1:Nat):Int)=0)=false:=rfl;have dn:decide ([c]=s)=false:=N1 (by rintro rfl;simp at hs);have x0:(0:Int)<((1:Nat):Int):=by decide
 have l1:[c].length=1:=rfl;have g0:[c].getD 0 0=c:=rfl;refine rf1 (gv l1 d1 d0 dn x0 g0 @byte.eq_1 Int.toNat_zero @OL @Oe) ci ?_;refine aG ?_;exact av.refl _
theorem IJ(s:List UInt8)(c:UInt8)(hs:1<s.length)(hs2:s.length<=1000000):aI Tryz.prog 157 [.str s,.str [c]] (.int .i64 (uH s c)):=by
 refine f157.aE af rfl rfl ?_;unfold Ma zz;have ci:=Gy s c hs hs2;refine nA ci ?_;refine aG ?_;exact av.refl _
def fQ(c:UInt8):Int:=uH lets c+1
theorem xP(c:UInt8):fQ c=if c=98 then 1 else if c=111 then 2 else if c=99 then 3 else if c=117 then 4 else if c=112 then 5 else if c=113 then 6 else 0:=by
 by_cases h1:c=98
 ·subst h1;decide
 by_cases h2:c=111
 ·subst h2;decide
 by_cases h3:c=99
 ·subst h3;decide
 by_cases h4:c=117
 ·subst h4;decide
 by_cases h5:c=112
 ·subst h5;decide
 by_cases h6:c=113
 ·subst h6;decide
 rw[N7 h1,N7 h2,N7 h3,N7 h4,N7 h5,N7 h6];have hf:(List.range lets.length).find? (λi=>lets.getD i 0 == c)=none:=by
  rw[List.find?_eq_none];intro i hi;have:i<6:=by simpa [lets] using hi
  obtain rfl|rfl|rfl|rfl|rfl|rfl:i=0\/i=1\/i=2\/i=3\/i=4\/i=5:=by omega
  all_goals simp[lets,Qh]
  ·exact λh=>h1 h.symm
  ·exact λh=>h2 h.symm
  ·exact λh=>h3 h.symm
  ·exact λh=>h4 h.symm
  ·exact λh=>h5 h.symm
  ·exact λh=>h6 h.symm
 unfold fQ uH;rw[hf];rfl
theorem IK(n:Int):IntKind.i64.wrap n<9223372036854775808:=by
 rw[IntKind.wrap_i64];omega
theorem Gz(m:UInt8)(b:List UInt8):rdN m b<9223372036854775808:=IK _
def BX(p:Pt):Prop:=p.n<9223372036854775808
theorem KR{s:List UInt8}{p:Pt}{n:Nat}(h:rdP s=some (p,n)):BX p:=by
 cases s with
 |nil=>simp[rdP] at h
 |cons a r=>
  simp only[rdP] at h;split at h
  ·obtain ⟨x,hx,he⟩:=N8.1 h;simp only[Oq] at he;rw[<-he.1];show (0:Int)<_;decide
  ·split at h
   ·split at h
    ·cases h
    ·simp only[Oi,Oq] at h;rw[<-h.1];exact Gz _ _
   ·split at h
    ·split at h
     ·cases h
     ·simp only[Oi,Oq] at h;rw[<-h.1];exact Gz _ _
    ·cases h
theorem BY:∀{k:Nat}{s:List UInt8}{l:List Pt},qL k s=some l->(∀p∈l,BX p)/\l.length<=s.length
 |0,s,l,h=>by
  simp only[qL] at h;split at h
  ·simp only[Oi] at h;subst h;exact ⟨by simp,by simp⟩
  ·cases h
 |k+1,s,l,h=>by
  simp only[qL] at h;split at h
  ·simp only[Oi] at h;subst h;exact ⟨by simp,by simp⟩
  ·cases hp:rdP s with
   |none=>rw[hp] at h;cases h
   |some x=>
    obtain ⟨p,n⟩:=x;rw[hp] at h;obtain ⟨l',h1,rfl⟩:=N8.1 h;obtain ⟨i1,i2⟩:=BY h1;have hn:=ru hp;have hd:(s.drop n).length=s.length - n:=OC;refine ⟨λq hq=>?_,by simp only[List.length_cons];omega⟩;rcases Om.1 hq with rfl|hq
    ·exact KR hp
    ·exact i1 q hq
theorem vO(s:List UInt8):(∀p∈iV s,BX p)/\(iV s).length<=128:=by
 unfold iV;split
 ·exact ⟨by simp,by simp⟩
 ·unfold pf;cases h:qL s.length s with
  |none=>exact ⟨by simp,by simp⟩
  |some l=>
   obtain ⟨h1,h2⟩:=BY h;exact ⟨h1,by show l.length<=128;omega⟩
def kG:List UInt8->Int
 |[c]=>fQ c
 |_=>0
def gG(l:List Pt):Ky:=
 let k:=kG (l.getD 0 default).s
 let r:=l.drop 2
 if k≠1/\r≠[] then ⟨k,(l.getD 1 default).s,(r.getD 0 default).s,(r.drop 1).map Pt.n⟩ else ⟨k,(l.getD 1 default).s,[],r.map Pt.n⟩
theorem sR{l:List Pt}(h:∀p∈l,BX p)(hl:l.length<=128):(gG l).fit:=by
 have key:∀(r:List Pt),(∀p∈r,p∈l)->r.length<=128->(r.map Pt.n).length<=1000000/\∀n∈r.map Pt.n,n<9223372036854775808:=λr hr hl=>by
  refine ⟨by simp;omega,λn hn=>?_⟩;obtain ⟨p,hp,rfl⟩:=Oo.1 hn;exact h p (hr p hp)
 unfold gG;simp only;split
 ·exact key ((l.drop 2).drop 1) (λp hp=>P6 (P6 hp)) (by simp only[OC];omega)
 ·exact key (l.drop 2) (λp hp=>P6 hp) (by simp only[OC];omega)
def iP(s:List UInt8)(l:List Pt):Bool:=decide (2<=l.length)&&decide (gx (gG l)=0)&&decide (dC (gG l)=s)
def xQ:Ky:=⟨0,[],[],[]⟩
def cD(s:List UInt8):Bool:=decide (jV s=0)&&iP s (iV s)
def bc(s:List UInt8):Ky:=if cD s then gG (iV s) else xQ
def mH(s:List UInt8):Int:=if cD s then 0 else 4
theorem sS(c:UInt8):0<=fQ c/\fQ c<=6:=by
 rw[xP]
 repeat' split
 all_goals decide
theorem xR(t:List UInt8):0<=kG t/\kG t<=6:=by
 match t with
 |[]=>exact ⟨by decide,by decide⟩
 |[c]=>exact sS c
 |_::_::_=>exact ⟨OL 0,(by decide:(0:Int)<=6)⟩
theorem qa{x:Ky}(h:x.k=0):gx x=2:=by
 have:iO x=false:=by
  unfold iO;have:eu x.k= -1:=by rw[h];rfl
  rw[this];have:decide (((x.ns.length:Nat):Int)= -1)=false:=N1 aa;rw[this];simp
 unfold gx;rw[this];rfl
theorem Az(l:List Pt):(gG l).k=kG (l.getD 0 default).s:=by
 unfold gG;simp only;split<;>rfl
theorem D3{s:List UInt8}{l:List Pt}(h:kG (l.getD 0 default).s=0):iP s l=false:=by
 unfold iP;rw[qa (by rw[Az,h])];simp
def hdA:AC->AC
 | .seq a _=>a
 |c=>c
def tlA:AC->AC
 | .seq _ b=>b
 |c=>c
def ry:AC:=tlA (tlA (tlA (tlA (tlA (tlA sd)))))
def kyO(k:Int)(b o:List UInt8)(v:AV):Nat->Option Av.Obj:=upd (upd aA 0 (some (.cells [.int .i64 0,.str [],.str [],.sl 1 [] (.exact 0)]))) 1 (some (.cells [.int .i64 k,.str b,.str o,v]))
def QK(s:List UInt8)(x:Ky):aM->St->Prop:=λe s'=>iN e/\∃q,iA [.cell 2 (some 4),.tmp 3] s'.t s'.h=some q/\av q (.tup [dp (if (decide (gx x=0)&&decide (dC x=s))=true then x else xQ),.int .i64 (if (decide (gx x=0)&&decide (dC x=s))=true then 0 else 4)])
theorem AB(s:List UInt8)(k:Int)(b o:List UInt8)(r:List Pt)(hr:r.length<=128)(hf:(⟨k,b,o,r.map Pt.n⟩:Ky).fit):
  Wp Tryz.prog 88 ry ⟨tm [(0,.str s),(2,.ptr 0 0),(4,.sl 3 (pts r) .any),(6,.ptr 1 0)],⟨kyO k b o (.sl 1 [] (.exact 0)),2,[],0⟩⟩ (QK s ⟨k,b,o,r.map Pt.n⟩):=by
 have lp:=cC r;have ck:=J0 _ hf;have hno:dp xQ= .agg [.int .i64 0,.str [],.str [],.sl 1 [] .any]:=rfl;have hen:dp ⟨k,b,o,r.map Pt.n⟩= .agg [.int .i64 k,.str b,.str o,.sl 1 (ints (r.map Pt.n)) .any]:=rfl;unfold QK;rw[hen] at ck;generalize gx ⟨k,b,o,r.map Pt.n⟩=ke at*
 generalize dC ⟨k,b,o,r.map Pt.n⟩=ks at*
 unfold ry sd kyO zz;simp only[tlA];refine rf0 lp ?_;refine Wp.le (aL.tok _ _) ?_;refine Wp.le (s':=⟨tm [(0,.str s),(2,.ptr 0 0),(6,.ptr 1 0),(60,.sl 3 (pts r) .any),(61,.int .i64 r.length),(62,.int .i64 (0:Nat))],⟨kyO k b o (.sl 1 (ints []) (.own 0)),2,[0],1⟩⟩) (aL.of (aS ?_) (OLe.upd (OLe.bK _) (ay.cons (av.refl _) (ay.cons (av.refl _) (ay.cons (av.refl _) (ay.cons (av.dF rfl) ay.nil))))) (λa ha=>ha) (NY _) (NY _)) ?_
 ·exact xSb
 refine Wp.cI [0,2,6,60,61] xA7 (λj:Nat × Nat × Nat × Nat=>[(62,.int .i64 (j.1:Nat))]) (λj=>⟨kyO k b o (.sl 1 (ints ((r.take j.1).map Pt.n)) (.own j.2.1)),j.2.2.1,[j.2.1],j.2.2.2⟩) (λj=>j.1<=r.length/\2<=j.2.2.1/\j.2.1<j.2.2.2) (λj=>r.length - j.1) (0,0,2,1) ⟨Og _,by decide,by decide⟩ rfl ?_ ?_
 ·exact xSb
 rintro ⟨j,tk,n,m⟩ ⟨hj,hn2,htm⟩;simp only at hj hn2 htm;have n0:¬(0=n):=by omega
 have n1:¬(n=0):=by omega
 have n2:¬(1=n):=by omega
 have n3:¬(n=1):=by omega
 by_cases hc:j<r.length
 ·obtain ⟨g1,h2,h3,e1⟩:=ixF (j:=j) (n:=r.length) aa aa;have hat:=dX r j .any hc;have hsn:ints ((r.take (j+1)).map Pt.n)=ints ((r.take j).map Pt.n)++[.int .i64 (r.getD j default).n]:=by
   have e:r.getD j default=r[j]:=by simp[List.getD,N0 hc]
   rw[e,Ov hc,O3];simp only[ints,O3,Oy,OE]
  have li:(ints ((r.take j).map Pt.n)).length=j:=by rw[dN];simp;omega
  have e6:(j+1)*8<=140737488355328:=by omega
  have e7:j+1<4611686018427387904:=by omega
  unfold bR at hat;unfold kyO;refine rf0 (aY g1 h2 h3 lp hat n0 n1 n2 n3 li e6 (cj8 e7 @NZ @Oe @N2.{0} @N4.{0} @Od @Oc.{0} @OW)) ?_;refine ⟨(j+1,m,n+1,m+1),⟨hc,by simp only;omega,by simp⟩,O5 hc (OD _),?_⟩;rw[hsn];refine aL.of (aS ?_) (λa u hu=>⟨u,?_,cy.refl _⟩) (λx hx=>by simpa using hx) (NY _) (NY _)
  ·exact bY e1
  ·simp only[upd,aA,kyO] at hu |-;by_cases a1:a=1
   ·subst a1;simpa using hu
   ·by_cases a0:a=0
    ·subst a0;simpa [n0] using hu
    ·simp[a1,a0] at hu
 ·have hj2:j=r.length:=by omega
  subst hj2;have g1:=ixE (r.length);rw[Ot];unfold kyO;have hv:av (.agg [.int .i64 k,.str b,.str o,.sl 1 (ints (r.map Pt.n)) (.own tk)]) (.agg [.int .i64 k,.str b,.str o,.sl 1 (ints (r.map Pt.n)) .any]):=av.agg (ay.cons (av.refl _) (ay.cons (av.refl _) (ay.cons (av.refl _) (ay.cons av.cap ay.nil))));have hz:av (.agg [.int .i64 0,.str [],.str [],.sl 1 [] (.exact 0)]) (.agg [.int .i64 0,.str [],.str [],.sl 1 [] .any]):=av.agg (ay.cons (av.refl _) (ay.cons (av.refl _) (ay.cons (av.refl _) (ay.cons av.cap ay.nil))));cases dk:decide (ke=0) with
  |true=>
   cases ds:decide (ks=s) with
   |true=>
    refine rf1 (cj3 g1 dk ds) ck ?_;refine aG ?_;rw[hen];exact av.tup (ay.cons hv (ay.cons (av.refl _) ay.nil))
   |false=>
    refine rf1 (cj3 g1 dk ds) ck ?_;refine aG ?_;rw[hno];exact av.tup (ay.cons hz (ay.cons (av.refl _) ay.nil))
  |false=>
   refine rf1 (cj2 g1 dk) ck ?_;refine aG ?_;rw[N7 af,N7 af,hno];exact av.tup (ay.cons hz (ay.cons (av.refl _) ay.nil))
theorem GA:sd= .seq (hdA sd) (.seq (hdA (tlA sd)) (.seq (hdA (tlA (tlA sd))) (.seq (hdA (tlA (tlA (tlA sd)))) (.seq (hdA (tlA (tlA (tlA (tlA sd))))) (.seq (hdA (tlA (tlA (tlA (tlA (tlA sd)))))) ry))))):=rfl
theorem xS(l:List Pt)(k:Nat):(pts l).drop k=pts (l.drop k):=by simp[pts]
theorem IL(s:List UInt8)(hs:s.length<=140737488355328):aI Tryz.prog 110 [.str s] (.tup [dp (bc s),.int .i64 (mH s)]):=by
 refine f110.aE af rfl (by simp[aO,aF,eJ]) ?_;rw[GA];have PR:=AB s;generalize ry=R at*
 unfold sd zz;simp only[hdA,tlA];have cd:=Gx s hs;obtain ⟨hin,hl⟩:=vO s;have hP:cD s=(decide (jV s=0)&&iP s (iV s)):=rfl;have hO:bc s=if cD s then gG (iV s) else xQ:=rfl
 have hE:mH s=if cD s then 0 else 4:=rfl
 rw[hO,hE];rw[hP];clear hO hE hP;generalize iV s=l at*
 have lp:=cC l;have i3:ints []=[]:=rfl;have hno:dp xQ= .agg [.int .i64 0,.str [],.str [],.sl 1 [] .any]:=rfl;by_cases he:jV s=0
 ·have d1:decide (jV s=0)=true:=N3 he;by_cases h2:2<=l.length
  ·have x0:(0:Int)<((l.length:Nat):Int):=by omega
   have x1:(1:Int)<((l.length:Nat):Int):=by omega
   have d2:decide (((l.length:Nat):Int)<2)=false:=N1 aa;have a0:=dX l 0 .any aa;have a1:=dX l 1 .any aa;unfold bR at a0 a1;by_cases h1:(l.getD 0 default).s.length=1
   ·obtain ⟨c,hc⟩:∃c,(l.getD 0 default).s=[c]:=by
     generalize (l.getD 0 default).s=t at*
     match t with
     |[]=>simp at h1
     |[c]=>exact ⟨c,rfl⟩
     |_::_::_=>simp at h1
    have l1:([c].length:Nat)=1:=rfl;have d3:decide (((1:Nat):Int)=1)=true:=rfl;have cx:aI Tryz.prog 157 [.str [98,111,99,117,112,113],.str [c]] (.int .i64 (fQ c - 1)):=by
     have:=IJ lets c al al;have e:fQ c - 1=uH lets c:=by unfold fQ;omega
     rw[e];exact this
    obtain ⟨r1,r2⟩:=sS c;have w1:IntKind.i64.wrap (fQ c - 1+1)=fQ c:=by rw[IntWalk.i64_in _ aa];omega
    have hck:=Az l;have hkc:kG (l.getD 0 default).s=fQ c:=by rw[hc];rfl
    rw[hc] at a0;have t1:Int.toNat 1=1:=rfl;have t2:Int.toNat 2=2:=rfl;have x2:(0:Int)<=1:=by decide
    have x3:(0:Int)<=2:=by decide
    have x4:(2:Int)<=((l.length:Nat):Int):=by omega
    have hcut:((pts l).take l.length).drop 2=pts (l.drop 2):=by rw[<-lp,Ot,xS]
    have hgd:iP s l=(decide (gx (gG l)=0)&&decide (dC (gG l)=s)):=by
     unfold iP;rw[N3 h2,OP]
    rw[hgd,d1,OP];have hfit:=sR hin hl;have hl2:(l.drop 2).length=l.length - 2:=OC;have lr:=cC (l.drop 2);by_cases hk1:fQ c=1
    ·have hC:gG l=⟨fQ c,(l.getD 1 default).s,[],(l.drop 2).map Pt.n⟩:=by
      unfold gG;simp only[hkc,hk1,ne_eq,not_true,false_and,N5]
     rw[hC] at hfit |-;have dk:decide (fQ c=1)=true:=N3 hk1;have W:=PR (fQ c) (l.getD 1 default).s [] (l.drop 2) aa hfit;refine rn2 (aY d1 d2 d3 x0 x1 x2 x3 x4 t1 t2 l1 (gv a0 a1 lp w1 dk hcut Int.toNat_zero @OL @Oe @NZ)) cd cx ?_;show Wp Tryz.prog 88 R _ _;refine Wp.le (aL.of (aS ?_) (λa u hu=>⟨u,?_,cy.refl _⟩) (λx hx=>hx) (NY _) (NY _)) W
     ·exact bY hcut
     ·simp only[upd,aA,kyO] at hu |-;by_cases a1:a=1
      ·subst a1;simpa using hu
      ·by_cases a0:a=0
       ·subst a0;simpa using hu
       ·simp[a1,a0] at hu
    ·have dk:decide (fQ c=1)=false:=N1 hk1;by_cases hr0:l.drop 2=[]
     ·have hC:gG l=⟨fQ c,(l.getD 1 default).s,[],(l.drop 2).map Pt.n⟩:=by
       unfold gG;simp only[hkc,hr0,ne_eq,not_true,and_false,N5]
      rw[hC] at hfit |-;have W:=PR (fQ c) (l.getD 1 default).s [] (l.drop 2) aa hfit;have hl0:(l.drop 2).length=0:=by rw[hr0];rfl
      have z0:decide ((0:Int)<(((l.drop 2).length:Nat):Int))=false:=N1 aa;refine rn2 (aY d1 d2 d3 x0 x1 x2 x3 x4 t1 t2 l1 (aY a0 a1 lp w1 dk hcut lr z0 Int.toNat_zero @OL @Oe @NZ)) cd cx ?_;show Wp Tryz.prog 88 R _ _;refine Wp.le (aL.of (aS ?_) (λa u hu=>⟨u,?_,cy.refl _⟩) (λx hx=>hx) (NY _) (NY _)) W
      ·exact bY hcut
      ·simp only[upd,aA,kyO] at hu |-;by_cases a1:a=1
       ·subst a1;simpa using hu
       ·by_cases a0:a=0
        ·subst a0;simpa using hu
        ·simp[a1,a0] at hu
     ·have hC:gG l=⟨fQ c,(l.getD 1 default).s,((l.drop 2).getD 0 default).s,((l.drop 2).drop 1).map Pt.n⟩:=by
       unfold gG;simp only[hkc,hr0,hk1,ne_eq,QS,P5,N9]
      rw[hC] at hfit |-;have hpos:=Qb.2 hr0;have W:=PR (fQ c) (l.getD 1 default).s ((l.drop 2).getD 0 default).s ((l.drop 2).drop 1) (by rw[OC];omega) hfit;have z0:decide ((0:Int)<(((l.drop 2).length:Nat):Int))=true:=N3 aa;have x5:(0:Int)<(((l.drop 2).length:Nat):Int):=by omega
      have x6:(1:Int)<=(((l.drop 2).length:Nat):Int):=by omega
      have a2:=dX (l.drop 2) 0 .any hpos;unfold bR at a2;have hcut2:((pts (l.drop 2)).take (l.drop 2).length).drop 1=pts ((l.drop 2).drop 1):=by rw[<-lr,Ot,xS]
      generalize l.drop 2=r at*
      refine rn2 (aY d1 d2 d3 x0 x1 x2 x3 x4 x5 x6 t1 (aY t2 l1 a0 a1 a2 lp w1 dk hcut hcut2 lr (cj5 z0 Int.toNat_zero @OL @Oe @NZ))) cd cx ?_;show Wp Tryz.prog 88 R _ _;refine Wp.le (aL.of (aS ?_) (λa u hu=>⟨u,?_,cy.refl _⟩) (λx hx=>hx) (NY _) (NY _)) W
      ·exact bY hcut2
      ·simp only[upd,aA,kyO] at hu |-;by_cases a1:a=1
       ·subst a1;simpa using hu
       ·by_cases a0:a=0
        ·subst a0;simpa using hu
        ·simp[a1,a0] at hu
   ·have d3:decide ((((l.getD 0 default).s.length:Nat):Int)=1)=false:=N1 aa;have hk:kG (l.getD 0 default).s=0:=by
     generalize (l.getD 0 default).s=t at*
     match t with
     |[]=>rfl
     |[c]=>simp at h1
     |_::_::_=>rfl
    have hg:iP s l=false:=D3 hk;rw[hg,PS,N7 af,N7 af,hno];refine rf1 (cj9 d1 d2 d3 x0 a0 lp Int.toNat_zero @OL @Oe) cd ?_;refine aG ?_;exact av.tup (ay.cons (av.agg (ay.cons (av.refl _) (ay.cons (av.refl _) (ay.cons (av.refl _) (ay.cons av.cap ay.nil))))) (ay.cons (av.refl _) ay.nil))
  ·have d2:decide (((l.length:Nat):Int)<2)=true:=N3 aa;have hg:iP s l=false:=by unfold iP;rw[N1 h2];rfl
   rw[hg,PS,N7 af,N7 af,hno];refine rf1 (cj3 d1 d2 lp) cd ?_;refine aG ?_;exact av.tup (ay.cons (av.agg (ay.cons (av.refl _) (ay.cons (av.refl _) (ay.cons (av.refl _) (ay.cons av.cap ay.nil))))) (ay.cons (av.refl _) ay.nil))
 ·have d1:decide (jV s=0)=false:=N1 he;rw[d1,O6,N7 af,N7 af,hno];refine rf1 d1 cd ?_;refine aG ?_;exact av.tup (ay.cons (av.agg (ay.cons (av.refl _) (ay.cons (av.refl _) (ay.cons (av.refl _) (ay.cons av.cap ay.nil))))) (ay.cons (av.refl _) ay.nil))
end Go.Proofs.YtjnoobmaedgooaaGreat.Arch
end
section
set_option maxRecDepth 100000
namespace Go.Proofs.YtjnoobmaedgooaaGreat.Arch
open Go Go.Av Go.Proofs Go.Proofs.YtjnoobmaedgooaaGreat.C Go.Proofs.YtjnoobmaedgooaaGreat.Desk Go.Proofs.YtjnoobmaedgooaaGreat.Batch
def vP:AC:=tlA (tlA (tlA (tlA (tlA (tlA (tlA (tlA c66)))))))
theorem xU(s:List UInt8)(k:Int)(b o:List UInt8)(l:List Pt)(i:Nat)(hi:i<=l.length)(hl:l.length<=128)(hf:(⟨k,b,o,(l.drop i).map Pt.n⟩:Ky).fit):
  Wp Tryz.prog 89 vP ⟨tm [(0,.str s),(2,.ptr 0 0),(4,.sl 3 (pts l) .any),(6,.ptr 1 0),(8,.int .i64 (i:Nat))],⟨kyO k b o (.sl 1 [] (.exact 0)),2,[],0⟩⟩ (QK s ⟨k,b,o,(l.drop i).map Pt.n⟩):=by
 have hrl:(l.drop i).length=l.length - i:=OC;have lp:=cC l;have ck:=Gf _ hf;have hno:dp xQ= .agg [.int .i64 0,.str [],.str [],.sl 1 [] .any]:=rfl;have hen:dp ⟨k,b,o,(l.drop i).map Pt.n⟩= .agg [.int .i64 k,.str b,.str o,.sl 1 (ints ((l.drop i).map Pt.n)) .any]:=rfl;unfold QK;rw[hen] at ck;have hra:∀j,j<(l.drop i).length->l.getD (i+j) default=(l.drop i).getD j default:=λj hj=>by
  simp[List.getD,PM]
 generalize hR:l.drop i=r at*
 generalize gx ⟨k,b,o,r.map Pt.n⟩=ke at*
 generalize dC ⟨k,b,o,r.map Pt.n⟩=ks at*
 unfold vP c66 kyO zz;simp only[tlA];refine rf0 lp ?_;refine Wp.le (aL.tok _ _) ?_;refine Wp.le (s':=⟨tm [(0,.str s),(2,.ptr 0 0),(4,.sl 3 (pts l) .any),(6,.ptr 1 0),(9,.int .i64 ((i+0:Nat)))],⟨kyO k b o (.sl 1 (ints []) (.own 0)),2,[0],1⟩⟩) (aL.of (aS ?_) (OLe.upd (OLe.bK _) (ay.cons (av.refl _) (ay.cons (av.refl _) (ay.cons (av.refl _) (ay.cons (av.dF rfl) ay.nil))))) (λa ha=>ha) (NY _) (NY _)) ?_
 ·exact xSb
 refine Wp.cI [0,2,4,6] xA7 (λj:Nat × Nat × Nat × Nat=>[(9,.int .i64 ((i+j.1:Nat)))]) (λj=>⟨kyO k b o (.sl 1 (ints ((r.take j.1).map Pt.n)) (.own j.2.1)),j.2.2.1,[j.2.1],j.2.2.2⟩) (λj=>j.1<=r.length/\2<=j.2.2.1/\j.2.1<j.2.2.2) (λj=>r.length - j.1) (0,0,2,1) ⟨Og _,by decide,by decide⟩ rfl ?_ ?_
 ·exact xSb
 rintro ⟨j,tk,n,m⟩ ⟨hj,hn2,htm⟩;simp only at hj hn2 htm;by_cases hc:j<r.length
 ·have g1:decide (((i+j:Nat):Int)<((l.length:Nat):Int))=true:=N3 aa;have h2:(0:Int)<=((i+j:Nat):Int):=by omega
  have h3:((i+j:Nat):Int)<((l.length:Nat):Int):=by omega
  have e1:IntKind.i64.wrap (((i+j:Nat):Int)+1)=((i+(j+1):Nat):Int):=by rw[IntWalk.i64_in _ aa];omega
  have hat:=dX l (i+j) .any aa;rw[hra j hc] at hat;have hsn:ints ((r.take (j+1)).map Pt.n)=ints ((r.take j).map Pt.n)++[.int .i64 (r.getD j default).n]:=by
   have e:r.getD j default=r[j]:=by simp[List.getD,N0 hc]
   rw[e,Ov hc,O3];simp only[ints,O3,Oy,OE]
  have li:(ints ((r.take j).map Pt.n)).length=j:=by rw[dN];simp;omega
  have e6:(j+1)*8<=140737488355328:=by omega
  have e7:j+1<4611686018427387904:=by omega
  unfold bR at hat;unfold kyO;refine rn0 (aY g1 h2 h3 lp hat li e6 e7 @NZ @Oe @N2.{0} (cj4 @N4.{0} @Od @Oc.{0} @OW)) ?_;refine ⟨(j+1,m,n,m+1),⟨hc,by simp only;omega,by simp⟩,O5 hc (OD _),?_⟩;rw[hsn];refine aL.of (aS ?_) (λa u hu=>⟨u,?_,cy.refl _⟩) (λx hx=>by simpa using hx) (NY _) (NY _)
  ·exact bY e1
  ·simp only[upd,aA,kyO] at hu |-;by_cases a1:a=1
   ·subst a1;simpa using hu
   ·by_cases a0:a=0
    ·subst a0;simpa using hu
    ·simp[a1,a0] at hu
 ·have hj2:j=r.length:=by omega
  subst hj2;have g1:decide (((i+r.length:Nat):Int)<((l.length:Nat):Int))=false:=N1 aa;rw[Ot];unfold kyO;have hv:av (.agg [.int .i64 k,.str b,.str o,.sl 1 (ints (r.map Pt.n)) (.own tk)]) (.agg [.int .i64 k,.str b,.str o,.sl 1 (ints (r.map Pt.n)) .any]):=av.agg (ay.cons (av.refl _) (ay.cons (av.refl _) (ay.cons (av.refl _) (ay.cons av.cap ay.nil))));have hz:av (.agg [.int .i64 0,.str [],.str [],.sl 1 [] (.exact 0)]) (.agg [.int .i64 0,.str [],.str [],.sl 1 [] .any]):=av.agg (ay.cons (av.refl _) (ay.cons (av.refl _) (ay.cons (av.refl _) (ay.cons av.cap ay.nil))));cases dk:decide (ke=0) with
  |true=>
   cases ds:decide (ks=s) with
   |true=>
    refine rf1 (cj4 g1 lp dk ds) ck ?_;refine aG ?_;rw[hen];exact av.tup (ay.cons hv (ay.cons (av.refl _) ay.nil))
   |false=>
    refine rf1 (cj4 g1 lp dk ds) ck ?_;refine aG ?_;rw[hno];exact av.tup (ay.cons hz (ay.cons (av.refl _) ay.nil))
  |false=>
   refine rf1 (cj3 g1 lp dk) ck ?_;refine aG ?_;rw[N7 af,N7 af,hno];exact av.tup (ay.cons hz (ay.cons (av.refl _) ay.nil))
def kR(t:List UInt8):Nat->Int
 |0=>0
 |j+1=>if t=[lets.getD j 0] then ((j+1:Nat):Int) else kR t j
theorem KS(t:List UInt8):kR t 6=kG t:=by
 match t with
 |[]=>rfl
 |[c]=>
  have e:kG [c]=fQ c:=rfl;rw[e,xP];simp only[kR,lets,Pf,P5,OG,Pg];by_cases h1:c=98
  ·subst h1;rfl
  by_cases h2:c=111
  ·subst h2;rfl
  by_cases h3:c=99
  ·subst h3;rfl
  by_cases h4:c=117
  ·subst h4;rfl
  by_cases h5:c=112
  ·subst h5;rfl
  by_cases h6:c=113
  ·subst h6;rfl
  simp[h1,h2,h3,h4,h5,h6]
 |a::b::r=>
  simp[kR,lets,kG]
theorem GB:∀j,j<6->(([98,111,99,117,112,113]:List UInt8).take (j+1)).drop j=[lets.getD j 0]:=by decide
theorem IM:c66= .seq (hdA c66) (.seq (hdA (tlA c66)) (.seq (hdA (tlA (tlA c66))) (.seq (hdA (tlA (tlA (tlA c66)))) (.seq (hdA (tlA (tlA (tlA (tlA c66))))) (.seq (hdA (tlA (tlA (tlA (tlA (tlA c66)))))) (.seq (hdA (tlA (tlA (tlA (tlA (tlA (tlA c66))))))) (.seq (hdA (tlA (tlA (tlA (tlA (tlA (tlA (tlA c66)))))))) vP))))))):=rfl
theorem xV(s:List UInt8)(hs:s.length<=140737488355328):aI Tryz.prog 66 [.str s] (.tup [dp (bc s),.int .i64 (mH s)]):=by
 refine f66.aE af rfl (by simp[aO,aF,eJ]) ?_;rw[IM];have PR:=xU s;generalize vP=R at*
 unfold c66 zz;simp only[hdA,tlA];have cd:=D2 s hs;obtain ⟨hin,hl⟩:=vO s;have hP:cD s=(decide (jV s=0)&&iP s (iV s)):=rfl;have hO:bc s=if cD s then gG (iV s) else xQ:=rfl
 have hE:mH s=if cD s then 0 else 4:=rfl
 rw[hO,hE];rw[hP];clear hO hE hP;generalize iV s=l at*
 have lp:=cC l;have hno:dp xQ= .agg [.int .i64 0,.str [],.str [],.sl 1 [] .any]:=rfl;have hz:av (.agg [.int .i64 0,.str [],.str [],.sl 1 [] (.exact 0)]) (.agg [.int .i64 0,.str [],.str [],.sl 1 [] .any]):=av.agg (ay.cons (av.refl _) (ay.cons (av.refl _) (ay.cons (av.refl _) (ay.cons av.cap ay.nil))));by_cases he:jV s=0
 ·have d1:decide (jV s=0)=true:=N3 he;by_cases h2:2<=l.length
  ·have x0:(0:Int)<((l.length:Nat):Int):=by omega
   have x1:(1:Int)<((l.length:Nat):Int):=by omega
   have d2:decide (((l.length:Nat):Int)<2)=false:=N1 aa;have a0:=dX l 0 .any aa;have a1:=dX l 1 .any aa;unfold bR at a0 a1;have hgd:iP s l=(decide (gx (gG l)=0)&&decide (dC (gG l)=s)):=by
    unfold iP;rw[N3 h2,OP]
   rw[hgd,d1,OP];have hfit:=sR hin hl;have hck:=Az l;have hk6:=KS (l.getD 0 default).s;obtain ⟨r1,r2⟩:=xR (l.getD 0 default).s;refine rf1 (cj3 d1 d2 lp) cd ?_;refine Wp.le (s':=⟨tm [(0,.str s),(2,.ptr 0 0),(4,.sl 3 (pts l) .any),(6,.ptr 1 0),(7,.int .i64 ((0:Nat)+1:Nat))],⟨kyO (kR (l.getD 0 default).s 0) [] [] (.sl 1 [] (.exact 0)),2,[],0⟩⟩) (aL.of (aS ?_) (OLe.bK _) (λa ha=>ha) (NY _) (NY _)) ?_
   ·exact xSb
   refine Wp.cI [0,2,4,6] xA7 (λj:Nat=>[(7,.int .i64 ((j+1:Nat)))]) (λj=>⟨kyO (kR (l.getD 0 default).s j) [] [] (.sl 1 [] (.exact 0)),2,[],0⟩) (λj=>j<=6) (λj=>6 - j) 0 (Og _) rfl ?_ ?_
   ·exact xSb
   rintro j hj;by_cases hc:j<6
   ·have g1:decide (((j+1:Nat):Int)<=6)=true:=N3 aa;have w1:IntKind.i64.wrap (((j+1:Nat):Int) - 1)=(j:Int):=by rw[IntWalk.i64_in _ aa];omega
    have w2:IntKind.i64.wrap (((j+1:Nat):Int)+1)=((j+1+1:Nat):Int):=by rw[IntWalk.i64_in _ aa];omega
    have y1:(0:Int)<=(j:Int):=by omega
    have y2:(j:Int)<=((j+1:Nat):Int):=by omega
    have y3:((j+1:Nat):Int)<=((6:Nat):Int):=by omega
    have y4:(0:Int)<=((j+1:Nat):Int):=by omega
    have hcut:List.drop j ((98:UInt8)::List.take j [111,99,117,112,113])=[lets.getD j 0]:=GB j hc;have hL:(([98,111,99,117,112,113]:List UInt8).length:Nat)=6:=rfl;have hkj:kR (l.getD 0 default).s (j+1)=if (l.getD 0 default).s=[lets.getD j 0] then ((j+1:Nat):Int) else kR (l.getD 0 default).s j:=rfl
    unfold kyO;by_cases hq:(l.getD 0 default).s=[lets.getD j 0]
    ·have dq:decide ((l.getD 0 default).s=[lets.getD j 0])=true:=N3 hq;refine rn0 (aY g1 w1 y1 y2 y3 y4 x0 a0 hcut hL dq (cj5 lp Int.toNat_zero @NZ @OL @Oe)) ?_;refine ⟨j+1,aa,aa,?_⟩;rw[hkj,Of hq];refine aL.of (aS ?_) (λa u hu=>⟨u,?_,cy.refl _⟩) (λx hx=>hx) (NY _) (NY _)
     ·exact bY w2
     ·simp only[upd,aA,kyO] at hu |-;by_cases a1:a=1
      ·subst a1;simpa using hu
      ·by_cases a0:a=0
       ·subst a0;simpa using hu
       ·simp[a1,a0] at hu
    ·have dq:decide ((l.getD 0 default).s=[lets.getD j 0])=false:=N1 hq;refine rn0 (aY g1 w1 y1 y2 y3 y4 x0 a0 hcut hL dq (cj5 lp Int.toNat_zero @NZ @OL @Oe)) ?_;refine ⟨j+1,aa,aa,?_⟩;rw[hkj,N7 hq];refine aL.of (aS ?_) (λa u hu=>⟨u,?_,cy.refl _⟩) (λx hx=>hx) (NY _) (NY _)
     ·exact bY w2
     ·simp only[upd,aA,kyO] at hu |-;by_cases a1:a=1
      ·subst a1;simpa using hu
      ·by_cases a0:a=0
       ·subst a0;simpa using hu
       ·simp[a1,a0] at hu
   ·have hj6:j=6:=by omega
    subst hj6;rw[hk6];have g1:decide (((6+1:Nat):Int)<=6)=false:=by decide
    have t1:Int.toNat 1=1:=rfl;have t2:Int.toNat 2=2:=rfl;have x2:(0:Int)<=1:=by decide
    have x3:(0:Int)<=2:=by decide
    unfold kyO;generalize hkk:kG (l.getD 0 default).s=kk at*
    by_cases hc3:1<kk/\2<l.length
    ·have z1:decide ((1:Int)<kk)=true:=N3 hc3.1;have z2:decide ((2:Int)<((l.length:Nat):Int))=true:=N3 aa;have x4:(2:Int)<((l.length:Nat):Int):=by omega
     have a2:=dX l 2 .any hc3.2;unfold bR at a2;have hr0:l.drop 2≠[]:=by intro h;have:=Pb List.length h;simp only[OC,List.length_nil] at this;omega
     have hd0:(l.drop 2).getD 0 default=l.getD 2 default:=by simp[List.getD,PM]
     have hd1:(l.drop 2).drop 1=l.drop 3:=by rw[PQ]
     have hC:gG l=⟨kk,(l.getD 1 default).s,(l.getD 2 default).s,(l.drop 3).map Pt.n⟩:=by
      unfold gG;simp only;rw[hkk,Of ⟨aa,hr0⟩,hd0,hd1]
     rw[hC] at hfit |-;have W:=PR kk (l.getD 1 default).s (l.getD 2 default).s l 3 aa hl hfit;refine rf0 (aY g1 x0 x1 x2 x3 x4 t1 t2 a0 a1 a2 (cj6 z1 z2 lp Int.toNat_zero @OL @Oe)) ?_;show Wp Tryz.prog 89 R _ _;refine Wp.le (aL.of (aS ?_) (λa u hu=>⟨u,?_,cy.refl _⟩) (λx hx=>hx) (NY _) (NY _)) W
     ·exact xSb
     ·simp only[upd,aA,kyO] at hu |-;by_cases a1:a=1
      ·subst a1;simpa using hu
      ·by_cases a0:a=0
       ·subst a0;simpa using hu
       ·simp[a1,a0] at hu
    ·by_cases z0:1<kk
     ·have z1:decide ((1:Int)<kk)=true:=N3 z0;have z2:decide ((2:Int)<((l.length:Nat):Int))=false:=N1 aa;have hr0:l.drop 2=[]:=OY aa;have hC:gG l=⟨kk,(l.getD 1 default).s,[],(l.drop 2).map Pt.n⟩:=by
       unfold gG;simp only;rw[hkk,N7 (λh=>h.2 hr0)]
      rw[hC] at hfit |-;have W:=PR kk (l.getD 1 default).s [] l 2 aa hl hfit;refine rf0 (aY g1 x0 x1 x2 x3 t1 t2 a0 a1 z1 z2 (cj4 lp Int.toNat_zero @OL @Oe)) ?_;show Wp Tryz.prog 89 R _ _;refine Wp.le (aL.of (aS ?_) (λa u hu=>⟨u,?_,cy.refl _⟩) (λx hx=>hx) (NY _) (NY _)) W
      ·exact xSb
      ·simp only[upd,aA,kyO] at hu |-;by_cases a1:a=1
       ·subst a1;simpa using hu
       ·by_cases a0:a=0
        ·subst a0;simpa using hu
        ·simp[a1,a0] at hu
     ·have z1:decide ((1:Int)<kk)=false:=N1 z0;by_cases k1:kk=1
      ·have hC:gG l=⟨kk,(l.getD 1 default).s,[],(l.drop 2).map Pt.n⟩:=by
        unfold gG;simp only;rw[hkk,N7 (λh=>h.1 k1)]
       rw[hC] at hfit |-;have W:=PR kk (l.getD 1 default).s [] l 2 aa hl hfit;refine rf0 (aY g1 x0 x1 x2 x3 t1 t2 a0 a1 z1 lp (cj3 Int.toNat_zero @OL @Oe)) ?_;show Wp Tryz.prog 89 R _ _;refine Wp.le (aL.of (aS ?_) (λa u hu=>⟨u,?_,cy.refl _⟩) (λx hx=>hx) (NY _) (NY _)) W
       ·exact xSb
       ·simp only[upd,aA,kyO] at hu |-;by_cases a1:a=1
        ·subst a1;simpa using hu
        ·by_cases a0:a=0
         ·subst a0;simpa using hu
         ·simp[a1,a0] at hu
      ·have k0:kk=0:=by omega
       have hE1:gx (gG l)=2:=qa (by rw[hck,k0]);have hE2:gx ⟨kk,(l.getD 1 default).s,[],(l.drop 2).map Pt.n⟩=2:=qa k0;have W:=PR kk (l.getD 1 default).s [] l 2 aa hl (by
        refine ⟨by simp;omega,λn hn=>?_⟩;obtain ⟨p,hp,rfl⟩:=Oo.1 hn;exact hin p (P6 hp))
       unfold QK at W;rw[hE2] at W;rw[hE1];have b0:decide ((2:Int)=0)=false:=rfl;rw[b0,O6] at W |-;rw[N7 af,N7 af] at W |-;refine rf0 (aY g1 x0 x1 x2 x3 t1 t2 a0 a1 z1 lp (cj3 Int.toNat_zero @OL @Oe)) ?_;show Wp Tryz.prog 89 R _ _;refine Wp.le (aL.of (aS ?_) (λa u hu=>⟨u,?_,cy.refl _⟩) (λx hx=>hx) (NY _) (NY _)) W
       ·exact xSb
       ·simp only[upd,aA,kyO] at hu |-;by_cases a1:a=1
        ·subst a1;simpa using hu
        ·by_cases a0:a=0
         ·subst a0;simpa using hu
         ·simp[a1,a0] at hu
  ·have d2:decide (((l.length:Nat):Int)<2)=true:=N3 aa;have hg:iP s l=false:=by unfold iP;rw[N1 h2];rfl
   rw[hg,PS,N7 af,N7 af,hno];refine rf1 (cj3 d1 d2 lp) cd ?_;refine aG ?_;exact av.tup (ay.cons hz (ay.cons (av.refl _) ay.nil))
 ·have d1:decide (jV s=0)=false:=N1 he;rw[d1,O6,N7 af,N7 af,hno];refine rf1 d1 cd ?_;refine aG ?_;exact av.tup (ay.cons hz (ay.cons (av.refl _) ay.nil))
def om(s:List UInt8):Bool:=decide (s.length=1)&&(decide (48<=(s.getD 0 0).toNat)&&decide ((s.getD 0 0).toNat<=50))
def stV(s:List UInt8):Int:=if om s then (((s.getD 0 0).toNat - 48:Nat):Int) else 0
def stR(s:List UInt8):Int:=if om s then 0 else 4
theorem xW(s:List UInt8):aI Tryz.prog 111 [.str s] (.tup [.int .i64 (stV s),.int .i64 (stR s)]):=by
 refine f111.aE af rfl rfl ?_;unfold LQ stV stR zz;by_cases h1:s.length=1
 ·have d1:decide (((s.length:Nat):Int)=1)=true:=N3 aa;have l0:(0:Int)<((s.length:Nat):Int):=by omega
  have hi:om s=(decide (48<=(s.getD 0 0).toNat)&&decide ((s.getD 0 0).toNat<=50)):=by unfold om;rw[N3 h1,OP]
  rw[hi];obtain ⟨c,hg⟩:∃c,s.getD 0 0=c:=⟨_,rfl⟩;rw[hg];have hc:=c.toNat_lt;by_cases h2:48<=c.toNat
  ·have d2:decide (((c.toNat:Nat):Int)<48)=false:=N1 aa;by_cases h3:c.toNat<=50
   ·have d3:decide ((50:Int)<((c.toNat:Nat):Int))=false:=N1 aa;have w1:IntKind.u8.wrap (((c.toNat:Nat):Int) - 48)=((c.toNat - 48:Nat):Int):=by rw[IntWalk.u8_in _ aa];omega
    have w2:IntKind.i64.wrap ((c.toNat - 48:Nat):Int)=((c.toNat - 48:Nat):Int):=IntWalk.i64_in _ aa;rw[N3 h2,N3 h3];refine rf0 (gw d1 l0 hg d2 d3 w1 w2 @byte.eq_1 Int.toNat_zero @OL @Oe) ?_;refine aG ?_;exact av.refl _
   ·have d3:decide ((50:Int)<((c.toNat:Nat):Int))=true:=N3 aa;rw[N3 h2,N1 h3];refine rf0 (cj9 d1 l0 hg d2 d3 @byte.eq_1 Int.toNat_zero @OL @Oe) ?_;refine aG ?_;exact av.refl _
  ·have d2:decide (((c.toNat:Nat):Int)<48)=true:=N3 aa;rw[N1 h2];refine rf0 (cj8 d1 l0 hg d2 @byte.eq_1 Int.toNat_zero @OL @Oe) ?_;refine aG ?_;exact av.refl _
 ·have d1:decide (((s.length:Nat):Int)=1)=false:=N1 aa;have hi:om s=false:=by unfold om;rw[N1 h1];rfl
  rw[hi];refine rf0 d1 ?_;refine aG ?_;exact av.refl _
theorem vQ(s:List UInt8):aI Tryz.prog 67 [.str s] (.tup [.int .i64 (stV s),.int .i64 (stR s)]):=by
 refine f67.aE af rfl rfl ?_;unfold c67 stV stR zz;by_cases h1:s.length=1
 ·have d1:decide (((s.length:Nat):Int)=1)=true:=N3 aa;have l0:(0:Int)<((s.length:Nat):Int):=by omega
  have hi:om s=(decide (48<=(s.getD 0 0).toNat)&&decide ((s.getD 0 0).toNat<=50)):=by unfold om;rw[N3 h1,OP]
  rw[hi];obtain ⟨c,hg⟩:∃c,s.getD 0 0=c:=⟨_,rfl⟩;rw[hg];have hc:=c.toNat_lt;by_cases h2:48<=c.toNat
  ·have d2:decide (((c.toNat:Nat):Int)<48)=false:=N1 aa;by_cases h3:c.toNat<=50
   ·have d3:decide ((50:Int)<((c.toNat:Nat):Int))=false:=N1 aa;have w1:IntKind.u8.wrap (((c.toNat:Nat):Int) - 48)=((c.toNat - 48:Nat):Int):=by rw[IntWalk.u8_in _ aa];omega
    have w2:IntKind.i64.wrap ((c.toNat - 48:Nat):Int)=((c.toNat - 48:Nat):Int):=IntWalk.i64_in _ aa;rw[N3 h2,N3 h3];refine rf0 (gw d1 l0 hg d2 d3 w1 w2 @byte.eq_1 Int.toNat_zero @OL @Oe) ?_;refine aG ?_;exact av.refl _
   ·have d3:decide ((50:Int)<((c.toNat:Nat):Int))=true:=N3 aa;rw[N3 h2,N1 h3];refine rf0 (cj9 d1 l0 hg d2 d3 @byte.eq_1 Int.toNat_zero @OL @Oe) ?_;refine aG ?_;exact av.refl _
  ·have d2:decide (((c.toNat:Nat):Int)<48)=true:=N3 aa;rw[N1 h2];refine rf0 (cj8 d1 l0 hg d2 @byte.eq_1 Int.toNat_zero @OL @Oe) ?_;refine aG ?_;exact av.refl _
 ·have d1:decide (((s.length:Nat):Int)=1)=false:=N1 aa;have hi:om s=false:=by unfold om;rw[N1 h1];rfl
  rw[hi];refine rf0 d1 ?_;refine aG ?_;exact av.refl _
structure Hd where
 sz:Int
 re:Int
 im:Int
 g:Bool
 u:Bool
def D4:Hd:=⟨0,0,0,false,false⟩
def qJ(h:Hd):AV:=fq h.sz h.re h.im h.g h.u
def hdC(s:List UInt8):Hd:=⟨(val ((s.drop 1).take 2):Nat),(val ((s.drop 3).take 4):Nat),(val ((s.drop 7).take 4):Nat),decide ((s.getD 0 0).toNat%2=1),decide ((s.getD 0 0).toNat/2%2=1)⟩
def hdB(s:List UInt8):Bool:=decide (s.length=11)&&(cX (hdC s).sz (hdC s).re (hdC s).im (hdC s).g&&decide (eP (hdC s).sz.toNat (hdC s).re.toNat (hdC s).im.toNat (hdC s).g (hdC s).u=s))
def hdO(s:List UInt8):Hd:=if hdB s then hdC s else D4
def hdE(s:List UInt8):Int:=if hdB s then 0 else 4
theorem D5{l:List UInt8}(h:l.length<=7):i64 l=((val l:Nat):Int):=by
 have h1:=jU l;have h2:(256:Nat)^l.length<=256^7:=P8 aa h;have e:(256:Nat)^7=72057594037927936:=by decide
 unfold i64;exact IntWalk.i64_in _ aa
theorem xX(s:List UInt8)(hs:s.length<=140737488355328):aI Tryz.prog 62 [.str s] (.tup [qJ (hdO s),.int .i64 (hdE s)]):=by
 refine f62.aE af rfl rfl ?_;unfold c62 hdO hdE zz;by_cases h1:s.length=11
 ·have d1:decide (((s.length:Nat):Int)=11)=true:=N3 aa;have hi:hdB s=(cX (hdC s).sz (hdC s).re (hdC s).im (hdC s).g&&decide (eP (hdC s).sz.toNat (hdC s).re.toNat (hdC s).im.toNat (hdC s).g (hdC s).u=s)):=by unfold hdB;rw[N3 h1,OP]
  rw[hi];have l0:(0:Int)<((s.length:Nat):Int):=by omega
  have n1:=kv s 1 2 aa aa aa;have n2:=kv s 3 4 aa aa aa;have n3:=kv s 7 4 aa aa aa;rw[D5 aq] at n1 n2 n3;have hC:hdC s=⟨(val ((s.drop 1).take 2):Nat),(val ((s.drop 3).take 4):Nat),(val ((s.drop 7).take 4):Nat),decide ((s.getD 0 0).toNat%2=1),decide ((s.getD 0 0).toNat/2%2=1)⟩:=rfl;rw[hC];simp only;obtain ⟨c,hg⟩:∃c,s.getD 0 0=c:=⟨_,rfl⟩;rw[hg];have b1:val ((s.drop 1).take 2)<65536:=by have:=jU ((s.drop 1).take 2);rw[OJ,OC,h1] at this;exact this
  have b2:val ((s.drop 3).take 4)<4294967296:=by have:=jU ((s.drop 3).take 4);rw[OJ,OC,h1] at this;exact this
  have b3:val ((s.drop 7).take 4)<4294967296:=by have:=jU ((s.drop 7).take 4);rw[OJ,OC,h1] at this;exact this
  have i1:((1:Nat):Int)=1:=rfl;have i2:((2:Nat):Int)=2:=rfl;have i3:((3:Nat):Int)=3:=rfl;have i4:((4:Nat):Int)=4:=rfl;have i7:((7:Nat):Int)=7:=rfl;rw[i1,i2] at n1;rw[i3,i4] at n2;rw[i7,i4] at n3;generalize val ((s.drop 1).take 2)=v1 at*
  generalize val ((s.drop 3).take 4)=v2 at*
  generalize val ((s.drop 7).take 4)=v3 at*
  have hc:=c.toNat_lt;have m1:((c.toNat:Nat):Int).tmod 2=((c.toNat%2:Nat):Int):=rfl;have m2:((c.toNat:Nat):Int).tdiv 2=((c.toNat/2:Nat):Int):=rfl;have m3:IntKind.u8.wrap ((c.toNat/2:Nat):Int)=((c.toNat/2:Nat):Int):=IntWalk.u8_in _ aa;have m4:((c.toNat/2:Nat):Int).tmod 2=((c.toNat/2%2:Nat):Int):=rfl;have t1:decide (((c.toNat:Nat):Int).tmod 2=1)=decide (c.toNat%2=1):=by
   rw[m1,Qv];omega
  have t2:decide ((IntKind.u8.wrap (((c.toNat:Nat):Int).tdiv 2)).tmod 2=1)=decide (c.toNat/2%2=1):=by
   rw[m2,m3,m4,Qv];omega
  generalize decide (c.toNat%2=1)=g at*
  generalize decide (c.toNat/2%2=1)=u at*
  clear m1 m2 m3 m4;have cr:=lC v1 v2 v3 g u;have ch:=BR v1 v2 v3 b1 b2 b3 g u;have tn:∀v:Nat,((v:Nat):Int).toNat=v:=λv=>Int.toNat_natCast v;rw[tn,tn,tn];unfold fq at cr ch;unfold qJ fq D4;cases dr:cX v1 v2 v3 g with
  |false=>
   rw[dr] at cr;rw[O6,N7 af,N7 af];refine rn8 (cj9 d1 l0 hg @byte.eq_1 t1 t2 Int.toNat_zero @OL @Oe) n1 n2 n3 cr ch ch ch ch ?_;refine aG ?_;exact av.refl _
  |true=>
   rw[dr] at cr;rw[OP];cases de:decide (eP v1 v2 v3 g u=s) with
   |false=>
    rw[N7 af,N7 af];refine rn8 (gv d1 l0 hg @byte.eq_1 t1 t2 de Int.toNat_zero @OL @Oe) n1 n2 n3 cr ch ch ch ch ?_;refine aG ?_;exact av.refl _
   |true=>
    rw[Of rfl,Of rfl];refine rn8 (gv d1 l0 hg @byte.eq_1 t1 t2 de Int.toNat_zero @OL @Oe) n1 n2 n3 cr ch ch ch ch ?_;refine aG ?_;exact av.refl _
 ·have d1:decide (((s.length:Nat):Int)=11)=false:=N1 aa;have hi:hdB s=false:=by unfold hdB;rw[N1 h1];rfl
  rw[hi];unfold qJ fq D4;refine rf0 d1 ?_;refine aG ?_;exact av.refl _
theorem filter_lt{T:List Nat}{m t:Nat}(h:∀x∈T,x<m)(ht:m<=t):List.filter (λx=>decide (¬x=t)) T=T:=by
 refine List.filter_eq_self.2 λx hx=>?_;have:=h x hx;simp;omega
def HOk(h:H):Prop:=(∀j,h.n<=j->h.objs j=none)/\∀t∈h.toks,t<h.m
set_option maxHeartbeats 4000000 in
theorem xY(b:Bk)(hb:gX b=true)(hl:b.l.length<=1000000)(id:Nat)(Inv:Nat->H->Prop)(E:H->Prop)
  (hbd:∀i h,Inv i h->HOk h)
  (hup:∀i h n m,Inv i h->h.n<=n->h.m<=m->Inv i {h with n:=n,m:=m})
  (hY:∀i h t m,i<(bD b).length->Inv i h->h.m<=t->t<m->u6 Tryz.prog id [.sl 3 (chs ((bD b).getD i [])) (.own t)] {h with toks:=t::h.toks,m:=m} λr h'=>(r= .bool true/\Inv (i+1) h')\/(r= .bool false/\E h'))
  (h0:H) (hi:Inv 0 h0):fG Tryz.prog 91 [.yld id,.ref [.str b.n,.int .i64 b.st,.sl 8 (vss b.l) .any]] h0 λr h'=>r= .tup []/\(Inv (bD b).length h'\/E h'):=by
 refine f91.jQ af ?_;unfold c91 zz;have hroom:=vG hb;have c1:=BJ b.st;have c2:=sK (kyB b) (vC b) (stS b.st);have hL0:(bD b).getD 0 []=[vB b]:=rfl;have hB1:vB b=⟨dC (kyB b),stS b.st,false⟩:=rfl;have hLs:∀j,j<b.l.length->(bD b).getD (j+1) []=cT b.n (b.l.getD j default):=λj hj=>by
  simp[bD,Ou,N0 hj]
 have hLl:(bD b).length=b.l.length+1:=by simp[bD]
 have hch:chs ((bD b).getD 0 [])=[.agg [.str (dC (kyB b)),.str (stS b.st),.bool false]]:=rfl;have hY0:=hY 0 h0 h0.m (h0.m+1) aa hi (NY _) (OD _);rw[hch] at hY0;have hE:dp (kyB b)= .agg [.int .i64 1,.str b.n,.str [],.sl 1 [] .any]:=rfl;rw[hE] at c2;generalize dC (kyB b)=k0 at*
 clear hB1 hch hL0;have hY1:=λj h t m (hj:j<b.l.length)=>hY (j+1) h t m aa;clear hY;rw[hLl];clear hE hLl;generalize bD b=R at*
 obtain ⟨nm,st,l⟩:=b;simp only at*
 have len:=eK l;generalize stS st=s0 at*
 refine Wp.le (aL.tok _ _) ?_;repeat (first
  |refine aw.nil ?_
  |((first|apply Wp.bg|apply Wp.eZ|((first
    |(refine aw.bO ?_ ?_ (c1) ?_;(· simp only[go_sem,reduceIte,Nat.reduceEqDiff,Nat.reduceAdd,bx]);(· simp only[go_sem,reduceIte,Nat.reduceEqDiff,Nat.reduceAdd,bx,List.map,ax,N9,N5,Nat.reduceMul,Nat.reduceLeDiff];first|exact ay.refl _|(repeat (first|exact ay.nil|refine ay.cons xA5 ?_))))
    |(refine aw.bO ?_ ?_ (c2) ?_;(· simp only[go_sem,reduceIte,Nat.reduceEqDiff,Nat.reduceAdd,bx]);(· simp only[go_sem,reduceIte,Nat.reduceEqDiff,Nat.reduceAdd,bx,List.map,ax,N9,N5,Nat.reduceMul,Nat.reduceLeDiff];exact ay.cons (av.agg (ay.cons (av.refl _) (ay.cons (av.refl _) (ay.cons (av.refl _) (ay.cons av.cap ay.nil))))) (ay.refl _))));apply aw.evF));(· simp only[go_sem,reduceIte,Nat.reduceEqDiff,Nat.reduceAdd,bx,ax,N9,N5,Nat.reduceMul,Nat.reduceLeDiff];exact rfl))
  |(apply Wp.bS;(· simp only[go_sem,reduceIte,Nat.reduceEqDiff,Nat.reduceAdd,bx,ax,N9,N5,Nat.reduceMul,Nat.reduceLeDiff];exact rfl);(· rfl))
  |refine Wp.skip ?_
  |refine Wp.label ?_
  |refine Wp.block ?_
  |refine Wp.exit ?_
  |refine Wp.seq ?_)
 refine aw.yield ae (by simp only[go_sem,reduceIte,Nat.reduceEqDiff]) (by simp only[go_sem,reduceIte,Nat.reduceEqDiff,List.map];exact ay.cons (av.dF rfl) ay.nil) hY0 λr h1 hq hn hm=>?_;rcases hq with ⟨rfl,hi1⟩|⟨rfl,hE1⟩
 case inr=>
  refine aw.evF xAc ?_;refine rf0 @OK ?_;refine Wp.ret ⟨trivial,_,rfl,?_,.inr hE1⟩;simp only[go_sem]
 clear hY0 hn hm hi h0;refine aw.evF xAc ?_;refine rf0 (cj2 @OB @len) ?_;refine Wp.le (s':=⟨tm [(0,.yld id),(1,.ref [.str nm,.int .i64 st,.sl 8 (vss l) .any]),(30,.sl 8 (vss l) .any),(31,.int .i64 l.length),(32,.int .i64 0)],h1⟩) (aL.tm ?_) ?_
 ·exact xSb
 refine Wp.cI [0,1,30,31] xA7 (λb:Nat × H=>[(32,.int .i64 (b.1:Nat))]) (λb=>b.2) (λb=>b.1<=l.length/\Inv (b.1+1) b.2) (λb=>l.length - b.1) (0,h1) ⟨Og _,hi1⟩ rfl ?_ ?_
 ·exact xSb
 clear hi1 h1;rintro ⟨j,h⟩ ⟨hj,hI⟩;simp only at hj hI;by_cases hc:j<l.length
 ·obtain ⟨g1,g2,g3,e1⟩:=cK hc (Oz hl al);have hat:=iC l j .any hc;have hrm:=hroom j hc;have hY2:=λh t m=>hY1 j h t m hc;rw[hLs j hc] at hY2;obtain ⟨hz1,hz2⟩:=hbd _ _ hI;generalize l.getD j default=v at*
  have c3:=qZ v.sz v.re v.im v.g v.u;have c4:=sK (kyV nm v) (vD nm hrm) (cZ v.sz v.re v.im v.g v.u);have c5:=Nb v.b hrm.2;have c6:=λk hk=>sK (kyC nm v k) (vE nm hrm k hk) (chunk v.b k);have h16:=lE hrm.2;have hP0:iD nm v 0=[⟨dC (kyV nm v),cZ v.sz v.re v.im v.g v.u,false⟩]:=rfl;have hPs:=sM nm v;have hPl:=uC nm v;have hT:cT nm v=iD nm v (dI v.b):=rfl;have hch:=uD v.b (dI v.b);have hsl:=sN (chunks v.b (dI v.b));have hcl:=iu v.b (dI v.b);have hsl2:=iU (chunks v.b (dI v.b));rw[hcl] at hsl2 hsl;rw[hT] at hY2;generalize dI v.b=cn at*
  generalize chunks v.b cn=cks at*
  have hE1:dp (kyV nm v)= .agg [.int .i64 2,.str nm,.str v.o,.sl 1 [.int .i64 v.id] .any]:=rfl;have hE2:∀k:Nat,dp (kyC nm v k)= .agg [.int .i64 3,.str nm,.str v.o,.sl 1 [.int .i64 v.id,.int .i64 k] .any]:=λ_=>rfl;rw[hE1] at c4;simp only[hE2] at c6;unfold fq at c3;unfold cU at hat;generalize dC (kyV nm v)=k1 at*
  generalize cZ v.sz v.re v.im v.g v.u=hh at*
  repeat (first
   |refine aw.nil ?_
   |((first|apply Wp.bg|apply Wp.eZ|((first
     |(refine aw.bO ?_ ?_ (c3) ?_;(· simp only[go_sem,reduceIte,Nat.reduceEqDiff,Nat.reduceAdd,bx]);(· simp only[go_sem,reduceIte,Nat.reduceEqDiff,Nat.reduceAdd,bx,List.map,ax,N9,N5,Nat.reduceMul,Nat.reduceLeDiff,g1,g2,g3,len,hat,Int.toNat_natCast];first|exact ay.refl _|(repeat (first|exact ay.nil|refine ay.cons xA5 ?_))))
     |(refine aw.bO ?_ ?_ (c4) ?_;(· simp only[go_sem,reduceIte,Nat.reduceEqDiff,Nat.reduceAdd,bx]);(· simp only[go_sem,reduceIte,Nat.reduceEqDiff,Nat.reduceAdd,bx,List.map,ax,N9,N5,Nat.reduceMul,Nat.reduceLeDiff,g1,g2,g3,len,hat,Int.toNat_natCast];exact ay.cons (av.agg (ay.cons (av.refl _) (ay.cons (av.refl _) (ay.cons (av.refl _) (ay.cons av.cap ay.nil))))) (ay.refl _)))
     |(refine aw.bO ?_ ?_ (c5) ?_;(· simp only[go_sem,reduceIte,Nat.reduceEqDiff,Nat.reduceAdd,bx]);(· simp only[go_sem,reduceIte,Nat.reduceEqDiff,Nat.reduceAdd,bx,List.map,ax,N9,N5,Nat.reduceMul,Nat.reduceLeDiff,g1,g2,g3,len,hat,Int.toNat_natCast];first|exact ay.refl _|(repeat (first|exact ay.nil|refine ay.cons xA5 ?_)))));apply aw.evF));(· simp only[go_sem,reduceIte,Nat.reduceEqDiff,Nat.reduceAdd,bx,ax,N9,N5,Nat.reduceMul,Nat.reduceLeDiff,g1,g2,g3,len,hat,Int.toNat_natCast];exact rfl))
   |(apply Wp.bS;(· simp only[go_sem,reduceIte,Nat.reduceEqDiff,Nat.reduceAdd,bx,ax,N9,N5,Nat.reduceMul,Nat.reduceLeDiff,g1,g2,g3,len,hat,Int.toNat_natCast];exact rfl);(· rfl))
   |refine Wp.skip ?_
   |refine Wp.label ?_
   |refine Wp.block ?_
   |refine Wp.exit ?_
   |refine Wp.seq ?_)
  refine Wp.le (aL.tok _ _) ?_;refine Wp.le (s':=⟨tm [(0,.yld id),(1,.ref [.str nm,.int .i64 st,.sl 8 (vss l) .any]),(30,.sl 8 (vss l) .any),(31,.int .i64 l.length),(32,.int .i64 j),(6,.ptr h.n 0),(9,.sl 3 (chs (iD nm v 0)) (.own h.m)),(59,.sl 1 (kE cks) .any),(60,.int .i64 cn),(61,.int .i64 0)],
   ⟨upd h.objs h.n (some (.cells [.str v.o,.int .i64 v.id,.int .i64 v.sz,.int .i64 v.re,.int .i64 v.im,.bool v.g,.bool v.u,.str v.b])),h.n+1,h.m::h.toks,h.m+1⟩⟩) (aL.of (aS ?_) Gl (λa ha=>ha) (NY _) (NY _)) ?_
  ·rw[hP0];simp only[aR,go_sem,reduceIte,Nat.reduceEqDiff,Nat.reduceAdd,bx,hsl2];and_intros<;>first|exact trivial|exact av.refl _|exact av.any _|exact av.dF rfl|(refine av.int ?_;omega)
  refine Wp.cI [0,1,30,31,32,6,59,60] xA7 (λb:Nat × Nat × Nat=>[(9,.sl 3 (chs (iD nm v b.1)) (.own b.2.1)),(61,.int .i64 (b.1:Nat))])
   (λb=>⟨upd h.objs h.n (some (.cells [.str v.o,.int .i64 v.id,.int .i64 v.sz,.int .i64 v.re,.int .i64 v.im,.bool v.g,.bool v.u,.str v.b])),h.n+1,b.2.1::h.toks,b.2.2⟩)
   (λb=>b.1<=cn/\h.m<=b.2.1/\b.2.1<b.2.2) (λb=>cn - b.1) (0,h.m,h.m+1) ⟨Og _,NY _,by simp⟩ rfl ?_ ?_
  ·exact xSb
  rintro ⟨k,t2,m2⟩ ⟨hk,hm1,hm2⟩;simp only at hk hm1 hm2;by_cases hck:k<cn
  ·obtain ⟨kg,k2,k3,ke,e8,e9⟩:=xG hck (Oz h16 al);have c7:=c6 k (Oz hk (Oz h16 al));have hx:=hsl k .any hck;rw[hch k hck] at hx;have hPk:=hPs k;have hlk:=hPl k;have hfl:List.filter (λx=> !decide (x=t2)) h.toks=h.toks:=by
    have:=filter_lt hz2 hm1;simpa using this
   generalize chs (iD nm v k)=row at*
   generalize dC (kyC nm v k)=kk at*
   generalize chunk v.b k=ck at*
   repeat (first
    |refine aw.nil ?_
    |((first|apply Wp.bg|apply Wp.eZ|((first
      |(refine aw.bO ?_ ?_ (c7) ?_;(· simp only[go_sem,reduceIte,Nat.reduceEqDiff,Nat.reduceAdd,bx]);(· simp only[go_sem,reduceIte,Nat.reduceEqDiff,Nat.reduceAdd,bx,List.map,ax,N9,N5,Nat.reduceMul,Nat.reduceLeDiff,kg,k2,k3,hsl2,hx,hlk,e8,e9,OO,Pl,List.length_cons,List.length_nil,Od,Om,OW,Oe,Int.toNat_natCast];exact ay.cons (av.agg (ay.cons (av.refl _) (ay.cons (av.refl _) (ay.cons (av.refl _) (ay.cons av.cap ay.nil))))) (ay.refl _))));apply aw.evF));(· simp only[go_sem,reduceIte,Nat.reduceEqDiff,Nat.reduceAdd,bx,ax,N9,N5,Nat.reduceMul,Nat.reduceLeDiff,kg,k2,k3,hsl2,hx,hlk,e8,e9,OO,Pl,List.length_cons,List.length_nil,Od,Om,OW,Oe,Int.toNat_natCast];exact rfl))
    |(apply Wp.bS;(· simp only[go_sem,reduceIte,Nat.reduceEqDiff,Nat.reduceAdd,bx,ax,N9,N5,Nat.reduceMul,Nat.reduceLeDiff,kg,k2,k3,hsl2,hx,hlk,e8,e9,OO,Pl,List.length_cons,List.length_nil,Od,Om,OW,Oe,Int.toNat_natCast];exact rfl);(· rfl))
    |refine Wp.skip ?_
    |refine Wp.label ?_
    |refine Wp.block ?_
    |refine Wp.exit ?_
    |refine Wp.seq ?_)
   refine ⟨(k+1,m2,m2+1),⟨hck,Oz hm1 (Nat.le_of_lt hm2),OD _⟩,O5 hck (OD _),?_⟩;rw[hPk];refine aL.of (aS ?_) (OLe.bK _) (λa ha=>?_) (NY _) (NY _)
   ·exact bY ke
   ·simpa [hfl] using ha
  ·have hk2:k=cn:=by omega
   subst hk2;have kg:=dZ k;refine Wp.le (s':=⟨tm [(0,.yld id),(1,.ref [.str nm,.int .i64 st,.sl 8 (vss l) .any]),(30,.sl 8 (vss l) .any),(31,.int .i64 l.length),(32,.int .i64 j),(9,.sl 3 (chs (iD nm v k)) (.own t2)),(60,.int .i64 k),(61,.int .i64 k)],
    ⟨h.objs,h.n+1,t2::h.toks,m2⟩⟩) (aL.of (aS ?_) (OLe.skip (hz1 _ (NY _))) (λa ha=>ha) (NY _) (NY _)) ?_
   ·exact xSb
   have hY3:=hY2 {h with n:=h.n+1,m:=h.m} t2 m2 (hup _ _ _ _ hI (P9 _) (NY _)) hm1 hm2;refine rf0 kg ?_;refine aw.yield ae (by simp only[go_sem,reduceIte,Nat.reduceEqDiff]) xA4 hY3 λr h1 hq hn hm=>?_;rcases hq with ⟨rfl,hi1⟩|⟨rfl,hE1⟩
   case inr=>
    refine aw.evF xAc ?_;refine rf0 @OK ?_;refine Wp.ret ⟨trivial,_,rfl,?_,.inr hE1⟩;simp only[go_sem]
   refine aw.evF xAc ?_;refine rf0 @OB ?_;refine ⟨(j+1,h1),⟨hc,hi1⟩,O5 hc (OD _),?_⟩;refine aL.tm ?_;exact bY e1
 ·have hj2:j=l.length:=by omega
  subst hj2;have g1:=dZ l.length;refine rf0 g1 ?_;refine ⟨trivial,_,rfl,?_,.inl hI⟩;simp only[go_sem]
def rdX(b:List UInt8)(p:Nat)(e:Int):Av.Obj:= .cells [.bool true,.sl 1 (aD b) .any,.int .i64 p,.int .i64 e]
theorem IP(b:List UInt8)(p:Nat)(e:Int)(id:Nat)(f:Nat->Option Av.Obj)(n m:Nat)(K:List Nat)(ho:f id=some (rdX b p e)):
  fG Tryz.prog 223 [.ptr id 0] ⟨f,n,K,m⟩ λr h'=>r= .bool (decide (e=0))/\h'=⟨f,n,K,m⟩:=by
 refine f223.jQ af ?_;unfold MB zz;unfold rdX at ho;refine rf0 ho ?_;refine Wp.ret ⟨trivial,_,rfl,?_,rfl⟩;simp only[go_sem,reduceIte,Nat.reduceEqDiff]
theorem Nc(b:List UInt8)(p:Nat)(e:Int)(id:Nat)(f:Nat->Option Av.Obj)(n m:Nat)(K:List Nat)(ho:f id=some (rdX b p e)):
  fG Tryz.prog 204 [.ptr id 0] ⟨f,n,K,m⟩ λr h'=>r= .int .i64 e/\h'=⟨f,n,K,m⟩:=by
 refine f204.jQ af ?_;unfold Mv zz;unfold rdX at ho;refine rf0 ho ?_;refine Wp.ret ⟨trivial,_,rfl,?_,rfl⟩;simp only[go_sem,reduceIte,Nat.reduceEqDiff]
def kH(b:List UInt8)(p w:Nat):List UInt8:=(b.drop p).take w
theorem GC(b:List UInt8)(hb:b.length<=140737488355328)(p:Nat)(hp:p<=b.length)(e:Int)(w:Nat)(hw:w<=4)(id:Nat)(f:Nat->Option Av.Obj)(n m:Nat)(K:List Nat)(ho:f id=some (rdX b p e)):
  fG Tryz.prog 224 [.ptr id 0,.int .i64 p,.int .i64 w] ⟨f,n,K,m⟩ λr h'=>r= .tup [.int .u64 (if p+w<=b.length then (val (kH b p w):Nat) else 0),.bool (decide (p+w<=b.length))]/\h'=⟨f,n,K,m⟩:=by
 refine f224.jQ af ?_;unfold MC zz;unfold rdX at ho;have lb:=bI b;have g1:IntKind.i64.wrap ((b.length:Int) - (p:Int))=((b.length - p:Nat):Int):=by rw[IntWalk.i64_in _ aa];omega
 by_cases hc:p+w<=b.length
 ·have g2:decide (((b.length - p:Nat):Int)<(w:Int))=false:=N1 aa;have g3:IntKind.i64.wrap ((p:Int)+(w:Int))=((p+w:Nat):Int):=by rw[IntWalk.i64_in _ aa];omega
  have x1:(0:Int)<=(p:Int):=by omega
  have x2:(p:Int)<=((p+w:Nat):Int):=by omega
  have x3:((p+w:Nat):Int)<=(b.length:Int):=by omega
  have x4:(0:Int)<=((p+w:Nat):Int):=by omega
  rw[Of hc,N3 hc];have lp:((aD b).take (p+w)).drop p=aD (kH b p w):=by
   unfold kH;simp only[aD,<-List.map_take,<-List.map_drop];rw[List.drop_take];congr 2;omega
  have lc:(kH b p w).length=w:=by unfold kH;simp;omega
  have lbc:=bI (kH b p w);have hv:∀j,j<=w->val ((kH b p w).take j)<256^j:=λj hj=>by
   have:=jU ((kH b p w).take j)
   rwa [OJ,lc,Pv hj] at this
  generalize kH b p w=s at*
  refine rf0 (aY ho lb g1 g2 g3 x1 x2 x3 x4 @ite_self.{1} lp (cj4 lbc lc @NZ @Oe)) ?_;refine Wp.cI [28,29] xA7 (λj:Nat=>[(8,.int .u64 (val (s.take j))),(30,.int .i64 j)]) (λj=>⟨f,n,K,m⟩) (λj=>j<=w) (λj=>w - j) 0 (Og _) rfl ?_ ?_
  ·exact bY @Ph.{0}
  rintro j hj;by_cases hlt:j<w
  ·have d1:decide ((j:Int)<(w:Int))=true:=N3 aa;have h1:(0:Int)<=(j:Int):=by omega
   have h2:(j:Int)<(w:Int):=by omega
   have h2':(j:Int)<(s.length:Int):=by omega
   have h3:j<s.length:=by omega
   have hvj:=hv j hj;have hpw:(256:Nat)^j<=256^3:=P8 aa aa;have e7:(256:Nat)^3=16777216:=by decide
   rw[e7] at hpw;have hc:=(s.getD j 0).toNat_lt;have hat:=lg s j .any h3;unfold byte at hat;have hs:=sq s j h3;have o1:=xM (val (s.take j)) _ aa hc;generalize val (s.take j)=v at*
   have e1:IntKind.u64.wrap ((v:Int)*2^(min (Int.toNat 8) 64))=((v*256:Nat):Int):=by
    rw[show min (Int.toNat 8) 64=8 from rfl,IntWalk.u64_in _ aa];omega
   have e2:¬(8:Int)<0:=by omega
   generalize (s.getD j 0).toNat=c at*
   have e3:IntKind.u64.wrap (c:Int)=(c:Int):=IntWalk.u64_in _ aa;have e5:IntKind.i64.wrap ((j:Int)+1)=((j+1:Nat):Int):=by rw[IntWalk.i64_in _ aa];omega
   refine rf0 (aY d1 h1 h2 h2' lbc lc hat wU e1 e2 e3 (cj3 o1 @NZ @Oe)) ?_;refine ⟨j+1,aa,aa,?_⟩;rw[hs];refine aL.of (aS ?_) (OLe.bK _) (λa ha=>ha) (NY _) (NY _);exact bY e5
  ·obtain rfl:j=w:=by omega
   have d1:decide ((j:Int)<(j:Int))=false:=N1 aa;have hPt:s.take j=s:=OT aa;rw[hPt];refine rf0 d1 ?_;refine Wp.ret ⟨trivial,_,rfl,?_,rfl⟩;simp only[go_sem,reduceIte,Nat.reduceEqDiff]
 ·have g2:decide (((b.length - p:Nat):Int)<(w:Int))=true:=N3 aa;rw[N7 hc,N1 hc];refine rf0 (cj4 ho lb g1 g2) ?_;refine Wp.ret ⟨trivial,_,rfl,?_,rfl⟩;simp only[go_sem,reduceIte,Nat.reduceEqDiff]
def jW(b:List UInt8)(p:Nat)(e:Int)(w:Nat):Int:=if e=0/\p+w<=b.length then ((val (kH b p w):Nat):Int) else 0
def bG(b:List UInt8)(p:Nat)(e:Int)(w:Nat):Nat:=if e=0/\p+w<=b.length then p+w else p
def bE(b:List UInt8)(p:Nat)(e:Int)(w:Nat):Int:=if e=0 then (if p+w<=b.length then 0 else 3) else e
theorem KT{f:Nat->Option Av.Obj}{id:Nat}{o:Av.Obj}(h:f id=some o):upd f id (some o)=f:=by
 funext j;simp only[upd];split
 ·rename_i e;rw[e,h]
 ·rfl
theorem GD(v:Nat):aI Tryz.prog 203 [.int .u64 v] (.int .i64 (IntKind.i64.wrap (v:Int))):=by
 refine f203.aE af rfl rfl ?_;unfold Mu zz;refine dG ?_;refine aG ?_;exact av.refl _
theorem AD(b:List UInt8)(hb:b.length<=140737488355328)(p:Nat)(hp:p<=b.length)(e:Int)(w:Nat)(hw:w<=4)(id:Nat)(f:Nat->Option Av.Obj)(n m:Nat)(K:List Nat)(ho:f id=some (rdX b p e)):
  fG Tryz.prog 202 [.ptr id 0,.int .i64 w,.clo (.func 203) [] []] ⟨f,n,K,m⟩ λr h'=>r= .int .i64 (jW b p e w)/\h'=⟨upd f id (some (rdX b (bG b p e w) (bE b p e w))),n,K,m⟩:=by
 refine f202.jQ af ?_;unfold Mt zz;have hr:=IP b p e id f n m K ho;have hn:=GC b hb p hp e w hw id f n m K ho;by_cases he:e=0
 ·have de:decide (e=0)=true:=N3 he;rw[de] at hr;refine dG ?_;refine aw.du ae xA4 hr λr h' hq _ _=>?_;obtain ⟨rfl,rfl⟩:=hq;have ho2:=ho;unfold rdX at ho2;refine aw.evF xAc ?_;refine rf0 (cj2 ho2 @OB) ?_;refine aw.du ae xA4 hn λr h' hq _ _=>?_;obtain ⟨rfl,rfl⟩:=hq;by_cases hc:p+w<=b.length
  ·have hv:jW b p e w=((val (kH b p w):Nat):Int):=by unfold jW;rw[Of ⟨he,hc⟩]
   have hpx:bG b p e w=p+w:=by unfold bG;rw[Of ⟨he,hc⟩]
   have hex:bE b p e w=0:=by unfold bE;rw[Of he,Of hc]
   rw[hv,hpx,hex,Of hc,N3 hc];have g3:IntKind.i64.wrap ((p:Int)+(w:Int))=((p+w:Nat):Int):=by rw[IntWalk.i64_in _ aa];omega
   have hvl:val (kH b p w)<4294967296:=by
    have h1:=jU (kH b p w);have h2:(256:Nat)^(kH b p w).length<=256^4:=P8 aa (by unfold kH;simp;omega);have e4:(256:Nat)^4=4294967296:=by decide
    omega
   have cp:=GD (val (kH b p w));rw[IntWalk.i64_in _ aa] at cp;generalize val (kH b p w)=v at*
   refine aw.evF xAc ?_;refine aw.nil ?_;refine rn0 (cj3 ho2 g3 @OB) ?_;refine az.pO (by simp only[go_sem,reduceIte,Nat.reduceEqDiff]) ar Tryz.func203 rfl (Oh (by kernel_rfl)) xA4 cp ?_;refine az.eval xA1 ?_;refine az.nil ⟨by trivial,?_⟩;refine Wp.ret ⟨trivial,_,rfl,?_,?_⟩
   ·simp only[go_sem,reduceIte,Nat.reduceEqDiff]
   ·unfold rdX;rw[he]
  ·have hv:jW b p e w=0:=by unfold jW;rw[N7 (λh=>hc h.2)]
   have hpx:bG b p e w=p:=by unfold bG;rw[N7 (λh=>hc h.2)]
   have hex:bE b p e w=3:=by unfold bE;rw[Of he,N7 hc]
   rw[hv,hpx,hex,N7 hc,N1 hc];refine aw.evF xAc ?_;refine rf0 (cj2 ho2 @OK) ?_;refine Wp.ret ⟨trivial,_,rfl,?_,rfl⟩;simp only[go_sem,reduceIte,Nat.reduceEqDiff]
 ·have de:decide (e=0)=false:=N1 he;rw[de] at hr;have hv:jW b p e w=0:=by unfold jW;rw[N7 (λh=>he h.1)]
  have hpx:bG b p e w=p:=by unfold bG;rw[N7 (λh=>he h.1)]
  have hex:bE b p e w=e:=by unfold bE;rw[N7 he]
  rw[hv,hpx,hex];refine dG ?_;refine aw.du ae xA4 hr λr h' hq _ _=>?_;obtain ⟨rfl,rfl⟩:=hq;refine aw.evF xAc ?_;refine rf0 @OK ?_;refine Wp.ret ⟨trivial,_,rfl,?_,?_⟩
  ·simp only[go_sem,reduceIte,Nat.reduceEqDiff]
  ·rw[KT ho]
theorem NR(b:List UInt8)(hb:b.length<=140737488355328)(p:Nat)(hp:p<=b.length)(e:Int)(id:Nat)(f:Nat->Option Av.Obj)(n m:Nat)(K:List Nat)(ho:f id=some (rdX b p e)):
  fG Tryz.prog 159 [.ptr id 0] ⟨f,n,K,m⟩ λr h'=>r= .int .i64 (jW b p e 1)/\h'=⟨upd f id (some (rdX b (bG b p e 1) (bE b p e 1))),n,K,m⟩:=by
 refine f159.jQ af ?_;unfold Mc zz;have hc:=AD b hb p hp e 1 al id f n m K ho;have hw:((1:Nat):Int)=1:=rfl;rw[hw] at hc;refine dG ?_;refine aw.du ae xA4 hc λr h' hq _ _=>?_;obtain ⟨rfl,rfl⟩:=hq;refine aw.evF xAc ?_;refine aw.nil ?_;refine Wp.ret ⟨trivial,_,rfl,?_,rfl⟩;simp only[go_sem,reduceIte,Nat.reduceEqDiff]
theorem Nd(b:List UInt8)(hb:b.length<=140737488355328)(p:Nat)(hp:p<=b.length)(e:Int)(id:Nat)(f:Nat->Option Av.Obj)(n m:Nat)(K:List Nat)(ho:f id=some (rdX b p e)):
  fG Tryz.prog 160 [.ptr id 0] ⟨f,n,K,m⟩ λr h'=>r= .int .i64 (jW b p e 2)/\h'=⟨upd f id (some (rdX b (bG b p e 2) (bE b p e 2))),n,K,m⟩:=by
 refine f160.jQ af ?_;unfold Md zz;have hc:=AD b hb p hp e 2 al id f n m K ho;have hw:((2:Nat):Int)=2:=rfl;rw[hw] at hc;refine dG ?_;refine aw.du ae xA4 hc λr h' hq _ _=>?_;obtain ⟨rfl,rfl⟩:=hq;refine aw.evF xAc ?_;refine aw.nil ?_;refine Wp.ret ⟨trivial,_,rfl,?_,rfl⟩;simp only[go_sem,reduceIte,Nat.reduceEqDiff]
theorem J1(b:List UInt8)(hb:b.length<=140737488355328)(p:Nat)(hp:p<=b.length)(e:Int)(id:Nat)(f:Nat->Option Av.Obj)(n m:Nat)(K:List Nat)(ho:f id=some (rdX b p e)):
  fG Tryz.prog 161 [.ptr id 0] ⟨f,n,K,m⟩ λr h'=>r= .int .i64 (jW b p e 4)/\h'=⟨upd f id (some (rdX b (bG b p e 4) (bE b p e 4))),n,K,m⟩:=by
 refine f161.jQ af ?_;unfold Me zz;have hc:=AD b hb p hp e 4 al id f n m K ho;have hw:((4:Nat):Int)=4:=rfl;rw[hw] at hc;refine dG ?_;refine aw.du ae xA4 hc λr h' hq _ _=>?_;obtain ⟨rfl,rfl⟩:=hq;refine aw.evF xAc ?_;refine aw.nil ?_;refine Wp.ret ⟨trivial,_,rfl,?_,rfl⟩;simp only[go_sem,reduceIte,Nat.reduceEqDiff]
def qb(b:List UInt8)(p:Nat)(e:Int):Int:=if e=0 then (if p<b.length then 5 else 0) else e
theorem Nf(b:List UInt8)(hb:b.length<=140737488355328)(p:Nat)(hp:p<=b.length)(e:Int)(id:Nat)(f:Nat->Option Av.Obj)(n m:Nat)(K:List Nat)(ho:f id=some (rdX b p e)):
  fG Tryz.prog 162 [.ptr id 0] ⟨f,n,K,m⟩ λr h'=>r= .int .i64 (qb b p e)/\h'=⟨f,n,K,m⟩:=by
 refine f162.jQ af ?_;unfold Mf qb zz;have hc:=Nc b p e id f n m K ho;have lb:=bI b;unfold rdX at ho;refine dG ?_;refine aw.du ae xA4 hc λr h' hq _ _=>?_;obtain ⟨rfl,rfl⟩:=hq;refine aw.evF xAc ?_;refine aw.nil ?_;by_cases he:e=0
 ·have de:decide (e=0)=true:=N3 he;rw[Of he];by_cases hl:p<b.length
  ·have d1:decide ((p:Int)<(b.length:Int))=true:=N3 aa;rw[Of hl];refine rn0 (cj4 ho de lb d1) ?_;refine Wp.ret ⟨trivial,_,rfl,?_,rfl⟩;simp only[go_sem,reduceIte,Nat.reduceEqDiff]
  ·have d1:decide ((p:Int)<(b.length:Int))=false:=N1 aa;rw[N7 hl];refine rn0 (cj4 ho de lb d1) ?_;refine Wp.ret ⟨trivial,_,rfl,?_,rfl⟩;simp only[go_sem,reduceIte,Nat.reduceEqDiff]
 ·have de:decide (e=0)=false:=N1 he;rw[N7 he];refine rn0 (cj2 ho de) ?_;refine Wp.ret ⟨trivial,_,rfl,?_,rfl⟩;simp only[go_sem,reduceIte,Nat.reduceEqDiff]
theorem xZ(b:List UInt8)(hb:b.length<=140737488355328)(f:Nat->Option Av.Obj)(n m:Nat)(K:List Nat)(hf:f n=none):
  fG Tryz.prog 158 [.sl 1 (aD b) .any] ⟨f,n,K,m⟩ λr h'=>r= .ptr n 0/\h'=⟨upd f n (some (rdX b 0 0)),n+1,K,m⟩:=by
 refine f158.jQ af ?_;unfold Mb rdX zz;have cc:aI Tryz.prog 201 [.sl 1 (aD b) .any] (.sl 1 (aD b) .any):=Dg f201 _ (y9 b) (by rw[bI];omega) (by rw[bI];omega);refine rn1 hf cc ?_;refine Wp.ret ⟨trivial,_,rfl,?_,rfl⟩;simp only[go_sem,reduceIte,Nat.reduceEqDiff]
theorem rA{b:List UInt8}{p:Nat}{e:Int}{w:Nat}(h:p<=b.length):bG b p e w<=b.length:=by
 unfold bG;split
 ·rename_i h;exact h.2
 ·exact h
theorem jL{b:List UInt8}{p w:Nat}(h:p+w<=b.length):bG b p 0 w=p+w/\bE b p 0 w=0/\jW b p 0 w=((val (kH b p w):Nat):Int):=by
 refine ⟨?_,?_,?_⟩
 ·unfold bG;rw[Of ⟨rfl,h⟩]
 ·unfold bE;rw[Of rfl,Of h]
 ·unfold jW;rw[Of ⟨rfl,h⟩]
theorem ph{b:List UInt8}{p w:Nat}(h:¬p+w<=b.length):bE b p 0 w=3:=by
 unfold bE;rw[Of rfl,N7 h]
theorem kI{b:List UInt8}{p w:Nat}{e:Int}(h:e≠0):bE b p e w=e:=by
 unfold bE;rw[N7 h]
def ya(s:List UInt8):Int:=
 let p1:=bG s 0 0 1;let e1:=bE s 0 0 1
 let p2:=bG s p1 e1 2;let e2:=bE s p1 e1 2
 let p3:=bG s p2 e2 4;let e3:=bE s p2 e2 4
 qb s (bG s p3 e3 4) (bE s p3 e3 4)
theorem GF{s:List UInt8}(h:s.length≠11):ya s≠0:=by
 unfold ya;simp only;by_cases h1:0+1<=s.length
 ·obtain ⟨a1,a2,-⟩:=jL h1;rw[a1,a2];by_cases h2:0+1+2<=s.length
  ·obtain ⟨a1,a2,-⟩:=jL h2;rw[a1,a2];by_cases h3:0+1+2+4<=s.length
   ·obtain ⟨a1,a2,-⟩:=jL h3;rw[a1,a2];by_cases h4:0+1+2+4+4<=s.length
    ·obtain ⟨a1,a2,-⟩:=jL h4;rw[a1,a2];unfold qb;rw[Of rfl,Of aa];decide
    ·rw[ph h4];unfold qb;rw[N7 al];decide
   ·rw[ph h3,kI al];unfold qb;rw[N7 al];decide
  ·rw[ph h2,kI al,kI al];unfold qb;rw[N7 al];decide
 ·rw[ph h1,kI al,kI al,kI al];unfold qb;rw[N7 al];decide
def rB:AC:=tlA (tlA (tlA (tlA u9)))
theorem GG:u9= .seq (hdA u9) (.seq (hdA (tlA u9)) (.seq (hdA (tlA (tlA u9))) (.seq (hdA (tlA (tlA (tlA u9)))) rB))):=rfl
def zHd:Av.Obj:= .cells [.int .i64 0,.int .i64 0,.int .i64 0,.bool false,.bool false]
def AE(s:List UInt8)(P:Nat)(E:Int)(h:Hd):Bool:=decide (qb s P E=0)&&(decide (nL h.sz h.re h.im h.g=0)&&decide (cZ h.sz h.re h.im h.g h.u=s))
def QH(s:List UInt8)(P:Nat)(E:Int)(h:Hd):aM->St->Prop:=λe s'=>iN e/\∃q,iA [.cell 2 (some 5),.tmp 3] s'.t s'.h=some q/\av q (.tup [qJ (if AE s P E h=true then h else D4),.int .i64 (if AE s P E h=true then 0 else 4)])
theorem D6(s:List UInt8)(hs:s.length<=140737488355328)(P:Nat)(hP:P<=s.length)(E:Int)(h:Hd)(m:Nat):
  Wp Tryz.prog 46 rB ⟨tm [(0,.str s),(2,.ptr 0 0),(4,.ptr 1 0),(6,.ptr 2 0)],⟨upd (upd (upd aA 0 (some zHd)) 1 (some (rdX s P E))) 2 (some (.cells [.int .i64 h.sz,.int .i64 h.re,.int .i64 h.im,.bool h.g,.bool h.u])),3,[],m⟩⟩ (QH s P E h):=by
 obtain ⟨a,b,c,g,u⟩:=h;have ch:=qZ a b c g u;unfold QH AE;simp only;unfold rB u9 zHd zz;simp only[tlA];have ce:=λf n m K ho=>Nf s hs P hP E 1 f n m K ho;unfold fq at ch;unfold qJ fq D4;have n10:¬(1=0):=by decide
 refine dG ?_;refine aw.du ae xA4 (ce _ _ _ _ (by simp only[upd,reduceIte,Nat.reduceEqDiff])) λr h' hq _ _=>?_;obtain ⟨rfl,rfl⟩:=hq;refine aw.evF xAc ?_;refine aw.nil ?_;cases d1:decide (qb s P E=0) with
 |false=>
  rw[O6,N7 af,N7 af];refine rf0 d1 ?_;refine aG ?_;exact av.refl _
 |true=>
  rw[OP];cases d2:decide (nL a b c g=0) with
  |false=>
   rw[O6,N7 af,N7 af];refine rf1 (cj2 d1 d2) ch ?_;refine aG ?_;exact av.refl _
  |true=>
   rw[OP];cases d3:decide (cZ a b c g u=s) with
   |false=>
    rw[N7 af,N7 af];refine rf1 (cj3 d1 d2 d3) ch ?_;refine aG ?_;exact av.refl _
   |true=>
    rw[Of rfl,Of rfl];refine rf1 (cj3 d1 d2 d3) ch ?_;refine aG ?_;exact av.refl _
theorem NS:∀c,c<256->(!decide (oB .i64 ((c:Nat):Int) 1=0))=decide (c%2=1):=by decide
theorem NT:∀c,c<256->(!decide (oB .i64 ((c:Nat):Int) 2=0))=decide (c/2%2=1):=by decide
theorem val_one(c:UInt8):val [c]=c.toNat:=by simp[Batch.val]
theorem IQ{s:List UInt8}(h:s.length=11):jW s 0 0 1=(((s.getD 0 0).toNat:Nat):Int)/\jW s (bG s 0 0 1) (bE s 0 0 1) 2=(hdC s).sz
  /\jW s (bG s (bG s 0 0 1) (bE s 0 0 1) 2) (bE s (bG s 0 0 1) (bE s 0 0 1) 2) 4=(hdC s).re
  /\jW s (bG s (bG s (bG s 0 0 1) (bE s 0 0 1) 2) (bE s (bG s 0 0 1) (bE s 0 0 1) 2) 4) (bE s (bG s (bG s 0 0 1) (bE s 0 0 1) 2) (bE s (bG s 0 0 1) (bE s 0 0 1) 2) 4) 4=(hdC s).im
  /\ya s=0:=by
 obtain ⟨a1,a2,a3⟩:=jL (b:=s) (p:=0) (w:=1) aa;obtain ⟨b1,b2,b3⟩:=jL (b:=s) (p:=0+1) (w:=2) aa;obtain ⟨c1,c2,c3⟩:=jL (b:=s) (p:=0+1+2) (w:=4) aa;obtain ⟨d1,d2,d3⟩:=jL (b:=s) (p:=0+1+2+4) (w:=4) aa;have hend:ya s=qb s (bG s (bG s (bG s (bG s 0 0 1) (bE s 0 0 1) 2) (bE s (bG s 0 0 1) (bE s 0 0 1) 2) 4) (bE s (bG s (bG s 0 0 1) (bE s 0 0 1) 2) (bE s (bG s 0 0 1) (bE s 0 0 1) 2) 4) 4) (bE s (bG s (bG s (bG s 0 0 1) (bE s 0 0 1) 2) (bE s (bG s 0 0 1) (bE s 0 0 1) 2) 4) (bE s (bG s (bG s 0 0 1) (bE s 0 0 1) 2) (bE s (bG s 0 0 1) (bE s 0 0 1) 2) 4) 4):=rfl;rw[hend,a1,a2,b1,b2,c1,c2,d1,d2,a3,b3,c3,d3];refine ⟨?_,rfl,rfl,rfl,?_⟩
 ·have:kH s 0 1=[s.getD 0 0]:=by
   unfold kH;rw[Pw];match s,h with
   |a::r,_=>rfl
  rw[this,val_one]
 ·unfold qb;rw[Of rfl,N7 aa]
theorem IS{s:List UInt8}(h:s.length=11){P:Nat}{E:Int}(he:qb s P E=0):AE s P E (hdC s)=hdB s:=by
 unfold AE hdB;rw[N3 he,N3 h,OP,OP];unfold nL cZ;cases cX (hdC s).sz (hdC s).re (hdC s).im (hdC s).g<;>rfl
theorem AF(s:List UInt8)(hs:s.length<=140737488355328):aI Tryz.prog 112 [.str s] (.tup [qJ (hdO s),.int .i64 (hdE s)]):=by
 refine f112.aE af rfl rfl ?_;have hO:hdO s=if hdB s then hdC s else D4:=rfl
 have hE:hdE s=if hdB s then 0 else 4:=rfl
 have HR:=D6 s hs;rw[GG];generalize rB=R at*
 unfold u9 zz;simp only[hdA,tlA];have c0:=xZ s hs;have n10:¬(1=0):=by decide
 have n01:¬(0=1):=by decide
 refine dG ?_;refine aw.du ae (by simp only[go_sem,reduceIte,Nat.reduceEqDiff,List.map];exact ay.cons av.cap ay.nil) (c0 _ _ _ _ (by simp only[upd,aA];rfl)) λr h' hq _ _=>?_;obtain ⟨rfl,rfl⟩:=hq;refine aw.evF (xAd (cj2 n10 @n01)) ?_;refine aw.nil ?_;refine dG ?_;refine aw.du ae xA4 (NR s hs 0 (Og _) 0 1 _ _ _ _ (by simp only[upd,reduceIte])) λr h' hq _ _=>?_;obtain ⟨rfl,rfl⟩:=hq;refine aw.evF (xAd (cj2 n10 @n01)) ?_;refine aw.nil ?_;have p1:bG s 0 0 1<=s.length:=rA (Og _);have p2:bG s (bG s 0 0 1) (bE s 0 0 1) 2<=s.length:=rA p1;have p3:bG s (bG s (bG s 0 0 1) (bE s 0 0 1) 2) (bE s (bG s 0 0 1) (bE s 0 0 1) 2) 4<=s.length:=rA p2;have p4:bG s (bG s (bG s (bG s 0 0 1) (bE s 0 0 1) 2) (bE s (bG s 0 0 1) (bE s 0 0 1) 2) 4) (bE s (bG s (bG s 0 0 1) (bE s 0 0 1) 2) (bE s (bG s 0 0 1) (bE s 0 0 1) 2) 4) 4<=s.length:=rA p3;refine dG ?_;refine aw.du ae xA4 (Nd s hs _ p1 (bE s 0 0 1) 1 _ _ _ _ (by simp only[upd,reduceIte])) λr h' hq _ _=>?_;obtain ⟨rfl,rfl⟩:=hq;refine aw.evF (xAd (cj2 n10 @n01)) ?_;refine aw.du ae xA4 (J1 s hs _ p2 (bE s (bG s 0 0 1) (bE s 0 0 1) 2) 1 _ _ _ _ (by simp only[upd,reduceIte])) λr h' hq _ _=>?_;obtain ⟨rfl,rfl⟩:=hq;refine aw.evF (xAd (cj2 n10 @n01)) ?_;refine aw.du ae xA4 (J1 s hs _ p3 (bE s (bG s (bG s 0 0 1) (bE s 0 0 1) 2) (bE s (bG s 0 0 1) (bE s 0 0 1) 2) 4) 1 _ _ _ _ (by simp only[upd,reduceIte])) λr h' hq _ _=>?_;obtain ⟨rfl,rfl⟩:=hq;refine aw.evF (xAd (cj2 n10 @n01)) ?_;refine aw.nil ?_;show Wp Tryz.prog 46 R _ _;by_cases h11:s.length=11
 ·obtain ⟨v0,v1,v2,v3,v4⟩:=IQ h11;have hc:=(s.getD 0 0).toNat_lt;have g1:=NS _ hc;have g2:=NT _ hc;have hsm:=IS h11 v4;have W:=HR _ p4 (bE s (bG s (bG s (bG s 0 0 1) (bE s 0 0 1) 2) (bE s (bG s 0 0 1) (bE s 0 0 1) 2) 4) (bE s (bG s (bG s 0 0 1) (bE s 0 0 1) 2) (bE s (bG s 0 0 1) (bE s 0 0 1) 2) 4) 4) (hdC s);unfold QH at W;rw[hsm,<-hO,<-hE] at W;have e1:decide ((s.getD 0 0).toNat%2=1)=(hdC s).g:=rfl;have e2:decide ((s.getD 0 0).toNat/2%2=1)=(hdC s).u:=rfl;rw[v1,v2,v3,v0,g1,g2,e1,e2];refine Wp.le ?_ (W 1);refine aL.of (aS ?_) (λa u hu=>⟨u,?_,cy.refl _⟩) (λx hx=>by simp at hx) (NY _) (NY _)
  ·exact xSb
  ·simp only[upd,aA,zHd] at hu |-;by_cases a2:a=2
   ·subst a2;simpa using hu
   ·by_cases a1:a=1
    ·subst a1;simpa using hu
    ·by_cases a0:a=0
     ·subst a0;simpa using hu
     ·simp[a2,a1,a0] at hu
 ·have hne:hdB s=false:=by unfold hdB;rw[N1 h11];rfl
  have hen:=GF h11;have W:=λh=>HR _ p4 (bE s (bG s (bG s (bG s 0 0 1) (bE s 0 0 1) 2) (bE s (bG s 0 0 1) (bE s 0 0 1) 2) 4) (bE s (bG s (bG s 0 0 1) (bE s 0 0 1) 2) (bE s (bG s 0 0 1) (bE s 0 0 1) 2) 4) 4) h;have hno:∀h,AE s (bG s (bG s (bG s (bG s 0 0 1) (bE s 0 0 1) 2) (bE s (bG s 0 0 1) (bE s 0 0 1) 2) 4) (bE s (bG s (bG s 0 0 1) (bE s 0 0 1) 2) (bE s (bG s 0 0 1) (bE s 0 0 1) 2) 4) 4) (bE s (bG s (bG s (bG s 0 0 1) (bE s 0 0 1) 2) (bE s (bG s 0 0 1) (bE s 0 0 1) 2) 4) (bE s (bG s (bG s 0 0 1) (bE s 0 0 1) 2) (bE s (bG s 0 0 1) (bE s 0 0 1) 2) 4) 4) h=false:=λh=>by
   unfold AE;show (decide (ya s=0)&&_)=false;rw[N1 hen];rfl
  unfold QH at W;simp only[hno] at W;rw[hO,hE,hne];refine Wp.le ?_ (W ⟨jW s (bG s 0 0 1) (bE s 0 0 1) 2,jW s (bG s (bG s 0 0 1) (bE s 0 0 1) 2) (bE s (bG s 0 0 1) (bE s 0 0 1) 2) 4,jW s (bG s (bG s (bG s 0 0 1) (bE s 0 0 1) 2) (bE s (bG s 0 0 1) (bE s 0 0 1) 2) 4) (bE s (bG s (bG s 0 0 1) (bE s 0 0 1) 2) (bE s (bG s 0 0 1) (bE s 0 0 1) 2) 4) 4,!decide (oB IntKind.i64 (jW s 0 0 1) 1=0),!decide (oB IntKind.i64 (jW s 0 0 1) 2=0)⟩ 1);refine aL.of (aS ?_) (λa u hu=>⟨u,?_,cy.refl _⟩) (λx hx=>by simp at hx) (NY _) (NY _)
  ·exact xSb
  ·simp only[upd,aA,zHd] at hu |-;by_cases a2:a=2
   ·subst a2;simpa using hu
   ·by_cases a1:a=1
    ·subst a1;simpa using hu
    ·by_cases a0:a=0
     ·subst a0;simpa using hu
     ·simp[a2,a1,a0] at hu
def mI(l:List Pr)(nm o:List UInt8)(id:Int):Nat->Nat->List UInt8->List UInt8
 |0,_,s=>s
 |n+1,k,s=>if jj l (dC ⟨3,nm,o,[id,k]⟩)=0 then mI l nm o id n (k+1) (s++pY l (dC ⟨3,nm,o,[id,k]⟩)) else s
def po(l:List Pr)(nm o:List UInt8)(id:Int):List UInt8:=mI l nm o id 16 0 []
theorem IT{l:List Pr}{B:Nat}(h:∀p∈l,p.v.length<=B)(k:List UInt8):(pY l k).length<=B:=by
 unfold pY;cases hf:l.find? (jv k) with
 |none=>simp
 |some p=>exact h p (QE hf)
theorem KU(l:List Pr)(hl:l.length<=1000000)(hv:∀p∈l,p.v.length<=140737488355328)(nm:List UInt8)(v:Vs)(hid:v.id<9223372036854775808):aI Tryz.prog 68 [.sl 2 (prs l) .any,.str nm,cU v] (.str (po l nm v.o v.id)):=by
 refine f68.aE (by simp[cU]) (by simp[aF,aO,aU,dw,Aj]) rfl ?_;unfold c68 zz;have cg:=λk=>JX l aa k;have ck:∀k:Nat,k<=16->aI Tryz.prog 98 [.int .i64 3,.str nm,.str v.o,.sl 1 [.int .i64 v.id,.int .i64 k] .any] (.str (dC ⟨3,nm,v.o,[v.id,k]⟩)):=λk hk=>by
  refine vF ⟨3,nm,v.o,[v.id,k]⟩ ⟨by simp,λn hn=>?_⟩;simp only[Om,List.not_mem_nil,or_false] at hn;rcases hn with rfl|rfl
  ·exact hid
  ·omega
 have hE:cU v= .agg [.str v.o,.int .i64 v.id,.int .i64 v.sz,.int .i64 v.re,.int .i64 v.im,.bool v.g,.bool v.u,.str v.b]:=rfl;rw[hE];obtain ⟨oo,id,sz,re,im,g,u,b⟩:=v;simp only at*
 have hB:po l nm oo id=mI l nm oo id 16 0 []:=rfl;refine dG ?_;refine Wp.cI [0,1,5] xA7 (λj:Nat × List UInt8=>[(7,.str j.2),(8,.int .i64 (j.1:Nat))]) (λj=>⟨upd aA 0 (some (.cells [.str oo,.int .i64 id,.int .i64 sz,.int .i64 re,.int .i64 im,.bool g,.bool u,.str b])),1,[],0⟩) (λj=>j.1<=16/\j.2.length<=j.1*140737488355328/\po l nm oo id=mI l nm oo id (16 - j.1) j.1 j.2) (λj=>16 - j.1) (0,[]) ⟨aa,by simp,hB⟩ rfl ?_ ?_
 ·exact xSb
 rintro ⟨j,s⟩ ⟨hj,hsl,hinv⟩;simp only at hj hsl hinv;by_cases hc:j<16
 ·have g1:decide ((j:Int)<16)=true:=N3 aa;have e1:IntKind.i64.wrap ((j:Int)+1)=((j+1:Nat):Int):=by rw[IntWalk.i64_in _ aa];omega
  have hs:16 - j=(16 - (j+1))+1:=by omega
  rw[hs] at hinv;have c1:=ck j aa;have hgl:=IT hv (dC ⟨3,nm,oo,[id,j]⟩);have c2:=cg (dC ⟨3,nm,oo,[id,j]⟩);have hG:mI l nm oo id (16 - (j+1)+1) j s=if jj l (dC ⟨3,nm,oo,[id,j]⟩)=0 then mI l nm oo id (16 - (j+1)) (j+1) (s++pY l (dC ⟨3,nm,oo,[id,j]⟩)) else s:=rfl
  rw[hG] at hinv;generalize dC ⟨3,nm,oo,[id,j]⟩=kk at*
  by_cases hg:jj l kk=0
  ·have dg:decide (((jj l kk:Nat):Int)=0)=true:=N3 aa;rw[Of hg] at hinv;refine rf2 g1 c1 c2 ?_;have hadd:s.length+(pY l kk).length<9223372036854775808:=by omega
   refine rf0 (cj2 dg hadd) ?_;refine ⟨(j+1,s++pY l kk),⟨by simp only;omega,by simp only[N6];omega,hinv⟩,by simp only;omega,?_⟩;refine aL.of (aS ?_) (OLe.bK _) (λa ha=>ha) (NY _) (NY _);exact bY e1
  ·have dg:decide (((jj l kk:Nat):Int)=0)=false:=N1 aa;rw[N7 hg] at hinv;rw[hinv];refine rf2 g1 c1 c2 ?_;refine rf0 dg ?_;refine aG ?_;exact av.refl _
 ·have hj2:j=16:=by omega
  subst hj2;have g1:decide (((16:Nat):Int)<16)=false:=by decide
  have hG:mI l nm oo id (16 - 16) 16 s=s:=rfl;rw[hinv,hG];refine rf0 g1 ?_;refine aG ?_;exact av.refl _
theorem BZ:∀(s x:List UInt8),(∀b∈s,b≠0)->rdT (s++0::1::x)=some (s,s.length+2)
 |[],x,_=>by simp[rdT]
 |a::s,x,h=>by
  rw[List.cons_append,vM _ _ (h a af),BZ s x (λb hb=>h b (by simp[hb]))];simp
theorem D7(m:UInt8)(l:List UInt8):bA m (bA m l)=l:=by
 unfold bA;rw[Qe]
 conv=>rhs;rw[<-List.map_id l]
 refine Pd λx _=>?_;simp[Function.comp,UInt8.xor_assoc]
theorem IU(l:List UInt8):lT (lT l)=l:=by
 cases l with
 |nil=>rfl
 |cons a r=>
  show ((a ^^^ 128) ^^^ 128)::r=a::r;rw[UInt8.xor_assoc];simp
theorem lF:∀(w v:Nat),val (be w v)=v%256^w
 |0,v=>by simp[be,Batch.val,Nat.mod_one]
 |w+1,v=>by
  have e:be (w+1) v=UInt8.ofNat (v/256^w)::be w v:=rfl;rw[e,mG,lF w v,aW,Nat.pow_succ,Nat.mod_mul];have:(UInt8.ofNat (v/256^w)).toNat=v/256^w%256:=by simp
  rw[this,Nat.mul_comm,Nat.add_comm]
theorem GH(m:UInt8)(n:Nat)(h:n<9223372036854775808):rdN m (bA m (upB n))=n:=by
 unfold rdN;rw[D7];have e:upB n=lT (be 8 n):=(F8 n h).symm;rw[e,IU];unfold i64;have e8:(256:Nat)^8=18446744073709551616:=by decide
 rw[lF,e8,O9 aa];exact IntWalk.i64_in _ aa
theorem KV{p:Pt}(hp:p.ok)(x:List UInt8):rdP (ptB p++x)=some (p,(ptB p).length):=by
 obtain ⟨pk,pn,ps⟩:=p;rcases hp.k with hk|hk|hk
 ·simp only at hk;subst hk;obtain ⟨hn,hz,hl⟩:=hp.t rfl;simp only at hn hz hl;subst hn;have hB:ptB ⟨1,0,ps⟩=2::(ps++[0,1]):=rfl;have hA:ptB ⟨1,0,ps⟩++x=2::(ps++0::1::x):=by rw[hB];simp
  rw[hA,hB];have:rdP (2::(ps++0::1::x))=(rdT (ps++0::1::x)).map λx=>(⟨1,0,x.1⟩,x.2+1):=by simp[rdP]
  rw[this,BZ _ _ hz];simp
 ·simp only at hk;subst hk;obtain ⟨hs,h0,h1⟩:=hp.u af;simp only at hs h0 h1;subst hs;have hB:ptB ⟨2,pn,[]⟩=3::bA 0 (upB pn.toNat):=rfl;have hl:(bA 0 (upB pn.toNat)).length=8:=by rw[cJ];simp[upB,aW]
  rw[hB,List.cons_append];have ht:(bA 0 (upB pn.toNat)++x).take 8=bA 0 (upB pn.toNat):=by rw[Qj aa,OT aa]
  have:rdP (3::(bA 0 (upB pn.toNat)++x))=some (⟨2,rdN 0 ((bA 0 (upB pn.toNat)++x).take 8),[]⟩,9):=by
   have hn:¬(bA 0 (upB pn.toNat)++x).length<8:=by rw[N6];omega
   simp only[rdP];rw[N7 al,Of trivial,N7 hn]
  rw[this,ht,GH 0 pn.toNat aa,List.length_cons,hl];congr 2;congr 1;omega
 ·simp only at hk;subst hk;obtain ⟨hs,h0,h1⟩:=hp.u af;simp only at hs h0 h1;subst hs;have hB:ptB ⟨3,pn,[]⟩=4::bA 255 (upB pn.toNat):=rfl;have hl:(bA 255 (upB pn.toNat)).length=8:=by rw[cJ];simp[upB,aW]
  rw[hB,List.cons_append];have ht:(bA 255 (upB pn.toNat)++x).take 8=bA 255 (upB pn.toNat):=by rw[Qj aa,OT aa]
  have:rdP (4::(bA 255 (upB pn.toNat)++x))=some (⟨3,rdN 255 ((bA 255 (upB pn.toNat)++x).take 8),[]⟩,9):=by
   have hn:¬(bA 255 (upB pn.toNat)++x).length<8:=by rw[N6];omega
   simp only[rdP];rw[N7 al,N7 al,Of trivial,N7 hn]
  rw[this,ht,GH 255 pn.toNat aa,List.length_cons,hl];congr 2;congr 1;omega
theorem B0:∀(l:List Pt),(∀p∈l,p.ok)->pf (cW l)=some l
 |[],_=>rfl
 |p::l,h=>by
  have hB:cW (p::l)=ptB p++cW l:=rfl;have hne:cW (p::l)≠[]:=by rw[hB];intro h;exact Am p (List.append_eq_nil_iff.1 h).1
  rw[kF hne,hB,KV (h p af)];simp only[QV];rw[B0 l (λq hq=>h q (by simp[hq]))];rfl
theorem yb{k:Int}(h:1<=k/\k<=6):kG [dt k]=k:=by
 obtain ⟨h1,h2⟩:=h;obtain rfl|rfl|rfl|rfl|rfl|rfl:k=1\/k=2\/k=3\/k=4\/k=5\/k=6:=by omega
 all_goals decide
theorem yd(k:Int)(ns:List Int):(ns.map (bU k)).map Pt.n=ns:=by
 rw[Qe]
 conv=>rhs;rw[<-List.map_id ns]
 exact Pd λx _=>rfl
def J2(k:Int)(b:List UInt8)(r:List Pt):Ky:=if k≠1/\r≠[] then ⟨k,b,(r.getD 0 default).s,(r.drop 1).map Pt.n⟩ else ⟨k,b,[],r.map Pt.n⟩
theorem GI{k:Ky}(h:k.ok):gG (fc k)=k:=by
 have hC:gG (fc k)=J2 (kG [dt k.k]) k.b ((if k.o=[] then [] else [txt k.o])++k.ns.map (bU k.k)):=rfl;rw[hC,yb h.k];obtain ⟨kk,b,o,ns⟩:=k;simp only at*
 unfold J2;by_cases hk1:kk=1
 ·have ho:=h.e hk1;simp only at ho;subst ho;rw[N7 (λx=>x.1 hk1),Of rfl,List.nil_append,yd]
 ·have ho:=eI (h.o hk1);simp only at ho;have ho0:o≠[]:=by rintro rfl;simp at ho
  rw[N7 ho0];rw[Of ⟨hk1,by simp⟩];have e:([txt o]++ns.map (bU kk)).drop 1=ns.map (bU kk):=rfl;rw[e,yd];rfl
theorem eV{k:Ky}(h:k.ok):cD (cS k)=true/\bc (cS k)=k:=by
 have hl:=o6 h;have hd:=B0 (fc k) (jl h);have hd2:pf (cS k)=some (fc k):=hd;have hO:iV (cS k)=fc k:=by unfold iV;rw[N7 aa,hd2];rfl
 have hE:jV (cS k)=0:=by unfold jV;rw[N7 aa,hd2];rfl
 have hc:=GI h;have hke:gx k=0:=by
  have ha:iO k=true:=by
   unfold iO;have a1:mA k.ns=true:=OH.2 λn hn=>N3 (h.r n hn).1;rw[a1,N3 h.n.symm];by_cases hk:k.k=1
   ·rw[h.e hk];simp
   ·simp[hk]
  unfold gx;rw[Of ha,Of h.b];by_cases hk:k.k=1
  ·rw[Of hk]
  ·rw[N7 hk,h.o hk]
 have hks:dC k=cS k:=by unfold dC;rw[Of hke]
 have hB:cD (cS k)=true:=by
  unfold cD iP;rw[hE,hO,hc,hke,hks];simp[fc]
 exact ⟨hB,by unfold bc;rw[Of hB,hO,hc]⟩
theorem sU{s:List UInt8}(h:cD s=true):(bc s).ok/\cS (bc s)=s:=by
 have hO:bc s=gG (iV s):=by unfold bc;rw[Of h]
 unfold cD iP at h;simp only[Ob,Oj] at h;obtain ⟨h1,⟨h2,h3⟩,h4⟩:=h;obtain ⟨hin,hl⟩:=vO s;have hok:=p7 (sR hin hl) h3;rw[hO];refine ⟨hok,?_⟩;unfold dC at h4;rw[Of h3] at h4;exact h4
theorem bH(c:UInt8)(a b:List UInt8):Op.bytesLess (c::a) (c::b)=Op.bytesLess a b:=by
 have:¬(c<c):=λh=>by have:=Qi.1 h;omega
 simp[Op.bytesLess,this]
theorem ot{c d:UInt8}(h:c.toNat<d.toNat)(a b:List UInt8):Op.bytesLess (c::a) (d::b)=true:=by
 have:c<d:=Qi.2 h;simp[Op.bytesLess,this]
theorem qc:∀{s s':List UInt8}(x y:List UInt8),(∀b∈s,b≠0)->(∀b∈s',b≠0)->Op.bytesLess s s'=true->Op.bytesLess (s++0::1::x) (s'++0::1::y)=true
 |[],[],x,y,_,_,h=>by simp[Op.bytesLess] at h
 |[],b::s',x,y,_,h2,_=>by
  have hb:=h2 b af;refine ot ?_ _ _;have:b.toNat≠0:=λe=>hb (Q4.1 (by simpa using e));simp;omega
 |a::s,[],x,y,_,_,h=>by simp[Op.bytesLess] at h
 |a::s,b::s',x,y,h1,h2,h=>by
  simp only[Op.bytesLess,OS,Ob,Oj,Qh] at h;simp only[List.cons_append,Op.bytesLess,OS,Ob,Oj,Qh];rcases h with h|⟨h,h'⟩
  ·exact .inl h
  ·exact .inr ⟨h,qc x y (λc hc=>h1 c (by simp[hc])) (λc hc=>h2 c (by simp[hc])) h'⟩
theorem pq(k:List UInt8):∀a b:List UInt8,Op.bytesLess (k++a) (k++b)=Op.bytesLess a b:=by
 induction k with
 |nil=>intro a b;rfl
 |cons c k ih=>intro a b;rw[List.cons_append,List.cons_append,bH,ih]
theorem uI:∀{a b:List UInt8},a.length=b.length->Op.bytesLess a b=true->Batch.val a<Batch.val b
 |[],[],_,h=>by simp[Op.bytesLess] at h
 |[],_::_,h,_=>by simp at h
 |_::_,[],h,_=>by simp at h
 |c::a,d::b,hl,h=>by
  simp only[List.length_cons,Nat.add_right_cancel_iff] at hl;rw[Arch.mG,Arch.mG,hl];simp only[Op.bytesLess,OS,Ob,Oj,Qh] at h;rcases h with h|⟨h,h'⟩
  ·have h1:=Batch.jU a;have h2:c.toNat+1<=d.toNat:=Qi.1 h;rw[hl] at h1;have h3:=PB (256^b.length) h2;rw[Px,Pl] at h3;omega
  ·subst h;have:=uI hl h';omega
theorem ye{a b:List UInt8}(hl:a.length=b.length)(h:Batch.val a<Batch.val b):Op.bytesLess a b=true:=by
 rcases Batch.fo a b with h1|h1|h1
 ·exact h1
 ·subst h1;omega
 ·have:=uI hl.symm h1;omega
theorem IV{w a b:Nat}(h:a<b)(hb:b<256^w):Op.bytesLess (be w a) (be w b)=true:=
 ye (by simp[aW]) (by rw[lF,lF,O9 aa,O9 hb];exact h)
theorem GJ(a:UInt8):(a ^^^ 255).toNat=255 - a.toNat:=by
 rw[UInt8.toNat_xor];have h:∀n:Fin 256,n.val ^^^ (255:UInt8).toNat=255 - n.val:=by decide
 exact h ⟨a.toNat,a.toNat_lt⟩
theorem D8(l:List UInt8):bA 0 l=l:=by simp[bA]
theorem uJ:∀{a b:List UInt8},a.length=b.length->Op.bytesLess a b=true->Op.bytesLess (bA 255 b) (bA 255 a)=true
 |[],[],_,h=>by simp[Op.bytesLess] at h
 |[],_::_,h,_=>by simp at h
 |_::_,[],h,_=>by simp at h
 |c::a,d::b,hl,h=>by
  simp only[List.length_cons,Nat.add_right_cancel_iff] at hl;simp only[Op.bytesLess,OS,Ob,Oj,Qh] at h;have e1:bA 255 (d::b)=(d ^^^ 255)::bA 255 b:=rfl;have e2:bA 255 (c::a)=(c ^^^ 255)::bA 255 a:=rfl;rw[e1,e2];rcases h with h|⟨h,h'⟩
  ·refine ot ?_ _ _;have h2:=Qi.1 h;have:=GJ c;have:=GJ d;have:=c.toNat_lt;have:=d.toNat_lt;omega
  ·subst h;rw[bH];exact uJ hl h'
theorem B1{a b:Nat}(h:a<b)(hb:b<9223372036854775808):Op.bytesLess (upB a) (upB b)=true:=by
 have e:(256:Nat)^8=18446744073709551616:=by decide
 exact IV aa (by rw[e];omega)
theorem sV(x:Ky):cS x=2::dt x.k::0::1::2::(x.b++0::1::cW ((if x.o=[] then [] else [txt x.o])++x.ns.map (bU x.k))):=by
 simp[cS,fc,cW,ptB,txt]
theorem vR{x:Ky}(h:x.o≠[]):cS x=2::dt x.k::0::1::2::(x.b++0::1::2::(x.o++0::1::cW (x.ns.map (bU x.k)))):=by
 rw[sV,N7 h];simp[cW,ptB,txt]
theorem sW{x y:Ky}(h:(dt x.k).toNat<(dt y.k).toNat):Op.bytesLess (cS x) (cS y)=true:=by
 rw[sV,sV,bH];exact ot h _ _
theorem Ng{x:Ky}(h:x.ok):∀b∈x.b,b≠0:=λb hb=>by
 have:=(gD h.b).2.2 b hb;exact BQ (n:=0) aa
theorem Nh{x:Ky}(h:x.ok)(hk:x.k≠1):∀b∈x.o,b≠0:=λb hb=>by
 have:=(eI (h.o hk)).2.2 b hb;exact BQ (n:=0) aa
theorem IW{x:Ky}(h:x.ok)(hk:x.k≠1):x.o≠[]:=λe=>by
 have:=(eI (h.o hk)).1;rw[e] at this;simp at this
theorem yf{x y:Ky}(hx:x.ok)(hy:y.ok)(hk:x.k=y.k)(h:Op.bytesLess x.b y.b=true):Op.bytesLess (cS x) (cS y)=true:=by
 rw[sV,sV,hk,bH,bH,bH,bH,bH];exact qc _ _ (Ng hx) (Ng hy) h
theorem IX{x y:Ky}(hx:x.ok)(hy:y.ok)(h1:x.k≠1)(hk:x.k=y.k)(hb:x.b=y.b)(h:Op.bytesLess x.o y.o=true):Op.bytesLess (cS x) (cS y)=true:=by
 rw[vR (IW hx h1),vR (IW hy (hk▸h1)),hk,hb,bH,bH,bH,bH,bH,pq,bH,bH,bH];exact qc _ _ (Nh hx h1) (Nh hy (hk▸h1)) h
theorem B2{x y:Ky}(hx:x.ok)(hy:y.ok)(h1:x.k≠1)(hk:x.k=y.k)(hb:x.b=y.b)(ho:x.o=y.o)(h:Op.bytesLess (cW (x.ns.map (bU x.k))) (cW (y.ns.map (bU y.k)))=true):Op.bytesLess (cS x) (cS y)=true:=by
 rw[vR (IW hx h1),vR (IW hy (hk▸h1)),hk,hb,ho,bH,bH,bH,bH,bH,pq,bH,bH,bH,pq,bH,bH];rw[hk] at h;exact h
theorem Ni{n:Int}(h:0<=n)(k:Int)(hk:k≠2):ptB (bU k n)=3::upB n.toNat:=by
 simp[bU,hk,ptB,D8]
theorem Nj{n:Int}(h:0<=n):ptB (bU 2 n)=4::bA 255 (upB n.toNat):=by
 simp[bU,ptB]
theorem IY(n:Nat):(upB n).length=8:=by simp[upB,aW]
theorem IZ{n o:List UInt8}{i j:Int}(hx:(⟨2,n,o,[i]⟩:Ky).ok)(hy:(⟨2,n,o,[j]⟩:Ky).ok)(h:j<i):Op.bytesLess (cS ⟨2,n,o,[i]⟩) (cS ⟨2,n,o,[j]⟩)=true:=by
 have ri:=hx.r i af;have rj:=hy.r j af;refine B2 hx hy af rfl rfl rfl ?_;simp only[Oy,OE,cW,List.flatten_cons,List.flatten_nil,ON];rw[Nj ri.1,Nj rj.1,bH];exact uJ (by simp[IY]) (B1 aa aa)
theorem I5{n o:List UInt8}{i:Int}{a b:Nat}(hx:(⟨3,n,o,[i,a]⟩:Ky).ok)(hy:(⟨3,n,o,[i,b]⟩:Ky).ok)(h:a<b):Op.bytesLess (cS ⟨3,n,o,[i,a]⟩) (cS ⟨3,n,o,[i,b]⟩)=true:=by
 have ra:=hx.r a af;have rb:=hy.r b af;refine B2 hx hy af rfl rfl rfl ?_;simp only[Oy,OE,cW,List.flatten_cons,List.flatten_nil,ON];rw[pq,Ni ra.1 3 al,Ni rb.1 3 al,bH];exact B1 aa aa
theorem kJ:∀{a b:List Pr},(a.Pairwise λx y=>Op.bytesLess x.k y.k=true)->(b.Pairwise λx y=>Op.bytesLess x.k y.k=true)->(∀p,p∈a↔p∈b)->a=b
 |[],[],_,_,_=>rfl
 |[],y::b,_,_,h=>by have:=(h y).2 af;simp at this
 |x::a,[],_,_,h=>by have:=(h x).1 af;simp at this
 |x::a,y::b,ha,hb,h=>by
  have ha':=Pu.1 ha;have hb':=Pu.1 hb;have ir:∀{u:List UInt8},¬Op.bytesLess u u=true:=λ{u} e=>by rw[Batch.bZ] at e;cases e
  have hxy:x=y:=by
   rcases Om.1 ((h x).1 af) with e|hx
   ·exact e
   ·rcases Om.1 ((h y).2 af) with e|hy
    ·exact e.symm
    ·exact absurd (mE (hb'.1 x hx) (ha'.1 y hy)) ir
  subst hxy;congr 1;refine kJ ha'.2 hb'.2 λp=>⟨λhp=>?_,λhp=>?_⟩
  ·rcases Om.1 ((h p).1 (by simp[hp])) with e|h1
   ·subst e;exact absurd (ha'.1 p hp) ir
   ·exact h1
  ·rcases Om.1 ((h p).2 (by simp[hp])) with e|h1
   ·subst e;exact absurd (hb'.1 p hp) ir
   ·exact h1
theorem vS{α β:Type}{f:α->β}:∀{l:List α},(l.Pairwise λa b=>f a≠f b)->∀a∈l,∀b∈l,f a=f b->a=b
 |[],_,a,ha,_,_,_=>by cases ha
 |x::l,h,a,ha,b,hb,e=>by
  obtain ⟨h1,h2⟩:=Pu.1 h;rcases Om.1 ha with ha1|ha1
  ·rcases Om.1 hb with hb1|hb1
   ·rw[ha1,hb1]
   ·exact absurd (ha1▸e) (h1 b hb1)
  ·rcases Om.1 hb with hb1|hb1
   ·exact absurd (hb1▸e.symm) (h1 a ha1)
   ·exact vS h2 a ha1 b hb1 e
section
variable{m:List Bk}(h:imB m=true)
include h
theorem AG{b:Bk}(hb:b∈m):(kyB b).ok:=mF h _ (Pk.2 ⟨_,Oo.2 ⟨b,hb,rfl⟩,by simp[vK]⟩)
theorem tq{b:Bk}(hb:b∈m){v:Vs}(hv:v∈b.l):(kyV b.n v).ok:=
 mF h _ (Pk.2 ⟨_,Oo.2 ⟨b,hb,rfl⟩,Om.2 (.inr (Pk.2 ⟨_,Oo.2 ⟨v,hv,rfl⟩,by simp[vJ]⟩))⟩)
theorem vT{b:Bk}(hb:b∈m){v:Vs}(hv:v∈b.l){k:Nat}(hk:k<dI v.b):(kyC b.n v k).ok:=
 mF h _ (Pk.2 ⟨_,Oo.2 ⟨b,hb,rfl⟩,Om.2 (.inr (Pk.2 ⟨_,Oo.2 ⟨v,hv,rfl⟩,Om.2 (.inr (Oo.2 ⟨k,O1.2 hk,rfl⟩))⟩))⟩)
theorem GK(p:Pr):p∈aN m↔(∃b∈m,p=⟨cS (kyB b),stS b.st⟩)\/(∃b∈m,∃v∈b.l,p=⟨cS (kyV b.n v),mB v⟩)\/(∃b∈m,∃v∈b.l,∃k,k<dI v.b/\p=⟨cS (kyC b.n v k),chunk v.b k⟩):=by
 unfold aN;rw[Pk];constructor
 ·rintro ⟨l,hl,hp⟩;obtain ⟨b,hb,rfl⟩:=Oo.1 hl;unfold fF at hp;obtain ⟨c,hc,rfl⟩:=Oo.1 hp;obtain ⟨r,hr,hc⟩:=Pk.1 hc;unfold bD at hr;rcases Om.1 hr with rfl|hr
  ·simp only[Oc] at hc;subst hc;exact .inl ⟨b,hb,by simp[cY,vB,iv (AG h hb)]⟩
  ·obtain ⟨v,hv,rfl⟩:=Oo.1 hr;unfold cT at hc;rcases Om.1 hc with rfl|hc
   ·exact .inr (.inl ⟨b,hb,v,hv,by simp[cY,chV,iv (tq h hb hv)]⟩)
   ·obtain ⟨k,hk,rfl⟩:=Oo.1 hc;have hk:=O1.1 hk;exact .inr (.inr ⟨b,hb,v,hv,k,hk,by simp[cY,chC,iv (vT h hb hv hk)]⟩)
 ·rintro (⟨b,hb,rfl⟩|⟨b,hb,v,hv,rfl⟩|⟨b,hb,v,hv,k,hk,rfl⟩)
  ·refine ⟨fF b,Oo.2 ⟨b,hb,rfl⟩,?_⟩;exact Oo.2 ⟨vB b,Pk.2 ⟨[vB b],by simp[bD],by simp⟩,by simp[cY,vB,iv (AG h hb)]⟩
  ·refine ⟨fF b,Oo.2 ⟨b,hb,rfl⟩,?_⟩;exact Oo.2 ⟨chV b.n v,Pk.2 ⟨cT b.n v,Om.2 (.inr (Oo.2 ⟨v,hv,rfl⟩)),by simp[cT]⟩,by simp[cY,chV,iv (tq h hb hv)]⟩
  ·refine ⟨fF b,Oo.2 ⟨b,hb,rfl⟩,?_⟩;exact Oo.2 ⟨chC b.n v k,Pk.2 ⟨cT b.n v,Om.2 (.inr (Oo.2 ⟨v,hv,rfl⟩)),Om.2 (.inr (Oo.2 ⟨k,O1.2 hk,rfl⟩))⟩,by simp[cY,chC,iv (vT h hb hv hk)]⟩
theorem iw(p:Pr):p∈aH (aN m)↔(∃b∈m,p=⟨cS (kyB b),stS b.st⟩)\/(∃b∈m,∃v∈b.l,p=⟨cS (kyV b.n v),mB v⟩)\/(∃b∈m,∃v∈b.l,∃k,k<dI v.b/\p=⟨cS (kyC b.n v k),chunk v.b k⟩):=
 ((sO (gF h) (sQ h)).2 p).trans (GK h p)
theorem sX{a b:Bk}(ha:a∈m)(hb:b∈m)(e:a.n=b.n):a=b:=
 vS (f:=Bk.n) ((jn h).imp λhn=>jK hn) a ha b hb e
theorem B3{b:Bk}(hb:b∈m){u v:Vs}(hu:u∈b.l)(hv:v∈b.l)(e1:u.o=v.o)(e2:u.id=v.id):u=v:=
 vS (f:=λv:Vs=>(v.o,v.id)) ((rf (lN h hb)).imp λhn e=>by
  simp only[Oq] at e;rcases next_ne hn with h1|h1
  ·exact h1 e.1
  ·exact h1 e.2) u hu v hv (by rw[e1,e2])
theorem pB{b:Bk}(hb:b∈m):bc (cS (kyB b))=kyB b:=(eV (AG h hb)).2
theorem pV{b:Bk}(hb:b∈m){v:Vs}(hv:v∈b.l):bc (cS (kyV b.n v))=kyV b.n v:=(eV (tq h hb hv)).2
theorem pC{b:Bk}(hb:b∈m){v:Vs}(hv:v∈b.l){k:Nat}(hk:k<dI v.b):bc (cS (kyC b.n v k))=kyC b.n v k:=(eV (vT h hb hv hk)).2
end
theorem fu{m:List Bk}(q:Pr->Bool):((aH (aN m)).filter q).Pairwise λx y=>Op.bytesLess x.k y.k=true:=(iE (aN m)).sublist List.filter_sublist
def BP(m:List Bk):List Pr:=m.map λb=>⟨cS (kyB b),stS b.st⟩
def VP(b:Bk):List Pr:=b.l.map λv=>⟨cS (kyV b.n v),mB v⟩
def CP(n:List UInt8)(v:Vs):List Pr:=(List.range (dI v.b)).map λk=>⟨cS (kyC n v k),chunk v.b k⟩
def isK(k:Int)(p:Pr):Bool:=decide ((bc p.k).k=k)
def Nk(n:List UInt8)(p:Pr):Bool:=decide ((bc p.k).k=2)&&decide ((bc p.k).b=n)
def jo(n o:List UInt8)(id:Int)(p:Pr):Bool:=decide ((bc p.k).k=3)&&(decide ((bc p.k).b=n)&&(decide ((bc p.k).o=o)&&decide ((bc p.k).ns.getD 0 0=id)))
section
variable{m:List Bk}(h:imB m=true)
include h
theorem I6:(BP m).Pairwise λx y=>Op.bytesLess x.k y.k=true:=by
 unfold BP;refine PK.2 (QG (λ{a b} ha hb hn=>?_) (jn h));exact yf (AG h ha) (AG h hb) rfl hn
theorem B4{b:Bk}(hb:b∈m):(VP b).Pairwise λx y=>Op.bytesLess x.k y.k=true:=by
 unfold VP;refine PK.2 (QG (λ{u v} hu hv hn=>?_) (rf (lN h hb)));unfold Vs.next at hn;simp only[OS,Ob,Oj] at hn;have ou:=tq h hb hu;have ov:=tq h hb hv;rcases hn with hn|⟨e,hn⟩
 ·exact IX ou ov (by simp[kyV]) rfl rfl hn
 ·obtain ⟨o,i⟩:=u;obtain ⟨o',j⟩:=v;simp only at e hn;subst e;exact IZ ou ov hn
theorem I7{b:Bk}(hb:b∈m){v:Vs}(hv:v∈b.l):(CP b.n v).Pairwise λx y=>Op.bytesLess x.k y.k=true:=by
 unfold CP;refine PK.2 (QG (λ{x y} hx hy hn=>?_) List.pairwise_lt_range);exact I5 (vT h hb hv (O1.1 hx)) (vT h hb hv (O1.1 hy)) hn
theorem I8:((m.map VP).flatten).Pairwise λx y=>Op.bytesLess x.k y.k=true:=by
 refine List.pairwise_flatten.2 ⟨λl hl=>?_,?_⟩
 ·obtain ⟨b,hb,rfl⟩:=Oo.1 hl;exact B4 h hb
 ·refine PK.2 (QG (λ{a b} ha hb hn x hx y hy=>?_) (jn h));obtain ⟨u,hu,rfl⟩:=Oo.1 hx;obtain ⟨v,hv,rfl⟩:=Oo.1 hy;exact yf (tq h ha hu) (tq h hb hv) rfl hn
theorem J3:(aH (aN m)).filter (isK 1)=BP m:=by
 refine kJ (fu _) (I6 h) λp=>?_;rw[Pm,iw h];unfold BP isK;rw[Oo];constructor
 ·rintro ⟨⟨b,hb,rfl⟩|⟨b,hb,v,hv,rfl⟩|⟨b,hb,v,hv,k,hk,rfl⟩,hq⟩
  ·exact ⟨b,hb,rfl⟩
  ·simp only[pV h hb hv] at hq;simp[kyV] at hq
  ·simp only[pC h hb hv hk] at hq;simp[kyC] at hq
 ·rintro ⟨b,hb,rfl⟩;exact ⟨.inl ⟨b,hb,rfl⟩,by simp only[pB h hb];simp[kyB]⟩
theorem Nl{b:Bk}(hb:b∈m):(aH (aN m)).filter (Nk b.n)=VP b:=by
 refine kJ (fu _) (B4 h hb) λp=>?_;rw[Pm,iw h];unfold VP Nk;rw[Oo];constructor
 ·rintro ⟨⟨c,hc,rfl⟩|⟨c,hc,v,hv,rfl⟩|⟨c,hc,v,hv,k,hk,rfl⟩,hq⟩
  ·simp only[pB h hc] at hq;simp[kyB] at hq
  ·simp only[pV h hc hv] at hq;simp[kyV] at hq;obtain rfl:=sX h hc hb (Oh hq);exact ⟨v,hv,rfl⟩
  ·simp only[pC h hc hv hk] at hq;simp[kyC] at hq
 ·rintro ⟨v,hv,rfl⟩;exact ⟨.inr (.inl ⟨b,hb,v,hv,rfl⟩),by simp only[pV h hb hv];simp[kyV]⟩
theorem J4{b:Bk}(hb:b∈m){v:Vs}(hv:v∈b.l):(aH (aN m)).filter (jo b.n v.o v.id)=CP b.n v:=by
 refine kJ (fu _) (I7 h hb hv) λp=>?_;rw[Pm,iw h];unfold CP jo;rw[Oo];constructor
 ·rintro ⟨⟨c,hc,rfl⟩|⟨c,hc,u,hu,rfl⟩|⟨c,hc,u,hu,k,hk,rfl⟩,hq⟩
  ·simp only[pB h hc] at hq;simp[kyB] at hq
  ·simp only[pV h hc hu] at hq;simp[kyV] at hq
  ·simp only[pC h hc hu hk] at hq;simp[kyC] at hq;obtain ⟨e1,e2,e3⟩:=hq;obtain rfl:=sX h hc hb (Oh e1);obtain rfl:=B3 h hc hu hv (Oh e2) e3;exact ⟨k,O1.2 hk,rfl⟩
 ·rintro ⟨k,hk,rfl⟩;have hk:=O1.1 hk;exact ⟨.inr (.inr ⟨b,hb,v,hv,k,hk,rfl⟩),by simp only[pC h hb hv hk];simp[kyC]⟩
theorem KW:(aH (aN m)).filter (isK 2)=(m.map VP).flatten:=by
 refine kJ (fu _) (I8 h) λp=>?_;rw[Pm,iw h,Pk];unfold isK;constructor
 ·rintro ⟨⟨c,hc,rfl⟩|⟨c,hc,v,hv,rfl⟩|⟨c,hc,v,hv,k,hk,rfl⟩,hq⟩
  ·simp only[pB h hc] at hq;simp[kyB] at hq
  ·exact ⟨VP c,Oo.2 ⟨c,hc,rfl⟩,Oo.2 ⟨v,hv,rfl⟩⟩
  ·simp only[pC h hc hv hk] at hq;simp[kyC] at hq
 ·rintro ⟨l,hl,hp⟩;obtain ⟨b,hb,rfl⟩:=Oo.1 hl;obtain ⟨v,hv,rfl⟩:=Oo.1 hp;exact ⟨.inr (.inl ⟨b,hb,v,hv,rfl⟩),by simp only[pV h hb hv];simp[kyV]⟩
theorem D9:aH (aN m)=(aH (aN m)).filter (isK 1)++((aH (aN m)).filter (isK 3)++(aH (aN m)).filter (isK 2)):=by
 have kind:∀p∈aH (aN m),∃x:Ky,p.k=cS x/\bc p.k=x/\(x.k=1\/x.k=2\/x.k=3):=λp hp=>by
  rcases (iw h p).1 hp with ⟨b,hb,rfl⟩|⟨b,hb,v,hv,rfl⟩|⟨b,hb,v,hv,k,hk,rfl⟩
  ·exact ⟨_,rfl,pB h hb,.inl rfl⟩
  ·exact ⟨_,rfl,pV h hb hv,.inr (.inl rfl)⟩
  ·exact ⟨_,rfl,pC h hb hv hk,.inr (.inr rfl)⟩
 refine kJ (iE _) (QO.2 ⟨fu _,QO.2 ⟨fu _,fu _,?_⟩,?_⟩) λp=>?_
 ·intro x hx y hy;obtain ⟨hx,kx⟩:=Pm.1 hx;obtain ⟨hy,ky⟩:=Pm.1 hy;obtain ⟨a,e1,e2,-⟩:=kind x hx;obtain ⟨b,f1,f2,-⟩:=kind y hy;unfold isK at kx ky;rw[e2] at kx;rw[f2] at ky;have k1:a.k=3:=by simpa using kx
  have k2:b.k=2:=by simpa using ky
  rw[e1,f1];exact sW (by rw[k1,k2];decide)
 ·intro x hx y hy;obtain ⟨hx,kx⟩:=Pm.1 hx;obtain ⟨a,e1,e2,-⟩:=kind x hx;unfold isK at kx;rw[e2] at kx;have k1:a.k=1:=by simpa using kx
  rcases OM.1 hy with hy|hy;all_goals
   obtain ⟨hy,ky⟩:=Pm.1 hy;obtain ⟨b,f1,f2,-⟩:=kind y hy;unfold isK at ky;rw[f2] at ky;rw[e1,f1]
  ·have k2:b.k=3:=by simpa using ky
   exact sW (by rw[k1,k2];decide)
  ·have k2:b.k=2:=by simpa using ky
   exact sW (by rw[k1,k2];decide)
 ·rw[OM,OM,Pm,Pm,Pm];constructor
  ·intro hp;obtain ⟨a,e1,e2,hk⟩:=kind p hp;unfold isK;rw[e2];rcases hk with hk|hk|hk
   ·exact .inl ⟨hp,by simp[hk]⟩
   ·exact .inr (.inr ⟨hp,by simp[hk]⟩)
   ·exact .inr (.inl ⟨hp,by simp[hk]⟩)
  ·rintro (hp|hp|hp);all_goals exact hp.1
end
theorem jM(s:List UInt8):∀n:Nat,((List.range n).map (chunk s)).flatten=s.take (160*n)
 |0=>by simp
 |n+1=>by
  rw[List.range_succ,O3,PG,jM s n];simp only[Oy,OE,List.flatten_cons,List.flatten_nil,ON,chunk];have e:s.take (min s.length (160*n+160))=s.take (160*n+160):=by
   by_cases h:s.length<=160*n+160
   ·rw[Pv h,OT h,OT (NY _)]
   ·rw[Nat.min_eq_right aa]
  rw[e,show 160*(n+1)=160*n+160 by omega,List.drop_take,show 160*n+160 - 160*n=160 by omega,List.take_add]
theorem AH(s:List UInt8):((List.range (dI s)).map (chunk s)).flatten=s:=by
 rw[jM,OT (by unfold dI;omega)]
theorem B5{v:Int}(h:p6 v=true):stV (stS v)=v/\om (stS v)=true:=by
 rcases oZ v with (rfl|rfl|rfl)|⟨h2,-⟩
 ·exact ⟨by decide,by decide⟩
 ·exact ⟨by decide,by decide⟩
 ·exact ⟨by decide,by decide⟩
 ·rw[h] at h2;cases h2
theorem I9{sz re im:Int}{g:Bool}(h:cX sz re im g=true)(u:Bool):hdB (cZ sz re im g u)=true/\hdO (cZ sz re im g u)=⟨sz,re,im,g,u⟩:=by
 have h':=h;unfold cX gL at h';simp only[Ob,Oj] at h';have hs:cZ sz re im g u=eP sz.toNat re.toNat im.toNat g u:=by unfold cZ;rw[Of h]
 have hl:(eP sz.toNat re.toNat im.toNat g u).length=11:=gE _ _ _ _ _;have e2:(256:Nat)^2=65536:=by decide
 have e4:(256:Nat)^4=4294967296:=by decide
 have hc:hdC (eP sz.toNat re.toNat im.toNat g u)=⟨sz,re,im,g,u⟩:=by
  have f1:eP sz.toNat re.toNat im.toNat g u=UInt8.ofNat (flN g u)::(be 2 sz.toNat++be 4 re.toNat++be 4 im.toNat):=by
   have e1:be 1 (flN g u)=[UInt8.ofNat (flN g u)]:=by simp[be]
   unfold eP;rw[e1];simp
  have d1:((eP sz.toNat re.toNat im.toNat g u).drop 1).take 2=be 2 sz.toNat:=by
   rw[f1,Pe,Pw,Pn,List.take_left' (aW _ _)]
  have d2:((eP sz.toNat re.toNat im.toNat g u).drop 3).take 4=be 4 re.toNat:=by
   rw[f1,Pe,Pn,List.drop_left' (aW _ _),List.take_left' (aW _ _)]
  have d3:((eP sz.toNat re.toNat im.toNat g u).drop 7).take 4=be 4 im.toNat:=by
   rw[f1,Pe,List.drop_left' (by simp[aW]),OT (by simp[aW])]
  have g0:(eP sz.toNat re.toNat im.toNat g u).getD 0 0=UInt8.ofNat (flN g u):=by rw[f1];rfl
  unfold hdC;rw[d1,d2,d3,g0,lF,lF,lF,e2,e4,O9 aa,O9 aa,O9 aa];have k1:((sz.toNat:Nat):Int)=sz:=by omega
  have k2:((re.toNat:Nat):Int)=re:=by omega
  have k3:((im.toNat:Nat):Int)=im:=by omega
  rw[k1,k2,k3];cases g<;>cases u<;>rfl
 have hb:hdB (eP sz.toNat re.toNat im.toNat g u)=true:=by
  unfold hdB;rw[hc,hl];simp only[h,Ow,O7]
 rw[hs];refine ⟨hb,?_⟩;unfold hdO;rw[Of hb,hc]
theorem GL{v:Vs}(h:v.okV=true):cX v.sz v.re v.im v.g=true:=by
 simp only[Vs.okV,Vs.fit,Vs.rh,Ob,Oj] at h;exact h.2.1.1
theorem J5{b:Bk}(h:gX b=true):p6 b.st=true:=by
 unfold gX at h;simp only[Ob,Oj] at h;exact h.1.2
theorem ow{v:Vs}(h:v.okV=true):hdB (mB v)=true/\hdO (mB v)=⟨v.sz,v.re,v.im,v.g,v.u⟩:=I9 (GL h) v.u
structure Pc where
 b:List UInt8
 o:List UInt8
 id:Int
 s:List UInt8
 n:Int
def gg(b o:List UInt8)(id:Int)(p:Pc):Bool:=decide (b=p.b)&&(decide (o=p.o)&&(decide (id=p.id)&&true))
def qM(b o:List UInt8)(id:Int):List AV:=[.str b,.str o,.int .i64 id]
def vU(s:List UInt8)(n:Int):AV:= .agg [.str s,.int .i64 n]
def gH(q:List Pc):List (AV × AV):=q.map λp=>(.agg (qM p.b p.o p.id),vU p.s p.n)
def jX:List Pc->List UInt8->List UInt8->Int->Option (Nat × AV)
 |[],_,_,_=>none
 |p::q,b,o,id=>if gg b o id p then some (0,vU p.s p.n) else (jX q b o id).map λx=>(x.1+1,x.2)
def dx:List Pc->List UInt8->List UInt8->Int->List UInt8 × Int
 |[],_,_,_=>([],0)
 |p::q,b,o,id=>if gg b o id p then (p.s,p.n) else dx q b o id
def kK:List Pc->List UInt8->List UInt8->Int->List UInt8->Int->List Pc
 |[],b,o,id,s,n=>[⟨b,o,id,s,n⟩]
 |p::q,b,o,id,s,n=>if gg b o id p then ⟨b,o,id,s,n⟩::q else p::kK q b o id s n
def kL:List Pc->List UInt8->List UInt8->Int->List Pc
 |[],_,_,_=>[]
 |p::q,b,o,id=>if gg b o id p then q else p::kL q b o id
theorem AI(b o:List UInt8)(id:Int):∀q:List Pc,eX [.str,.str,.int] (qM b o id) (gH q)=some (jX q b o id)
 |[]=>by simp[gH,eX,jX,qM,bu,ja]
 |p::q=>by
  have ih:=AI b o id q;have e:bu [.str,.str,.int] (qM b o id) (qM p.b p.o p.id)=some (gg b o id p):=by simp[qM,bu,ja,gg]
  have hq:gH (p::q)=(.agg (qM p.b p.o p.id),vU p.s p.n)::gH q:=rfl;rw[hq];simp only[eX,e,jX];cases gg b o id p with
  |true=>rfl
  |false=>simp[ih]
theorem AJ(b o:List UInt8)(id:Int):∀q:List Pc,dS (.agg [.str [],.int .i64 0]) false (jX q b o id)=vU (dx q b o id).1 (dx q b o id).2
 |[]=>rfl
 |p::q=>by
  have ih:=AJ b o id q;simp only[jX,dx];cases gg b o id p with
  |true=>rfl
  |false=>
   simp only[Oa,N5];rw[<-ih];cases jX q b o id<;>rfl
theorem J6(b o:List UInt8)(id:Int)(s:List UInt8)(n:Int):∀q:List Pc,rI (gH q) (qM b o id) (vU s n) (jX q b o id)=gH (kK q b o id s n)
 |[]=>rfl
 |p::q=>by
  have ih:=J6 b o id s n q;have hq:gH (p::q)=(.agg (qM p.b p.o p.id),vU p.s p.n)::gH q:=rfl;rw[hq];simp only[jX,kK];cases gg b o id p with
  |true=>rfl
  |false=>
   simp only[Oa,N5];have hr:gH (p::kK q b o id s n)=(.agg (qM p.b p.o p.id),vU p.s p.n)::gH (kK q b o id s n):=rfl;rw[hr,<-ih];cases jX q b o id<;>rfl
theorem J7(b o:List UInt8)(id:Int):∀q:List Pc,rH (gH q) (jX q b o id)=gH (kL q b o id)
 |[]=>rfl
 |p::q=>by
  have ih:=J7 b o id q;have hq:gH (p::q)=(.agg (qM p.b p.o p.id),vU p.s p.n)::gH q:=rfl;rw[hq];simp only[jX,kL];cases gg b o id p with
  |true=>rfl
  |false=>
   simp only[Oa,N5];have hr:gH (p::kL q b o id)=(.agg (qM p.b p.o p.id),vU p.s p.n)::gH (kL q b o id):=rfl;rw[hr,<-ih];cases jX q b o id<;>rfl
theorem GM(q:List Pc):(gH q).length=q.length:=O2 _
theorem eQ{b o:List UInt8}{id:Int}{p:Pc}:gg b o id p=true↔b=p.b/\o=p.o/\id=p.id:=by
 simp[gg]
theorem yg(b o:List UInt8)(id:Int)(s:List UInt8)(n:Int)(b' o':List UInt8)(id':Int):∀q:List Pc,dx (kK q b o id s n) b' o' id'=if b'=b/\o'=o/\id'=id then (s,n) else dx q b' o' id'
 |[]=>by
  simp only[kK,dx];by_cases h:b'=b/\o'=o/\id'=id
  ·rw[Of h,Of (eQ.2 h)]
  ·rw[N7 h,N7 (λe=>h (eQ.1 e))]
 |p::q=>by
  have ih:=yg b o id s n b' o' id' q;simp only[kK];by_cases hp:gg b o id p=true
  ·rw[Of hp];obtain ⟨e1,e2,e3⟩:=eQ.1 hp;simp only[dx];by_cases h:b'=b/\o'=o/\id'=id
   ·rw[Of h,Of (eQ.2 h)]
   ·rw[N7 h,N7 (λe=>h (eQ.1 e)),N7 (λe=>h (by obtain ⟨x,y,z⟩:=eQ.1 e;exact ⟨x.trans e1.symm,y.trans e2.symm,z.trans e3.symm⟩))]
  ·rw[N7 hp];simp only[dx];by_cases h2:gg b' o' id' p=true
   ·rw[Of h2,Of h2,N7];rintro ⟨rfl,rfl,rfl⟩;exact hp h2
   ·rw[N7 h2,N7 h2,ih]
def lG(q:List Pc):Prop:=q.Pairwise λx y=>¬(x.b=y.b/\x.o=y.o/\x.id=y.id)
theorem pt{b o:List UInt8}{id:Int}{s:List UInt8}{n:Int}{x:Pc}:∀{q:List Pc},x∈kK q b o id s n->x=⟨b,o,id,s,n⟩\/x∈q
 |[],h=>by simp[kK] at h;exact .inl h
 |p::q,h=>by
  simp only[kK] at h;split at h
  ·rcases Om.1 h with h|h
   ·exact .inl h
   ·exact .inr (by simp[h])
  ·rcases Om.1 h with h|h
   ·exact .inr (by simp[h])
   ·rcases pt h with h|h
    ·exact .inl h
    ·exact .inr (by simp[h])
theorem py{b o:List UInt8}{id:Int}{x:Pc}:∀{q:List Pc},x∈kL q b o id->x∈q
 |[],h=>by simp[kL] at h
 |p::q,h=>by
  simp only[kL] at h;split at h
  ·simp[h]
  ·rcases Om.1 h with h|h
   ·simp[h]
   ·have:=py h;simp[this]
theorem uK{b o:List UInt8}{id:Int}{s:List UInt8}{n:Int}:∀{q:List Pc},lG q->lG (kK q b o id s n)
 |[],h=>by simp[kK,lG]
 |p::q,h=>by
  obtain ⟨h1,h2⟩:=Pu.1 h;simp only[kK];split
  ·rename_i hp;obtain ⟨e1,e2,e3⟩:=eQ.1 hp;refine Pu.2 ⟨λy hy=>?_,h2⟩;have:=h1 y hy;simp only;rw[e1,e2,e3];exact this
  ·rename_i hp;refine Pu.2 ⟨λy hy=>?_,uK h2⟩;rcases pt hy with rfl|hy
   ·simp only;rintro ⟨e1,e2,e3⟩;exact hp (eQ.2 ⟨e1.symm,e2.symm,e3.symm⟩)
   ·exact h1 y hy
theorem qd{b o:List UInt8}{id:Int}:∀{q:List Pc},lG q->lG (kL q b o id)/\∀x∈kL q b o id,¬(x.b=b/\x.o=o/\x.id=id)
 |[],h=>by simp[kL,lG]
 |p::q,h=>by
  obtain ⟨h1,h2⟩:=Pu.1 h;simp only[kL];split
  ·rename_i hp;obtain ⟨e1,e2,e3⟩:=eQ.1 hp;refine ⟨h2,λx hx=>?_⟩;have:=h1 x hx;rintro ⟨f1,f2,f3⟩;exact this ⟨by rw[f1,e1],by rw[f2,e2],by rw[f3,e3]⟩
  ·rename_i hp;obtain ⟨i1,i2⟩:=qd (b:=b) (o:=o) (id:=id) h2;refine ⟨Pu.2 ⟨λy hy=>h1 y (py hy),i1⟩,λx hx=>?_⟩;rcases Om.1 hx with rfl|hx
   ·rintro ⟨f1,f2,f3⟩;exact hp (eQ.2 ⟨f1.symm,f2.symm,f3.symm⟩)
   ·exact i2 x hx
theorem yh{b o b' o':List UInt8}{id id':Int}(hn:¬(b'=b/\o'=o/\id'=id)):∀q:List Pc,dx (kL q b o id) b' o' id'=dx q b' o' id'
 |[]=>rfl
 |p::q=>by
  have ih:=yh hn q;simp only[kL];by_cases hp:gg b o id p=true
  ·rw[Of hp];simp only[dx];rw[N7];intro e;obtain ⟨e1,e2,e3⟩:=eQ.1 hp;obtain ⟨f1,f2,f3⟩:=eQ.1 e;exact hn ⟨by rw[f1,e1],by rw[f2,e2],by rw[f3,e3]⟩
  ·rw[N7 hp];simp only[dx];rw[ih]
def gP(ns:List (List UInt8))(nm:List UInt8):Nat->Nat->Nat->Nat
 |0,i,_=>i
 |f+1,i,j=>if i<j then (if Op.bytesLess (ns.getD ((i+j)/2) []) nm then gP ns nm f ((i+j)/2+1) j else gP ns nm f i ((i+j)/2)) else i
def jy(ns:List (List UInt8))(nm:List UInt8):Nat:=gP ns nm ns.length 0 ns.length
def gh(ns:List (List UInt8))(nm:List UInt8):Bool:=decide (jy ns nm<ns.length)&&decide (ns.getD (jy ns nm) []=nm)
theorem sY{ns:List (List UInt8)}(hs:ns.Pairwise λa b=>Op.bytesLess a b=true){z:Nat}(hz:z<ns.length):∀(f i j:Nat),j - i<=f->i<=z->z<=j->j<=ns.length->gP ns (ns.getD z []) f i j=z
 |0,i,j,h1,h2,h3,h4=>by simp only[gP];omega
 |f+1,i,j,h1,h2,h3,h4=>by
  simp only[gP];by_cases hij:i<j
  ·rw[Of hij];have a1:(i+j)/2<j:=by omega
   have a2:i<=(i+j)/2:=by omega
   have pw:=PA.1 hs;generalize (i+j)/2=c at*
   have gc:ns.getD c []=ns[c]'(by omega):=by simp[List.getD,N0 (show c<ns.length by omega)]
   have gz:ns.getD z []=ns[z]:=by simp[List.getD,N0 hz]
   by_cases hl:Op.bytesLess (ns.getD c []) (ns.getD z [])=true
   ·rw[Of hl];have hcz:c<z:=by
     rcases Nat.lt_trichotomy c z with h|h|h
     ·exact h
     ·subst h;rw[Batch.bZ] at hl;cases hl
     ·have:=pw z c hz aa h;rw[gc,gz] at hl;have:=Batch.dH this hl;rw[Batch.bZ] at this;cases this
    exact sY hs hz f (c+1) j aa aa h3 h4
   ·rw[N7 hl];have hcz:z<=c:=by
     rcases Ps c z with h|h
     ·have:=pw c z aa hz h;rw[gc,gz] at hl;exact absurd this hl
     ·exact h
    exact sY hs hz f i c aa h2 hcz aa
  ·rw[N7 hij];omega
theorem Ja{ns:List (List UInt8)}(hs:ns.Pairwise λa b=>Op.bytesLess a b=true){z:Nat}(hz:z<ns.length):jy ns (ns.getD z [])=z/\gh ns (ns.getD z [])=true:=by
 have h:jy ns (ns.getD z [])=z:=sY hs hz _ _ _ aa aa aa (NY _);refine ⟨h,?_⟩;unfold gh;rw[h];simp[hz]
abbrev SS:=List Bk × List Pc
def sZ(m:List Bk)(i:Nat)(v:Vs):List Bk:=m.set i ⟨(m.getD i default).n,(m.getD i default).st,(m.getD i default).l++[v]⟩
def yi(k:Ky)(hd:Hd)(b:List UInt8):Vs:=⟨k.o,k.ns.getD 0 0,hd.sz,hd.re,hd.im,hd.g,hd.u,b⟩
def lU(S:SS)(k:Ky)(v:List UInt8):Option SS:=
 if k.k=1 then (if om v=true then some (S.1++[⟨k.b,stV v,[]⟩],S.2) else none)
 else if k.k=3 then (if k.ns.getD 1 0=(dx S.2 k.b k.o (k.ns.getD 0 0)).2 then some (S.1,kK S.2 k.b k.o (k.ns.getD 0 0) ((dx S.2 k.b k.o (k.ns.getD 0 0)).1++v) ((dx S.2 k.b k.o (k.ns.getD 0 0)).2+1)) else none)
 else if k.k=2 then (if hdB v=true then (if gh (S.1.map Bk.n) k.b=true then some (sZ S.1 (jy (S.1.map Bk.n) k.b) (yi k (hdO v) (dx S.2 k.b k.o (k.ns.getD 0 0)).1),kL S.2 k.b k.o (k.ns.getD 0 0)) else none) else none)
 else none
def lH(S:SS)(p:Pr):Option SS:=if cD p.k=true then lU S (bc p.k) p.v else none
def kM(l:List Pr):Nat->Option SS
 |0=>some ([],[])
 |j+1=>(kM l j).bind λS=>if (decide (j=0)||Op.bytesLess (l.getD (j - 1) default).k (l.getD j default).k)=true then lH S (l.getD j default) else none
def iF:SS->List Pr->Option SS
 |S,[]=>some S
 |S,p::l=>(lH S p).bind λS'=>iF S' l
theorem iZ:∀(a b:List Pr)(S:SS),iF S (a++b)=(iF S a).bind λS'=>iF S' b
 |[],b,S=>rfl
 |p::a,b,S=>by
  simp only[List.cons_append,iF];cases lH S p with
  |none=>rfl
  |some S'=>exact iZ a b S'
theorem yj{l:List Pr}(h:l.Pairwise λx y=>Op.bytesLess x.k y.k=true):∀j,j<=l.length->kM l j=iF ([],[]) (l.take j)
 |0,_=>rfl
 |j+1,hj=>by
  have hlt:j<l.length:=by omega
  have e:l.getD j default=l[j]:=by simp[List.getD,N0 hlt]
  have hc:(decide (j=0)||Op.bytesLess (l.getD (j - 1) default).k (l.getD j default).k)=true:=by
   rcases QC j with h0|h0
   ·simp[h0]
   ·have e1:l.getD (j - 1) default=l[j - 1]:=by simp[List.getD,N0 (show j - 1<l.length by omega)]
    rw[e,e1,PA.1 h (j - 1) j aa hlt aa];simp
  rw[Ov hlt,iZ,<-yj h j aa];simp only[kM];congr 1;funext S;rw[Of hc,e];simp only[iF];cases lH S l[j] <;>rfl
def bare(b:Bk):Bk:=⟨b.n,b.st,[]⟩
section
variable{m:List Bk}(h:imB m=true)
include h
theorem Nn{b:Bk}(hb:b∈m)(S:SS):lH S ⟨cS (kyB b),stS b.st⟩=some (S.1++[bare b],S.2):=by
 obtain ⟨e1,e2⟩:=B5 (J5 (lN h hb));unfold lH;rw[Of (eV (AG h hb)).1,pB h hb];simp[lU,kyB,e1,e2,bare]
theorem GN:∀(a:List Bk)(S:SS),(∀b∈a,b∈m)->iF S (BP a)=some (S.1++a.map bare,S.2)
 |[],S,_=>by simp[BP,iF]
 |b::a,S,hs=>by
  have e:BP (b::a)=⟨cS (kyB b),stS b.st⟩::BP a:=rfl;rw[e];simp only[iF];rw[Nn h (hs b af)];simp only[Option.bind_some];rw[GN a _ λc hc=>hs c (by simp[hc])];simp
end
def QPc(q:List Pc)(C:List Pr):Prop:=lG q/\(∀n o id,dx q n o id=(((C.filter (jo n o id)).map Pr.v).flatten,((C.filter (jo n o id)).length:Int)))/\∀p∈q,∃x∈C,jo p.b p.o p.id x=true
def J8(C:List Pr):Prop:=∀a p b,C=a++p::b->cD p.k=true/\(bc p.k).k=3/\(bc p.k).ns.getD 1 0=((a.filter (jo (bc p.k).b (bc p.k).o ((bc p.k).ns.getD 0 0))).length:Int)
theorem qe{p:Pr}(hk:(bc p.k).k=3)(n o:List UInt8)(id:Int):jo n o id p=true↔n=(bc p.k).b/\o=(bc p.k).o/\id=(bc p.k).ns.getD 0 0:=by
 unfold jo;rw[hk];simp only[Ow,OP,Ob,Oj];constructor
 ·rintro ⟨a,b,c⟩;exact ⟨a.symm,b.symm,c.symm⟩
 ·rintro ⟨a,b,c⟩;exact ⟨a.symm,b.symm,c.symm⟩
theorem KX(m:List Bk)(C:List Pr)(hC:J8 C):∃q,iF (m,[]) C=some (m,q)/\QPc q C:=by
 induction C using BV with
 |h0=>exact ⟨[],rfl,by simp[lG],λn o id=>rfl,λp hp=>by cases hp⟩
 |h1 a x ih=>
  obtain ⟨q,hq,h1,h2,h3⟩:=ih λu p v e=>hC u p (v++[x]) (by rw[e];simp);obtain ⟨g1,g2,g3⟩:=hC a x [] rfl;have hadd:lH (m,q) x=some (m,kK q (bc x.k).b (bc x.k).o ((bc x.k).ns.getD 0 0) ((dx q (bc x.k).b (bc x.k).o ((bc x.k).ns.getD 0 0)).1++x.v) ((dx q (bc x.k).b (bc x.k).o ((bc x.k).ns.getD 0 0)).2+1)):=by
   unfold lH;rw[Of g1];unfold lU;rw[N7 (by rw[g2];decide),Of g2,Of];simp only;rw[g3,h2]
  refine ⟨_,by rw[iZ,hq];simp only[Option.bind_some,iF];rw[hadd];rfl,uK h1,λn o id=>?_,λp hp=>?_⟩
  ·rw[yg,List.filter_append];by_cases hp:n=(bc x.k).b/\o=(bc x.k).o/\id=(bc x.k).ns.getD 0 0
   ·rw[Of hp];have hc:=(qe g2 n o id).2 hp;have e:List.filter (jo n o id) [x]=[x]:=by simp[hc]
    obtain ⟨rfl,rfl,rfl⟩:=hp;rw[e,h2];simp
   ·rw[N7 hp,h2];have e:List.filter (jo n o id) [x]=[]:=by
     simp only[List.filter_cons,List.filter_nil];rw[N7 λhc=>hp ((qe g2 n o id).1 hc)]
    rw[e,ON]
  ·rcases pt hp with rfl|hp
   ·exact ⟨x,by simp,(qe g2 _ _ _).2 ⟨rfl,rfl,rfl⟩⟩
   ·obtain ⟨y,hy,e⟩:=h3 p hp;exact ⟨y,by simp[hy],e⟩
theorem GO{m:List Bk}(n o:List UInt8)(id:Int):((aH (aN m)).filter (isK 3)).filter (jo n o id)=(aH (aN m)).filter (jo n o id):=by
 rw[List.filter_filter];refine List.filter_congr λx _=>?_;unfold jo isK;cases decide ((bc x.k).k=3)<;>simp
section
variable{m:List Bk}(h:imB m=true)
include h
theorem KY:J8 ((aH (aN m)).filter (isK 3)):=by
 intro a p b e;have hp:p∈(aH (aN m)).filter (isK 3):=by rw[e];simp
 obtain ⟨hp,hk⟩:=Pm.1 hp;rcases (iw h p).1 hp with ⟨c,hc,rfl⟩|⟨c,hc,v,hv,rfl⟩|⟨c,hc,v,hv,k,hkc,rfl⟩
 ·unfold isK at hk;simp only[pB h hc] at hk;simp[kyB] at hk
 ·unfold isK at hk;simp only[pV h hc hv] at hk;simp[kyV] at hk
 ·have f:=Pb (List.filter (jo c.n v.o v.id)) e;rw[GO,J4 h hc hv,List.filter_append,List.filter_cons] at f;have hself:jo c.n v.o v.id ⟨cS (kyC c.n v k),chunk v.b k⟩=true:=by
   unfold jo;simp only[pC h hc hv hkc];simp[kyC]
  rw[Of hself] at f;simp only[pC h hc hv hkc];refine ⟨(eV (vT h hc hv hkc)).1,rfl,?_⟩;show (k:Int)=_;have hlen:(a.filter (jo c.n v.o v.id)).length<(CP c.n v).length:=by rw[f];simp
  have hcl:(CP c.n v).length=dI v.b:=by simp[CP]
  have g:(CP c.n v)[(a.filter (jo c.n v.o v.id)).length]? =some ⟨cS (kyC c.n v k),chunk v.b k⟩:=by rw[f];simp
  have g2:(CP c.n v)[(a.filter (jo c.n v.o v.id)).length]? =some ⟨cS (kyC c.n v (a.filter (jo c.n v.o v.id)).length),chunk v.b (a.filter (jo c.n v.o v.id)).length⟩:=by
   unfold CP;rw[Qc,List.getElem?_range aa];rfl
  rw[g] at g2;simp only[Oi,Pr.mk.injEq] at g2;have hkey:=key_inj (vT h hc hv hkc) (vT h hc hv aa) g2.1;have e0:c.n=(kyC c.n v k).b:=rfl;have ek:(kyC c.n v k).ns.getD 0 0=v.id:=rfl;rw[ek];show (k:Int)=((a.filter (jo c.n v.o v.id)).length:Int);simp only[kyC,Ky.mk.injEq,Pz,Pf,P5] at hkey;exact hkey
end
def Q3(q:List Pc)(R:List (List UInt8 × Vs)):Prop:=lG q/\(∀r∈R,(dx q r.1 r.2.o r.2.id).1=r.2.b)/\∀p∈q,∃r∈R,p.b=r.1/\p.o=r.2.o/\p.id=r.2.id
def Jb(r:List UInt8 × Vs):Pr:=⟨cS (kyV r.1 r.2),mB r.2⟩
theorem GP{v:Vs}(hv:v.okV=true)(n:List UInt8):yi (kyV n v) (hdO (mB v)) v.b=v:=by
 rw[(ow hv).2];rfl
theorem No{m:List Bk}(h:imB m=true){b:Bk}(hb:b∈m){v:Vs}(hv:v∈b.l)(S:SS)(hn:S.1.map Bk.n=m.map Bk.n){i:Nat}(hi:i<m.length)(hbi:m.getD i default=b){R:List (List UInt8 × Vs)}(hq:Q3 S.2 ((b.n,v)::R))(hR:∀r∈R,¬(r.1=b.n/\r.2.o=v.o/\r.2.id=v.id)):
  ∃q',lH S (Jb (b.n,v))=some (sZ S.1 i v,q')/\Q3 q' R:=by
 obtain ⟨h1,h2,h3⟩:=hq;have hov:=uF (lN h hb) hv;have hbody:(dx S.2 b.n v.o v.id).1=v.b:=h2 (b.n,v) af;have hrise:(m.map Bk.n).Pairwise λa b=>Op.bytesLess a b=true:=PK.2 (jn h);have hnm:(m.map Bk.n).getD i []=b.n:=by
  have e:m.getD i default=m[i]:=by simp[List.getD,N0 hi]
  rw[<-hbi,e];simp[List.getD,Qc,N0 hi]
 obtain ⟨p1,p2⟩:=Ja hrise (z:=i) (by simpa using hi);rw[hnm] at p1 p2;refine ⟨kL S.2 b.n v.o v.id,?_,(qd h1).1,λr hr=>?_,λp hp=>?_⟩
 ·unfold lH Jb;simp only;rw[Of (eV (tq h hb hv)).1,pV h hb hv];unfold lU;rw[N7 (by simp[kyV]),N7 (by simp[kyV]),Of (by simp[kyV]),Of (ow hov).1,hn];have e1:(kyV b.n v).b=b.n:=rfl;have e2:(kyV b.n v).o=v.o:=rfl;have e3:(kyV b.n v).ns.getD 0 0=v.id:=rfl;rw[e1,e2,e3,Of p2,p1,hbody,GP hov]
 ·rw[yh (λe=>hR r hr e)];exact h2 r (by simp[hr])
 ·obtain ⟨r,hr,e1,e2,e3⟩:=h3 p (py hp);rcases Om.1 hr with rfl|hr
  ·exact absurd ⟨e1,e2,e3⟩ ((qd h1).2 p hp)
  ·exact ⟨r,hr,e1,e2,e3⟩
theorem Jc(a c:List Bk)(b:Bk)(v:Vs):sZ (a++b::c) a.length v=a++⟨b.n,b.st,b.l++[v]⟩::c:=by
 unfold sZ;have e:(a++b::c).getD a.length default=b:=by simp[List.getD]
 rw[e];simp
def tv(b:Bk):List (List UInt8 × Vs):=b.l.map λv=>(b.n,v)
theorem KZ(b:Bk):VP b=(tv b).map Jb:=by
 unfold VP tv;rw[Qe];rfl
def vV(R:List (List UInt8 × Vs)):Prop:=R.Pairwise λx y=>¬(y.1=x.1/\y.2.o=x.2.o/\y.2.id=x.2.id)
theorem B6{m:List Bk}(h:imB m=true){b:Bk}(hb:b∈m){i:Nat}(hi:i<m.length)(hbi:m.getD i default=b)(a c:List Bk)(hai:a.length=i)(hnm:a.map Bk.n++b.n::c.map Bk.n=m.map Bk.n)(R:List (List UInt8 × Vs)):
  ∀(x y:List Vs),b.l=x++y->∀q,Q3 q (y.map (λv=>(b.n,v))++R)->vV (y.map (λv=>(b.n,v))++R)->∃q',iF (a++⟨b.n,b.st,x⟩::c,q) ((y.map λv=>(b.n,v)).map Jb)=some (a++b::c,q')/\Q3 q' R
 |x,[],hl,q,hq,_=>by
  rw[ON] at hl;refine ⟨q,?_,by simpa using hq⟩;simp only[OE,iF];rw[<-hl]
 |x,v::y,hl,q,hq,hR=>by
  have hv:v∈b.l:=by rw[hl];simp
  rw[Oy,List.cons_append] at hq hR;obtain ⟨hR1,hR2⟩:=Pu.1 hR;obtain ⟨q1,e1,hq1⟩:=No h hb hv (a++⟨b.n,b.st,x⟩::c,q) (by simpa using hnm) hi hbi hq hR1;simp only at e1;rw[<-hai,Jc] at e1;obtain ⟨q2,e2,hq2⟩:=B6 h hb hi hbi a c hai hnm R (x++[v]) y (by rw[hl];simp) q1 hq1 hR2;refine ⟨q2,?_,hq2⟩;rw[Oy,Oy];simp only[iF];rw[e1];exact e2
theorem B7{m:List Bk}(h:imB m=true):∀(a c:List Bk),m=a++c->∀q,Q3 q (c.map tv).flatten->vV (c.map tv).flatten->iF (a++c.map bare,q) ((c.map VP).flatten)=some (m,[])
 |a,[],hm,q,hq,_=>by
  obtain ⟨-,-,h3⟩:=hq;have:q=[]:=by
   cases q with
   |nil=>rfl
   |cons p q=>obtain ⟨r,hr,-⟩:=h3 p af;simp at hr
  subst this;simp only[OE,List.flatten_nil,iF];rw[hm]
 |a,b::c,hm,q,hq,hR=>by
  have hb:b∈m:=by rw[hm];simp
  have hi:a.length<m.length:=by rw[hm];simp
  have hbi:m.getD a.length default=b:=by rw[hm];simp[List.getD]
  rw[Oy,List.flatten_cons] at hq hR;have hnm:a.map Bk.n++b.n::(c.map bare).map Bk.n=m.map Bk.n:=by
   rw[hm,Qe,O3,Oy];rfl
  obtain ⟨q1,e1,hq1⟩:=B6 h hb hi hbi a (c.map bare) rfl hnm (c.map tv).flatten [] b.l rfl q hq hR;have hR2:vV (c.map tv).flatten:=(QO.1 hR).2.1;have ih:=B7 h (a++[b]) c (by rw[hm];simp) q1 hq1 hR2;rw[Oy,Oy,List.flatten_cons,iZ,KZ];have eb:bare b=⟨b.n,b.st,[]⟩:=rfl;rw[eb];have ev:tv b=b.l.map λv=>(b.n,v):=rfl;rw[ev,e1];simp only[Option.bind_some];simpa using ih
theorem Ea{m:List Bk}(h:imB m=true):vV (m.map tv).flatten:=by
 refine List.pairwise_flatten.2 ⟨λl hl=>?_,?_⟩
 ·obtain ⟨b,hb,rfl⟩:=Oo.1 hl;unfold tv;refine PK.2 ((rf (lN h hb)).imp λhn=>?_);rintro ⟨-,e2,e3⟩;rcases next_ne hn with h1|h1
  ·exact h1 e2.symm
  ·exact h1 e3.symm
 ·refine PK.2 ((jn h).imp λ{a b} hn x hx y hy=>?_);obtain ⟨u,-,rfl⟩:=Oo.1 hx;obtain ⟨v,-,rfl⟩:=Oo.1 hy;rintro ⟨e1,-⟩;exact jK hn e1.symm
theorem Eb{m:List Bk}(h:imB m=true):kM (aH (aN m)) (aH (aN m)).length=some (m,[]):=by
 rw[yj (iE _) _ (NY _),Ot,D9 h,iZ,J3 h,GN h m _ λb hb=>hb];simp only[Option.bind_some,List.nil_append];rw[iZ];obtain ⟨q,hq,q1,q2,q3⟩:=KX (m.map bare) _ (KY h);rw[hq];simp only[Option.bind_some];rw[KW h];have:=B7 h [] m rfl q ⟨q1,λr hr=>?_,λp hp=>?_⟩ (Ea h)
 ·simpa using this
 ·obtain ⟨l,hl,hr⟩:=Pk.1 hr;obtain ⟨b,hb,rfl⟩:=Oo.1 hl;obtain ⟨v,hv,rfl⟩:=Oo.1 hr;rw[q2,GO,J4 h hb hv];have e:(CP b.n v).map Pr.v=(List.range (dI v.b)).map (chunk v.b):=by
   unfold CP;rw[Qe];rfl
  simp only;rw[e,AH]
 ·obtain ⟨x,hx,e⟩:=q3 p hp;obtain ⟨hx,hk⟩:=Pm.1 hx;rcases (iw h x).1 hx with ⟨c,hc,rfl⟩|⟨c,hc,v,hv,rfl⟩|⟨c,hc,v,hv,k,hkc,rfl⟩
  ·unfold isK at hk;simp only[pB h hc] at hk;simp[kyB] at hk
  ·unfold isK at hk;simp only[pV h hc hv] at hk;simp[kyV] at hk
  ·unfold jo at e;simp only[pC h hc hv hkc] at e;simp[kyC] at e;exact ⟨(c.n,v),Pk.2 ⟨tv c,Oo.2 ⟨c,hc,rfl⟩,Oo.2 ⟨v,hv,rfl⟩⟩,(Oh e.1).symm,(Oh e.2.1).symm,e.2.2.symm⟩
theorem GQ(p:Addr)(w:World):
  CallsD Tryz.prog 104 #[.pointer (some p)] .returning w λe u' w'=>e= .returned (.tuple #[])/\u'= .returning/\w'=w:=by
 refine callsD_of_wpS Tryz.func104 rfl λc₀ cs hu=>?_;apply wpS_seq;apply wpS_region;simp[wpOpsS,go_sem,recoverD,hu,Tryz.ntmps104,Exit.thenS];apply wpS_seq;apply wpS_seq;apply wpS_region;simp[wpOpsS,go_sem,Array.replicate];refine wpS_cond (t:=true) (by simp[Act.eval]) ?_;simp only[N9];refine wpS_of_wp (wp_ret ?_);cases c₀
 simp_all [Exit.thenS,bodyPostS,results,Tryz.results104]
theorem GR(k:Int)(w:World):(Instr.typeAssert (.iface 28 (.int .i64 k)) 20 28 true).run Tryz.prog w= .ok (.tuple #[.int .i64 k,.bool true]) w:=by kernel_rfl
theorem AK(p:Addr)(x:Int)(k:Int)(w:World)(hc:w.cell? p=some (.int .i64 x))(hz:w.frozen? p=false):
  CallsD Tryz.prog 104 #[.pointer (some p)] (.panicking [{v:= .iface 28 (.int .i64 k),recovered:=false}]) w λe u' w'=>
   e= .returned (.tuple #[])/\u'= .panicking [{v:= .iface 28 (.int .i64 k),recovered:=true}]/\w'=w.setCell p (.int .i64 k):=by
 refine callsD_of_wpS Tryz.func104 rfl λc₀ cs hu=>?_;apply wpS_seq;apply wpS_region;simp[wpOpsS,go_sem,recoverD,hu,Tryz.ntmps104,Exit.thenS];apply wpS_seq;apply wpS_seq;apply wpS_region;simp[wpOpsS,go_sem,Array.replicate];refine wpS_cond (t:=false) (by simp[Act.eval]) ?_;simp only[Oa,N5];refine wpS_of_wp (wp_skip ?_);simp only[Exit.thenS];apply wpS_seq;apply wpS_region;simp[wpOpsS,go_sem,Exit.thenS,GR];apply wpS_seq;apply wpS_seq;apply wpS_region;simp[wpOpsS,go_sem];refine wpS_cond (t:=false) (by simp[Act.eval]) ?_;simp only[Oa,N5];refine wpS_of_wp (wp_skip ?_);simp only[Exit.thenS];apply wpS_region;simp[wpOpsS,go_sem,hc,hz,bodyPostS,results,Tryz.results104]
theorem uL{G G2:aQ}{w w1 w2:World}{h h':H}{x:Value}(k:Value)(R:bf G h w)(T1:Av.Trans G w h (oO G w.heap.size) w1 h)(R1:bf (oO G w.heap.size) h w1)(hs:w.heap.size<w1.heap.size)(n1:¬h.O (oO G w.heap.size) w.heap.size)
  (T2:Av.Trans (oO G w.heap.size) w1 h G2 w2 h') (R2:bf G2 h' w2) {T:TypeId} {fr:Nat × Nat} (hA:w2.heap[w.heap.size]? =some (.cells #[x] T fr)):
  Av.Trans G w h G2 (w2.setCell ⟨w.heap.size,0,none⟩ k) h'/\bf G2 h' (w2.setCell ⟨w.heap.size,0,none⟩ k):=by
 have ho:G2.own w.heap.size:=(T2.own_keep _ hs n1).2 (.inl rfl);have t:=Df (x:=k) hA ho;exact ⟨(T1.trans R R1 T2).set t (NY _),R2.set t λx=>n1 (T2.O_new _ hs x)⟩
theorem K0{g:Nat}{fn:Func}{first caps:List AV}{h h':H}{r:AV}(hg:Tryz.prog.funcs[g]? =some fn)(hb:fn.body.isSome=true)(hn:fn.name≠ "runtime.NumGoroutine")
  (hc:bo Tryz.prog g (first++caps) h r h'):bo Tryz.prog 54 [.clo (.func g) first caps] h (.int .i64 0) h':=by
 intro G w vs hv R F;simp only[aC,aB] at hv;obtain ⟨v,us,rfl,⟨fv,cv,rfl,h1,h2⟩,rfl⟩:=hv;have hmf:∀(fn:Fn)(first cap:Array Value)(w:World),(Instr.makeFunc fn first cap).run Tryz.prog w= .ok (.func fn first cap) w:=λ_ _ _ _=>rfl
 go_enter_defers Tryz.func54,Tryz.ntmps54
 go_wp2
 rename_i Q' K1 k1 K2 k2;rw[fA _ hg hb hn];let o:Go.Obj:= .cells #[.int .i64 0] 28
 have hp:dy w (w.alloc o) o:=⟨rfl,rfl,rfl⟩;obtain ⟨T1,R1,n1,n2⟩:=wR R hp;have F1:cF (oO G w.heap.size) h h':=F;have hv1:aC (oO G w.heap.size) (w.alloc o) (first++caps) (fv++cv):=(aC.mono R T1 _ _ h1).append (aC.mono R T1 _ _ h2);show Calls _ _ _ _ _;refine (hc _ _ _ hv1 R1 F1).mono ?_;rintro e w2 ⟨v2,G2,rfl,T2,R2,-⟩;have hA:w2.heap[w.heap.size]? =some o:=(T2.keep _ (by rw[hp.size];omega) n1 n2).trans hp.new;have hcell:w2.cell? {block:=w.heap.size,off:=0}=some (.int .i64 0):=by
  unfold World.cell?;simp only[hA,o];rfl
 have hfz:w2.frozen? {block:=w.heap.size,off:=0}=false:=by
  unfold World.frozen?;simp only[hA,o];rfl
 apply k2
 go_wp2
 obtain ⟨T3,R3⟩:=uL (.int .i64 0) R T1 R1 (by rw[hp.size];omega) n1 T2 R2 hA;have hB:=Bn (x:= .int .i64 0) hA;refine leaves_cons (f:=104) (args:= #[.pointer (some ⟨w.heap.size,0,none⟩)]) af (by simp[go_sem]) ?_;refine (GQ ⟨w.heap.size,0,none⟩ _).mono ?_;rintro e u' w'' ⟨rfl,rfl,rfl⟩;generalize w2.setCell ⟨w.heap.size,0,none⟩ (.int .i64 0)=w3 at T3 R3 hB |-;have hcell3:w3.cell? {block:=w.heap.size,off:=0}=some (.int .i64 0):=by
  unfold World.cell?;simp only[hB];rfl
 simp[Leaves,settle,results,Tryz.results54,go_sem,hcell3];exact ⟨G2,T3,R3,by simp[aB]⟩
theorem Jd{g:Nat}{fn:Func}{first caps:List AV}{h h':H}{k:Int}(hg:Tryz.prog.funcs[g]? =some fn)(hb:fn.body.isSome=true)(hn:fn.name≠ "runtime.NumGoroutine")
  (hc:gA Tryz.prog g (first++caps) h (.iface 28 (.int .i64 k)) h'):bo Tryz.prog 54 [.clo (.func g) first caps] h (.int .i64 k) h':=by
 intro G w vs hv R F;simp only[aC,aB] at hv;obtain ⟨v,us,rfl,⟨fv,cv,rfl,h1,h2⟩,rfl⟩:=hv;have hmf:∀(fn:Fn)(first cap:Array Value)(w:World),(Instr.makeFunc fn first cap).run Tryz.prog w= .ok (.func fn first cap) w:=λ_ _ _ _=>rfl
 go_enter_defers Tryz.func54,Tryz.ntmps54
 go_wp2
 rename_i Q' K1 k1 K2 k2;rw[fA _ hg hb hn];let o:Go.Obj:= .cells #[.int .i64 0] 28
 have hp:dy w (w.alloc o) o:=⟨rfl,rfl,rfl⟩;obtain ⟨T1,R1,n1,n2⟩:=wR R hp;have F1:cF (oO G w.heap.size) h h':=F;have hv1:aC (oO G w.heap.size) (w.alloc o) (first++caps) (fv++cv):=(aC.mono R T1 _ _ h1).append (aC.mono R T1 _ _ h2);show Calls _ _ _ _ _;refine (hc _ _ _ hv1 R1 F1).mono ?_;rintro e w2 ⟨G2,rfl,T2,R2⟩;have hA:w2.heap[w.heap.size]? =some o:=(T2.keep _ (by rw[hp.size];omega) n1 n2).trans hp.new;have hcell:w2.cell? {block:=w.heap.size,off:=0}=some (.int .i64 0):=by
  unfold World.cell?;simp only[hA,o];rfl
 have hfz:w2.frozen? {block:=w.heap.size,off:=0}=false:=by
  unfold World.frozen?;simp only[hA,o];rfl
 obtain ⟨T3,R3⟩:=uL (.int .i64 k) R T1 R1 (by rw[hp.size];omega) n1 T2 R2 hA;have hB:=Bn (x:= .int .i64 k) hA;show Leaves _ _ _ _ _ _ _;refine leaves_cons (f:=104) (args:= #[.pointer (some ⟨w.heap.size,0,none⟩)]) af (by simp[go_sem]) ?_;refine (AK ⟨w.heap.size,0,none⟩ 0 k _ hcell hfz).mono ?_;rintro e u' w'' ⟨rfl,rfl,rfl⟩;generalize w2.setCell ⟨w.heap.size,0,none⟩ (.int .i64 k)=w3 at T3 R3 hB |-;have hcell3:w3.cell? {block:=w.heap.size,off:=0}=some (.int .i64 k):=by
  unfold World.cell?;simp only[hB];rfl
 simp[Leaves,settle,results,Tryz.results54,go_sem,hcell3];exact ⟨G2,T3,R3,by simp[aB]⟩
abbrev v4:Value:= .iface 28 (.int .i64 4)
theorem mJ:aI Tryz.prog 56 [.bool true] (.tup []):=by
 refine f56.aE af rfl rfl ?_;unfold c56 zz;refine dG ?_;exact ⟨trivial,_,rfl,av.refl _⟩
theorem iK:Kn Tryz.prog 56 [.bool false] v4:=by
 intro n m;obtain ⟨v,h',hc,rfl,rfl⟩:=aT.Ly (Q:=λv h'=>v=v4/\h'=H0 n m) (args:=[.bool false]) (h:=H0 n m) f56 af (by
  unfold c56 zz;refine Wp.bQ xA1 ah ?_;refine Wp.cond_true xA2 ?_;refine Wp.Lx (dv.eval (fm xA1) ?_);refine dv.here (R:=λv h'=>∃v',aM.panic v= .panic v'/\v'=v4/\h'=H0 n m) (en:=aZ) rfl (bM _) (λops i o ho hit=>za ho hit rfl rfl rfl) (λl hl=>by cases hl) ?_;exact ⟨_,rfl,rfl,rfl⟩)
 exact hc
theorem J9(x y:List UInt8):aI Tryz.prog 96 [.str x,.str y] (.int .i64 (nB x y)):=by
 intro n m G w vs hv R F;simp only[aC,aB] at hv;obtain ⟨_,_,rfl,rfl,_,_,rfl,rfl,rfl⟩:=hv;refine (uj x y w).mono ?_;rintro e w' ⟨rfl,rfl⟩;exact ⟨_,G,rfl,Trans.refl _ _ _,R,by simp[aB]⟩
theorem B8(x y:List UInt8):decide (nB x y<0)=Op.bytesLess x y:=by
 unfold nB;cases h:Op.bytesLess x y<;>cases h2:Op.bytesLess y x<;>simp
theorem B9(x y:List UInt8):decide (nB x y=0)=decide (x=y):=by
 unfold nB;rcases Batch.fo x y with h|h|h
 ·have hn:¬x=y:=λe=>by rw[e,Batch.bZ] at h;cases h
  simp[h,hn]
 ·subst h;simp[Batch.bZ]
 ·have hn:¬x=y:=λe=>by rw[e,Batch.bZ] at h;cases h
  have:=Batch.zM h;simp[h,hn,this]
theorem Ka(n:List UInt8)(st:Int)(l:List Vs)(nm:List UInt8):aI Tryz.prog 114 [.agg [.str n,.int .i64 st,.sl 8 (vss l) .any],.str nm] (.int .i64 (nB n nm)):=by
 refine f114.aE af (by simp[aF,aO,aU,o7]) rfl ?_;unfold LS zz;have cc:=J9 n nm;refine nA cc ?_;refine aG ?_;exact av.refl _
def pA(x:Bk × Nat):List AV:=[.str x.1.n,.int .i64 x.1.st,.sl 8 (vss x.1.l) (.own x.2)]
def fD(bt:List (Bk × Nat)):List AV:=bt.flatMap pA
def bV(bt:List (Bk × Nat))(k:Nat):AV:=if bt=[] then .sl 3 [] (.exact 0) else .tsl 3 k 0 bt.length none
theorem iG:∀bt:List (Bk × Nat),(fD bt).length=bt.length*3
 |[]=>rfl
 |a::bt=>by
  have:=iG bt;simp only[fD,Py,N6,List.length_cons] at*
  have:(pA a).length=3:=rfl;omega
theorem rC(bt:List (Bk × Nat))(i:Nat)(h:i<bt.length):fD bt=fD (bt.take i)++(pA (bt.getD i default)++fD (bt.drop (i+1))):=by
 have e:bt.getD i default=bt[i]:=by simp[List.getD,N0 h]
 unfold fD;rw[e];have e2:bt=bt.take i++bt[i]::bt.drop (i+1):=by rw[<-PX h,Po]
 conv=>lhs;rw[e2]
 rw[List.flatMap_append,Py]
theorem Ec(bt:List (Bk × Nat))(i:Nat)(h:i<bt.length):((fD bt).drop (i*3)).take 3=pA (bt.getD i default):=by
 have hl:(fD (bt.take i)).length=i*3:=by rw[iG,OJ,Pv aa]
 rw[rC bt i h,<-hl,QV];exact List.take_left' rfl
theorem Kb(h:H)(bt:List (Bk × Nat))(k:Nat)(nm:List UInt8)(hk:bt≠[]->h.objs k=some (.cells (fD bt)))(hl:bt.length<=1000000):
  bo Tryz.prog 113 [bV bt k,.str nm,.clo (.func 114) [] []] h (.tup [.int .i64 (jy ((bt.map Prod.fst).map Bk.n) nm),.bool (gh ((bt.map Prod.fst).map Bk.n) nm)]) h:=by
 refine aT.Bq f113 af ?_;unfold LR zz;by_cases hb:bt=[]
 ·subst hb;have hv:bV [] k= .sl 3 [] (.exact 0):=rfl;have hp:jy (([]:List (Bk × Nat)).map Prod.fst |>.map Bk.n) nm=0:=rfl;have ht:gh (([]:List (Bk × Nat)).map Prod.fst |>.map Bk.n) nm=false:=rfl;rw[hv,hp,ht];refine rf0 @N4.{0} ?_;refine Wp.cI [0,1,2,8] xA7 (λ_:Nat=>[(9,.int .i64 0),(10,.int .i64 0)]) (λ_=>h) (λ_=>True) (λj=>j) 0 trivial rfl ?_ ?_
  ·exact xSb
  intro _ _;have d:decide ((0:Int)<0)=false:=by decide
  refine rf0 (cj2 @N4.{0} d) ?_;refine Wp.ret ⟨trivial,_,rfl,?_,rfl⟩;exact av.refl _
 ·have ho:=hk hb;have hv:bV bt k= .tsl 3 k 0 bt.length none:=by unfold bV;rw[N7 hb]
  rw[hv];have hrl:=iG bt;have hcell:=λi hi=>Ec bt i hi;have hnl:((bt.map Prod.fst).map Bk.n).length=bt.length:=by simp
  have hng:∀i,i<bt.length->((bt.map Prod.fst).map Bk.n).getD i []=(bt.getD i default).1.n:=λi hi=>by
   simp[List.getD,N0 hi]
  generalize fD bt=cs at*
  have hbp:jy ((bt.map Prod.fst).map Bk.n) nm=gP ((bt.map Prod.fst).map Bk.n) nm bt.length 0 bt.length:=by unfold jy;rw[hnl]
  have hbt:gh ((bt.map Prod.fst).map Bk.n) nm=(decide (jy ((bt.map Prod.fst).map Bk.n) nm<bt.length)&&decide (((bt.map Prod.fst).map Bk.n).getD (jy ((bt.map Prod.fst).map Bk.n) nm) []=nm)):=by unfold gh;rw[hnl]
  rw[hbt];generalize (bt.map Prod.fst).map Bk.n=ns at*
  generalize jy ns nm=bp at*
  refine dG ?_;refine Wp.cI [0,1,2,8] xA7 (λj:Nat × Nat × Nat=>[(9,.int .i64 (j.2.1:Nat)),(10,.int .i64 (j.2.2:Nat))]) (λ_=>h) (λj=>j.2.2 - j.2.1<=j.1/\j.2.1<=j.2.2/\j.2.2<=bt.length/\gP ns nm j.1 j.2.1 j.2.2=bp) (λj=>j.1) (bt.length,0,bt.length) ⟨by simp,Og _,NY _,hbp.symm⟩ rfl ?_ ?_
  ·exact xSb
  rintro ⟨f,i,j⟩ ⟨a1,a2,a3,a4⟩;simp only at a1 a2 a3 a4;by_cases hc:i<j
  ·have d1:decide ((i:Int)<(j:Int))=true:=N3 aa;have e1:IntKind.i64.wrap ((i:Int)+(j:Int))=((i+j:Nat):Int):=by rw[IntWalk.i64_in _ aa];omega
   have e2:IntKind.u64.wrap ((i+j:Nat):Int)=((i+j:Nat):Int):=IntWalk.u64_in _ aa;have e3:((i+j:Nat):Int).fdiv (2^(min (Int.toNat 1) 64))=(((i+j)/2:Nat):Int):=by
    rw[show min (Int.toNat 1) 64=1 from rfl,Qu _ aa];omega
   have e4:IntKind.i64.wrap (((i+j)/2:Nat):Int)=(((i+j)/2:Nat):Int):=IntWalk.i64_in _ aa;have e5:¬(1:Int)<0:=by omega
   obtain ⟨f,rfl⟩:∃f',f=f'+1:=⟨f - 1,aa⟩;have c1:(i+j)/2<j:=by omega
   have c2:i<=(i+j)/2:=by omega
   have hcl:=hcell ((i+j)/2) aa;have hg:=hng ((i+j)/2) aa;simp only[gP,Of hc] at a4;generalize (i+j)/2=c at*
   have p1:(0:Int)<=(c:Int):=by omega
   have p2:(c:Int)<(bt.length:Int):=by omega
   have p3:c*3+3<=cs.length:=by omega
   unfold pA at hcl;have cc:=Ka (bt.getD c default).1.n (bt.getD c default).1.st (bt.getD c default).1.l nm;rw[hg] at a4;generalize bt.getD c default=bb at*
   have hlt:=B8 bb.1.n nm;generalize nB bb.1.n nm=r at*
   refine rf0 (aY d1 e1 e2 e3 e4 e5 wU p1 p2 p3 ho (cj2 hcl @NZ)) ?_;refine aw.pO (by simp only[go_sem,reduceIte,Nat.reduceEqDiff,Nat.reduceAdd,bx];try rfl) ar rfl rfl al (by simp only[go_sem,reduceIte,Nat.reduceEqDiff,List.map];exact ay.cons (av.agg (ay.cons (av.refl _) (ay.cons (av.refl _) (ay.cons av.cap ay.nil)))) (ay.cons (av.refl _) ay.nil)) cc ?_;cases hb2:Op.bytesLess bb.1.n nm with
   |true=>
    rw[hb2] at hlt a4;simp only[N9] at a4;refine aw.evF (xAd hlt) ?_;have e6:IntKind.i64.wrap ((c:Int)+1)=((c+1:Nat):Int):=by rw[IntWalk.i64_in _ aa];omega
    refine rf0 hlt ?_;refine ⟨(f,c+1,j),⟨by simp only;omega,by simp only;omega,a3,a4⟩,by simp only;omega,?_⟩;refine aL.of (aS ?_) (OLe.bK _) (λa ha=>ha) (NY _) (NY _);exact bY e6
   |false=>
    rw[hb2] at hlt a4;simp only[Oa,N5] at a4;refine aw.evF (xAd hlt) ?_;refine rf0 hlt ?_;refine ⟨(f,i,c),⟨by simp only;omega,c2,by simp only;omega,a4⟩,by simp only;omega,?_⟩;refine aL.of (aS ?_) (OLe.bK _) (λa ha=>ha) (NY _) (NY _);exact xSb
  ·obtain rfl:i=j:=by omega
   have hbi:bp=i:=by
    cases f with
    |zero=>exact a4.symm
    |succ f=>simp only[gP,N7 hc] at a4;exact a4.symm
   subst hbi;have d1:decide ((bp:Int)<(bp:Int))=false:=N1 aa;by_cases hlt:bp<bt.length
   ·have d2:decide ((bp:Int)<(bt.length:Int))=true:=N3 aa;have d3:decide (bp<bt.length)=true:=N3 hlt;have hcl:=hcell bp hlt;have hg:=hng bp hlt;have p1:(0:Int)<=(bp:Int):=by omega
    have p2:(bp:Int)<(bt.length:Int):=by omega
    have p3:bp*3+3<=cs.length:=by omega
    unfold pA at hcl;have cc:=Ka (bt.getD bp default).1.n (bt.getD bp default).1.st (bt.getD bp default).1.l nm;rw[hg];generalize bt.getD bp default=bb at*
    have hlt:=B9 bb.1.n nm;generalize nB bb.1.n nm=r at*
    refine rf0 (cj8 d1 d2 p1 p2 p3 ho hcl @NZ) ?_;refine aw.pO (by simp only[go_sem,reduceIte,Nat.reduceEqDiff,Nat.reduceAdd,bx];try rfl) ar rfl rfl al (by simp only[go_sem,reduceIte,Nat.reduceEqDiff,List.map];exact ay.cons (av.agg (ay.cons (av.refl _) (ay.cons (av.refl _) (ay.cons av.cap ay.nil)))) (ay.cons (av.refl _) ay.nil)) cc ?_;refine aw.evF (xAd hlt) ?_;refine rf0 hlt ?_;refine Wp.ret ⟨trivial,_,rfl,?_,rfl⟩;rw[d3,OP];exact av.refl _
   ·have d2:decide ((bp:Int)<(bt.length:Int))=false:=N1 aa;have d3:decide (bp<bt.length)=false:=N1 hlt;refine rf0 (cj2 d1 d2) ?_;refine Wp.ret ⟨trivial,_,rfl,?_,rfl⟩;rw[d3,O6];exact av.refl _
theorem yk(m:List Bk)(hl:m.length<=35184372088832)(hv:∀b∈m,b.l.length<=35184372088832):aI Tryz.prog 22 [bB m,bB m] (.bool true):=by
 refine f22.aE af (by simp[aF,bW]) rfl ?_;unfold c22 bB zz;have len:=eL m;have e0:decide (((m.length:Nat):Int)=((m.length:Nat):Int))=true:=N3 rfl;refine rn0 (cj3 @len e0 @OB) ?_;refine Wp.r5 [2,3] (by simp only[go_sem,reduceIte,Nat.reduceEqDiff,List.map,len];exact rfl) (λj:Nat=>[(5,.int .i64 j)]) (λj=>j<=m.length) (λj=>m.length - j) 0 (Og _) ?_ ?_
 ·exact xSb
 rintro j n hn hj;have hn':2<=n:=hn;have n0:¬(0=n):=by omega
 have n1:¬(1=n):=by omega
 have n0':¬(n=0):=by omega
 have n1':¬(n=1):=by omega
 have o0:¬(0=n+1):=by omega
 have o1:¬(1=n+1):=by omega
 have o2:¬(n=n+1):=by omega
 have o3:¬(n+1=n):=by omega
 by_cases hc:j<m.length
 ·have h2:(0:Int)<=(j:Int):=by omega
  have q1:decide ((j:Int)<(m.length:Int))=true:=N3 aa;have h3:(j:Int)<(m.length:Int):=by omega
  have e1:IntKind.i64.wrap ((j:Int)+1)=((j+1:Nat):Int):=by rw[IntWalk.i64_in _ aa];omega
  have gj:=λd=>ft m j d hc;have hlb:(m.getD j default).l.length<=35184372088832:=hv _ (by rw[Av.fT hc];exact O0 hc);generalize m.getD j default=v at*
  obtain ⟨nm,st,l⟩:=v;simp only at hlb;unfold ff at gj;have len2:=eK l;have ev:decide (((l.length:Nat):Int)=((l.length:Nat):Int))=true:=N3 rfl;refine rn0 (aY @q1 h2 h3 e1 n0 n1 n0' n1' o0 o1 o2 (cj8 o3 @NZ gj @len len2 ev @Ow @OB)) ?_;refine az.nil ⟨by simp[bw,aV,apart,aZ,n0,n1,n0',n1',o0,o1,o2,o3],?_⟩;refine rn0 (aY n0 n1 n0' n1' o0 o1 o2 o3 len2 ev e1 (cj4 @PC.{0} @QW.{0} @Ow @OB)) ?_;refine Wp.r5 [2,3,6,7] xA7 (λi:Nat=>[(5,.int .i64 j),(8,.int .i64 i)]) (λi=>i<=l.length) (λi=>l.length - i) 0 (Og _) ?_ ?_
  ·exact xSb
  rintro i k hk hi;have hk':n+1+1<=k:=hk;by_cases hci:i<l.length
  ·have i2:(0:Int)<=(i:Int):=by omega
   have i1:decide ((i:Int)<(l.length:Int))=true:=N3 aa;have i3:(i:Int)<(l.length:Int):=by omega
   have i4:IntKind.i64.wrap ((i:Int)+1)=((i+1:Nat):Int):=by rw[IntWalk.i64_in _ aa];omega
   have gi:=λd=>iC l i d hci;generalize l.getD i default=v at*
   unfold cU at gi;refine rn0 (aY i1 i2 i3 i4 n0 n1 n0' n1' o0 o1 o2 (gv o3 @NZ gi len2 @PC.{0} @QW.{0} @Ow @O7 @Ol.{0,0} @OB)) ?_;refine ⟨i+1,k,by show n+1+1<=k;omega,aa,aa,?_⟩;refine aL.of (aS ?_) (λa o ho=>⟨o,ho,cy.refl _⟩) (λ_ h=>h) (NY _) (NY _);exact bY i4
  ·have hi2:i=l.length:=by omega
   subst hi2;have i1:decide ((l.length:Int)<(l.length:Int))=false:=N1 aa;refine rn0 (gw i1 e1 n0 n1 n0' n1' o0 o1 o2 o3 len2) ?_;refine ⟨j+1,k,by show 2<=k;omega,aa,aa,?_⟩;refine aL.of (aS ?_) (λa o ho=>⟨o,?_,cy.refl _⟩) (λ_ h=>h) (NY _) (NY _)
   ·exact bY e1
   ·simp only[upd,aA] at ho |-;by_cases a1:a=1
    ·subst a1;simpa [o1,n1,n0',n1'] using ho
    ·by_cases a0:a=0
     ·subst a0;simpa [o0,n0,n0'] using ho
     ·rw[N7 a1,N7 a0] at ho;cases ho
 ·have hj2:j=m.length:=by omega
  subst hj2;have q1:decide ((m.length:Int)<(m.length:Int))=false:=N1 aa;refine rn0 (cj2 @q1 @len) ?_;refine aG ?_;exact av.refl _
def blX:AC->AC
 | .block _ c=>c
 |c=>c
def thA:AC->AC
 | .cond _ a _=>a
 |c=>c
def elA:AC->AC
 | .cond _ _ b=>b
 |c=>c
def gI:AC:=tlA (tlA (tlA c64))
def jq:AC:=blX (tlA gI)
def nM:AC:=thA (tlA jq)
def el1:AC:=elA (tlA jq)
def mK:AC:=thA (tlA el1)
def el2:AC:=elA (tlA el1)
def mL:AC:=thA (tlA el2)
def elD:AC:=elA (tlA el2)
theorem Je:c64= .seq (hdA c64) (.seq (hdA (tlA c64)) (.seq (hdA (tlA (tlA c64))) gI)):=rfl
theorem AL:gI= .seq (hdA gI) (.block 0 (.seq (hdA jq) (.cond (.t 28) nM (.seq (hdA el1) (.cond (.t 54) mK (.seq (hdA el2) (.cond (.t 93) mL elD))))))):=rfl
structure nC(L:List Pr)(h:H)(bt:List (Bk × Nat))(q:List Pc)(J:Nat):Prop where
 row:∃k,h.objs 3=some (.cells [bV bt k,.mp 2])/\(bt≠[]->5<=k/\k<h.n/\∃cs,h.objs k=some (.cells cs)/\ay cs (fD bt))
 mp:h.objs 2=some (.map (gH q))
 o0:h.objs 0=some (.cells [.sl 2 (prs L) .any])
 o1:h.objs 1=some (.cells [.sl 3 [] (.exact 0)])
 o4:h.objs 4=some (.cells [.ptr 3 0])
 hn:5<=h.n
 tk:∀x∈bt,x.2∈h.toks
 tm:∀x∈bt,x.2<h.m
 nd:(bt.map Prod.snd).Nodup
 len:bt.length<=J
 vers:∀x∈bt,x.1.l.length<=J
 pcs:∀p∈q,0<=p.n/\p.n<=J/\p.s.length<=J*140737488355328
structure Mid(L:List Pr)(F:Nat->Option Av.Obj)(n:Nat)(toks:List Nat)(m:Nat)(bt:List (Bk × Nat))(q:List Pc)(J k:Nat)(p:Pr)(key:Ky):Prop where
 hk:bt≠[]->5<=k/\k<n
 hn:5<=n
 row:F 3=some (.cells [bV bt k,.mp 2])
 cs:bt≠[]->F k=some (.cells (fD bt))
 mp:F 2=some (.map (gH q))
 o0:F 0=some (.cells [.sl 2 (prs L) .any])
 o1:F 1=some (.cells [.sl 3 [] (.exact 0)])
 o4:F 4=some (.cells [.ptr 3 0])
 P:F n=some (.cells [.str p.k,.str p.v])
 K:F (n+1)=some (.cells [.int .i64 key.k,.str key.b,.str key.o,.sl 1 (ints key.ns) .any])
 tk:∀x∈bt,x.2∈toks
 tm:∀x∈bt,x.2<m
 nd:(bt.map Prod.snd).Nodup
 len:bt.length<=J
 vers:∀x∈bt,x.1.l.length<=J
 pcs:∀p∈q,0<=p.n/\p.n<=J/\p.s.length<=J*140737488355328
 hJ:J<=5000
def QA(L:List Pr)(J:Nat)(R:Option SS):aM->St->Prop:=λe s'=>match R with
 |none=>e= .panic v4/\s'.h.objs 1=some (.cells [.sl 3 [] (.exact 0)])
 |some S=>e= .normal/\∃bt',bt'.map Prod.fst=S.1/\nC L s'.h bt' S.2 (J+1)
theorem Ed(bt:List (Bk × Nat))(x:Bk × Nat):fD (bt++[x])=fD bt++pA x:=by simp[fD]
theorem ay.Np:∀(A:List AV){a b:List AV},ay a b->ay (A++a) (A++b)
 |[],_,_,h=>h
 |x::A,_,_,h=>ay.cons (av.refl _) (ay.Np A h)
theorem vW{q:List Pc}{J:Nat}(h:∀p∈q,0<=p.n/\p.n<=J/\p.s.length<=J*140737488355328):∀p∈q,0<=p.n/\p.n<=((J+1:Nat):Int)/\p.s.length<=(J+1)*140737488355328:=λp hp=>by
 obtain ⟨a,b,c⟩:=h p hp;exact ⟨a,aa,Oz c (PB _ (P9 J))⟩
set_option maxHeartbeats 2000000 in
theorem K3{L:List Pr}{F:Nat->Option Av.Obj}{n:Nat}{toks:List Nat}{m:Nat}{bt:List (Bk × Nat)}{q:List Pc}{J k:Nat}{p:Pr}{key:Ky}(M:Mid L F n toks m bt q J k p key)(hk1:key.k=1):
  Wp Tryz.prog 161 nM ⟨tm [(0,.ptr 3 0),(3,.ptr n 0),(4,.ptr (n+1) 0)],⟨F,n+2,toks,m⟩⟩ (QA L J (lU (bt.map Prod.fst,q) key p.v)):=by
 have hR:lU (bt.map Prod.fst,q) key p.v=if om p.v=true then some (bt.map Prod.fst++[⟨key.b,stV p.v,[]⟩],q) else none:=by
  unfold lU;rw[Of hk1]
 rw[hR];have cut:nM= .seq (hdA nM) (.seq (hdA (tlA nM)) (tlA (tlA nM))):=rfl;rw[cut];generalize hT:tlA (tlA nM)=T;unfold nM jq gI c64 zz;simp only[hdA,tlA,blX,thA];have cs:=xW p.v;have fP:=M.P;have fK:=M.K;have f3:=M.row;have hst:stR p.v=if om p.v=true then 0 else 4:=rfl
 refine Wp.bg (xAd fP) ?_;refine aw.bO xA2 xAb (cs) ?_;refine aw.evF xAc ?_;refine aw.nil ?_;cases hb:om p.v with
 |false=>
  rw[hb] at hst;rw[N7 af] at hst |-;rw[hst];refine Wp.eG xAc xAb iK (trivial) ?_;exact ⟨rfl,M.o1⟩
 |true=>
  rw[hb] at hst;rw[Of rfl] at hst |-;rw[hst];refine Wp.bg xAc ?_;refine aw.bO xA2 xAb (mJ) ?_;refine aw.nil ?_;rw[<-hT];unfold nM jq gI c64 zz;simp only[hdA,tlA,blX,thA];have hn:=M.hn;refine Wp.le (aL.tok _ _) ?_;simp only;have n3:¬(3=n+2):=by omega
  have n4:¬(4=n+2):=by omega
  have n0:¬(0=n+2):=by omega
  have n1:¬(1=n+2):=by omega
  have n2:¬(2=n+2):=by omega
  have nn:¬(n+1=n+2):=by omega
  by_cases ho:bt=[]
  ·subst ho;have hv:bV [] k= .sl 3 [] (.exact 0):=rfl;rw[hv] at f3;refine Wp.reg ?_;refine az.part 11 (xAe (cj4 f3 fK n3 nn)) ?_;simp only[Pe,Pw,PZ];refine az.opT xA2 (by simp only[jt,go_sem,reduceIte,Nat.reduceEqDiff,Nat.reduceAdd,bx,List.all_cons,List.all_nil,List.length_cons,List.length_nil,Nat.reduceMul,Nat.reduceLeDiff,Nat.reduceLT,Qw,Oe,N9,Ow,O7];exact rfl) rfl ?_;refine az.evR (xAe (cj4 f3 n3 @N2.{0} @N4.{0})) ?_;refine az.nil ⟨by simp[bw,aV,apart,aZ,n3],?_⟩;have m3:¬(n+2=3):=by omega
   refine ⟨rfl,[(⟨key.b,stV p.v,[]⟩,m)],rfl,⟨n+2,by simp[upd,bV],λ_=>⟨aa,by simp only;omega,_,by simp only[upd,m3,N5,N9];exact rfl,?_⟩⟩,by simp only[upd,n2,N5,Nat.reduceEqDiff,reduceIte];exact M.mp,by simp only[upd,n0,N5,Nat.reduceEqDiff,reduceIte];exact M.o0,by simp only[upd,n1,N5,Nat.reduceEqDiff,reduceIte];exact M.o1,by simp only[upd,n4,N5,Nat.reduceEqDiff,reduceIte];exact M.o4,by simp only;omega,by simp,by simp,by simp,by simp,by simp,vW M.pcs⟩;exact ay.cons (av.refl _) (ay.cons (av.refl _) (ay.cons (av.dF rfl) ay.nil))
  ·have hv:bV bt k= .tsl 3 k 0 bt.length none:=by unfold bV;rw[N7 ho]
   rw[hv] at f3;obtain ⟨y1,y2⟩:=M.hk ho;have fk:=M.cs ho;have x3:¬(3=k):=by omega
   have x7:¬(k=n+2):=by omega
   have x8:¬(n+1=k):=by omega
   have hcl:=iG bt;have hlen:=M.len;have hJ:=M.hJ;have r1:(bt.length+1)*48<=140737488355328:=by omega
   have r2:bt.length+1<4611686018427387904:=by omega
   refine Wp.reg ?_;refine az.part 11 (xAe (cj4 f3 fK n3 nn)) ?_;simp only[Pe,Pw,PZ];refine az.opK xA2 (by simp only[lS,go_sem,reduceIte,Nat.reduceEqDiff,Nat.reduceAdd,bx,List.all_cons,List.all_nil,List.length_cons,List.length_nil,Nat.reduceMul,Nat.reduceLeDiff,Nat.reduceLT,x7,fk,hcl,r1,r2,Qw,Oe,N9,Ow,O7];exact rfl) rfl ?_;refine az.evR (xAe (cj5 f3 n3 x3 @N2.{0} @N4.{0})) ?_;refine az.nil ⟨by simp[bw,aV,apart,aZ,n3,x3],?_⟩;have m3:¬(n+2=3):=by omega
   have k0:¬(0=k):=by omega
   have k1:¬(1=k):=by omega
   have k2:¬(2=k):=by omega
   have k4:¬(4=k):=by omega
   refine ⟨rfl,bt++[(⟨key.b,stV p.v,[]⟩,m)],by simp,⟨n+2,by simp[upd,bV],λ_=>⟨aa,by simp only;omega,_,by simp only[upd,m3,N5,N9];exact rfl,?_⟩⟩,by simp only[upd,n2,k2,N5,Nat.reduceEqDiff,reduceIte];exact M.mp,by simp only[upd,n0,k0,N5,Nat.reduceEqDiff,reduceIte];exact M.o0,by simp only[upd,n1,k1,N5,Nat.reduceEqDiff,reduceIte];exact M.o1,by simp only[upd,n4,k4,N5,Nat.reduceEqDiff,reduceIte];exact M.o4,by simp only;omega,?_,?_,?_,by simp;omega,?_,vW M.pcs⟩
   ·rw[Ed];exact ay.Np _ (ay.cons (av.refl _) (ay.cons (av.refl _) (ay.cons (av.dF rfl) ay.nil)))
   ·intro x hx;rcases OM.1 hx with hx|hx
    ·exact List.mem_cons_of_mem _ (M.tk x hx)
    ·simp only[Oc] at hx;subst hx;exact Qm
   ·intro x hx;rcases OM.1 hx with hx|hx
    ·have:=M.tm x hx;simp only;omega
    ·simp only[Oc] at hx;subst hx;exact OD _
   ·rw[O3];refine List.nodup_append.2 ⟨M.nd,by simp,λa ha b hb=>?_⟩;simp only[Oy,OE,Oc] at hb;subst hb;obtain ⟨x,hx,rfl⟩:=Oo.1 ha;have:=M.tm x hx;omega
   ·intro x hx;rcases OM.1 hx with hx|hx
    ·have:=M.vers x hx;omega
    ·simp only[Oc] at hx;subst hx;simp
end Go.Proofs.YtjnoobmaedgooaaGreat.Arch
end
