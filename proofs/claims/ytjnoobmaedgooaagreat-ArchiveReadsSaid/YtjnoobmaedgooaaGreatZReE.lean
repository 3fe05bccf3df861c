/- Parts of a proof: a layer of abstract values over the model, the functions' walks, plain laws. -/
import Derived.Test.YtjnoobmaedgooaaGreatZReD
set_option linter.unusedSimpArgs false
set_option linter.unusedVariables false
section
set_option maxRecDepth 100000
namespace Go.Proofs.YtjnoobmaedgooaaGreat.Arch
open Go Go.Av Go.Proofs Go.Proofs.YtjnoobmaedgooaaGreat.C Go.Proofs.YtjnoobmaedgooaaGreat.Desk Go.Proofs.YtjnoobmaedgooaaGreat.Batch
theorem Ir(k:Int):aI Tryz.prog 164 [.int .i64 k] (.int .i64 (eB k)):=by
 rcases kinds k with rfl|rfl|rfl|rfl|rfl|rfl|⟨h1,h2,h3,h4,h5,h6⟩
 ·refine f164.aF ah rfl rfl ?_;unfold xe zz;have d1:decide ((1:Int)<1)=false:=rfl;have d2:decide ((6:Int)<1)=false:=rfl;have w1:IntKind.i64.wrap (1 - 1)=0:=rfl;have t1:Int.toNat 0=0:=rfl;have t2:(0:Int)<=0:=by decide
  have t3:(0:Int)<((6:Nat):Int):=by decide
  refine rf0 (bf d1 d2 w1 t1 t2 t3 @N8.{0} @Oa.{0} @Ol @OP.{0} @Ph.{0} @Oo) ?_;refine aG ?_;exact ay.of_eq rfl
 ·refine f164.aF ah rfl rfl ?_;unfold xe zz;have d1:decide ((2:Int)<1)=false:=rfl;have d2:decide ((6:Int)<2)=false:=rfl;have w1:IntKind.i64.wrap (2 - 1)=1:=rfl;have t1:Int.toNat 1=1:=rfl;have t2:(0:Int)<=1:=by decide
  have t3:(1:Int)<((6:Nat):Int):=by decide
  refine rf0 (bf d1 d2 w1 t1 t2 t3 @N8.{0} @Oa.{0} @Ol @OP.{0} @Ph.{0} @Oo) ?_;refine aG ?_;exact ay.of_eq rfl
 ·refine f164.aF ah rfl rfl ?_;unfold xe zz;have d1:decide ((3:Int)<1)=false:=rfl;have d2:decide ((6:Int)<3)=false:=rfl;have w1:IntKind.i64.wrap (3 - 1)=2:=rfl;have t1:Int.toNat 2=2:=rfl;have t2:(0:Int)<=2:=by decide
  have t3:(2:Int)<((6:Nat):Int):=by decide
  refine rf0 (bf d1 d2 w1 t1 t2 t3 @N8.{0} @Oa.{0} @Ol @OP.{0} @Ph.{0} @Oo) ?_;refine aG ?_;exact ay.of_eq rfl
 ·refine f164.aF ah rfl rfl ?_;unfold xe zz;have d1:decide ((4:Int)<1)=false:=rfl;have d2:decide ((6:Int)<4)=false:=rfl;have w1:IntKind.i64.wrap (4 - 1)=3:=rfl;have t1:Int.toNat 3=3:=rfl;have t2:(0:Int)<=3:=by decide
  have t3:(3:Int)<((6:Nat):Int):=by decide
  refine rf0 (bf d1 d2 w1 t1 t2 t3 @N8.{0} @Oa.{0} @Ol @OP.{0} @Ph.{0} @Oo) ?_;refine aG ?_;exact ay.of_eq rfl
 ·refine f164.aF ah rfl rfl ?_;unfold xe zz;have d1:decide ((5:Int)<1)=false:=rfl;have d2:decide ((6:Int)<5)=false:=rfl;have w1:IntKind.i64.wrap (5 - 1)=4:=rfl;have t1:Int.toNat 4=4:=rfl;have t2:(0:Int)<=4:=by decide
  have t3:(4:Int)<((6:Nat):Int):=by decide
  refine rf0 (bf d1 d2 w1 t1 t2 t3 @N8.{0} @Oa.{0} @Ol @OP.{0} @Ph.{0} @Oo) ?_;refine aG ?_;exact ay.of_eq rfl
 ·refine f164.aF ah rfl rfl ?_;unfold xe zz;have d1:decide ((6:Int)<1)=false:=rfl;have d2:decide ((6:Int)<6)=false:=rfl;have w1:IntKind.i64.wrap (6 - 1)=5:=rfl;have t1:Int.toNat 5=5:=rfl;have t2:(0:Int)<=5:=by decide
  have t3:(5:Int)<((6:Nat):Int):=by decide
  refine rf0 (bf d1 d2 w1 t1 t2 t3 @N8.{0} @Oa.{0} @Ol @OP.{0} @Ph.{0} @Oo) ?_;refine aG ?_;exact ay.of_eq rfl
 have hn:eB k= -1:=by simp[eB,h1,h2,h3,h4,h5,h6]
 rw[hn];refine f164.aF ah rfl rfl ?_;unfold xe zz;cases d1:decide (k<1) with
 |true=>
  refine rf0 d1 ?_;refine aG ?_;exact ay.refl _
 |false=>
  have d2:decide (6<k)=true:=N9 (by have:=ON d1;omega);refine rf0 (cj2 d1 d2) ?_;refine aG ?_;exact ay.refl _
theorem Ad(x:Ky)(m:Int)(hl:x.ns.length<=1000000):aI Tryz.prog 165 [di x,.int .i64 m] (.bool (mo x.ns&&decide (((x.ns.length:Nat):Int)<=m))):=by
 refine f165.aF ah (by simp[aJ,eM,aW]) rfl ?_;unfold Ma zz;obtain ⟨k,b,o,ns⟩:=x;have hE:di ⟨k,b,o,ns⟩= .agg [.int .i64 k,.str b,.str o,.sl 1 (ints ns) .any]:=rfl;have len:=dM ns;simp only at hl;rw[hE];refine rf0 @len ?_;refine Wp.dJ [1,2] xA6 (λj:Nat=>[(5,.int .i64 (j:Nat))]) (λj=>j<=ns.length/\∀i,i<j->0<=ns.getD i 0) (λj=>ns.length - j) 0 ⟨Ot _,λi h=>absurd h (Nat.not_lt_zero _)⟩ ?_ ?_
 ·exact xSb
 rintro j ⟨hj,hall⟩;by_cases hc:j<ns.length
 ·obtain ⟨g1,h2,h3,e1⟩:=ixF (j:=j) (n:=ns.length) ae ae;have hat:=iS ns j .any hc;by_cases hn:ns.getD j 0<0
  ·have d1:=N9 hn;refine rf0 (cj7 g1 h2 h3 @len hat @N7 d1) ?_;refine aG ?_;exact ay.of_eq (by simp[sD hc hn])
  ·have d1:=N6 hn;refine rf0 (cj7 g1 h2 h3 @len hat @N7 d1) ?_;refine ⟨j+1,⟨ae,λi hi=>?_⟩,ae,?_⟩
   ·by_cases e:i=j
    ·subst e;omega
    ·exact hall i ae
   exact xSu
 ·have hj2:j=ns.length:=by omega
  subst hj2;have g1:=ixE (ns.length);have hok:=uC hall;refine rf0 (cj2 g1 @len) ?_;refine aG ?_;exact ay.of_eq (by simp[hok])
theorem Ae(l:List Pt)(hok:∀p∈l,p.ok)(hl:(cY l).length<=128):aI Tryz.prog 166 [.sl 3 (pts l) .any] (.str (cY l)):=by
 have pu:aJ (pts l)=true:=Av.bG (λa=>rfl) _;refine f166.aF ah (by simp[aJ,aW,bA,pu]) rfl ?_;unfold Mb zz;have c1:=DP l hok hl;refine tA c1 ?_;refine aG ?_;exact ay.refl _
theorem F6(x:Ky)(hx:x.ok):aI Tryz.prog 167 [di x] (.sl 3 (pts (eX x)) .any):=by
 have pu:aJ (pts (eX x))=true:=Av.bG (λa=>rfl) _;refine f167.aF ah (by simp[aJ,eM]) (by simp[aW,bA,pu]) ?_;unfold Mc zz;have hk:=hx.k;have hl:=uE hk;obtain ⟨b1,b2,b3⟩:=fx hx.b;have hn:=hx.n;have hn3:=sC x.k;rw[sE];unfold lj;clear b3 hx pu;obtain ⟨k,b,o,ns⟩:=x;simp only at*
 have hE:di ⟨k,b,o,ns⟩= .agg [.int .i64 k,.str b,.str o,.sl 1 (ints ns) .any]:=rfl;have len:=dM ns;rw[hE];have w1:IntKind.i64.wrap (k - 1)=k - 1:=IntWalk.i64_in _ ae;have k0:(0:Int)<=k:=by omega
 have k1:(0:Int)<=k - 1:=by omega
 have k2:k - 1<=k:=by omega
 have k3:k<=((6:Nat):Int):=hk.2;have k4:((k.toNat:Nat):Int)=k:=Int.toNat_of_nonneg k0;have db:decide (b=[])=false:=N6 (by rintro rfl;simp at b1);cases dq:decide (o=[]) with
 |true=>
  have ho:=Ox dq;subst ho;refine rf0 (bf w1 k0 k1 k2 k3 k4 hl @Ou.{0,0} @Oz.{0,0} @N8.{0} @Oa.{0} (cj9 @Oo @Ol db dq @OB @Oy @O2 @Oj.{0} @OE)) ?_;obtain ⟨H,hH⟩:∃H,H=[txt [du k],txt b]:=⟨_,rfl⟩;have hP:pts H=[.agg [.int .i64 1,.int .i64 0,.str [du k]],.agg [.int .i64 1,.int .i64 0,.str b]]:=by rw[hH];rfl
  have hHl:H.length<=3:=by rw[hH];simp
  have hd:(txt [du k]::txt b::(if ([]:List UInt8)=[] then [] else [txt []]))=H:=by rw[hH];simp
  rw[hd];refine Wp.le (s':=⟨tm [(1,.ptr 0 0),(3,.sl 3 (pts H) (.own 0)),(4,.int .i64 0)],⟨upd aB 0 (some (.cells [.int .i64 k,.str b,.str [],.sl 1 (ints ns) .any])),1,[0],1⟩⟩) (aM.of (aY ?_) (λa u hu=>⟨u,hu,cm.refl _⟩) (λa ha=>ha) (N4 _) (N4 _)) ?_
  ·rw[hP];exact xSb
  clear hP hd;refine Wp.gy [1] xA7 (λ(j:Nat) tk=>[(3,.sl 3 (pts (H++(ns.take j).map (bY k))) (.own tk)),(4,.int .i64 (j:Nat))]) (λj=>j<=ns.length) (λj=>ns.length - j) 0 0 (Ot _) rfl ?_ ?_
  ·exact cM (cj3 @O9.{0} @OQ.{0,0} @OR.{0})
  rintro j tk n m hn2 hj;have hn2:1<=n:=hn2;have n0:¬(0=n):=by omega
  have n1:¬(n=0):=by omega
  have lp:(pts (H++(ns.take j).map (bY k))).length=H.length+j:=by rw[cE];simp;omega
  by_cases hc:j<ns.length
  ·obtain ⟨g1,h2,h3,e1⟩:=ixF (j:=j) (n:=ns.length) ae ae;have hat:=iS ns j .any hc;have hsn:=jH k ns j hc;have e6:(H.length+j+1)*32<=140737488355328:=by omega
   have e7:H.length+j+1<4611686018427387904:=by omega
   cases d2:decide (k=2) with
   |true=>
    have hnp:bY k (ns.getD j 0)=⟨3,ns.getD j 0,[]⟩:=by unfold bY;rw[Oi (Ox d2)]
    refine rf0 (bf g1 h2 h3 @len hat n0 n1 d2 @N7 lp e6 (cj7 e7 @N8.{0} @Oa.{0} @Oo @Oj.{0} @O2 @Ol)) ?_;refine ⟨j+1,m,n+1,m+1,by show 1<=n+1;omega,ae,ae,?_⟩;refine aM.of (aY ?_) (λa u hu=>?_) (λa ha=>ha) (N4 _) (N4 _)
    ·simp only[aQ,go_sem,reduceIte,Nat.reduceEqDiff,Nat.reduceAdd,bx,e1];and_intros<;>first|exact trivial|exact ay.refl _|exact ay.any _|exact ay.of_eq (by rw[hsn,<-OX,fm,hnp];rfl)|(refine ay.int ?_;omega)
    ·refine ⟨u,?_,cm.refl _⟩;simp only[upd,aB] at hu |-;by_cases a1:a=n
     ·subst a1;simp[n1] at hu
     ·simpa [a1] using hu
   |false=>
    have hnp:bY k (ns.getD j 0)=⟨2,ns.getD j 0,[]⟩:=by unfold bY;rw[Ob (ON d2)]
    refine rf0 (bf g1 h2 h3 @len hat n0 n1 d2 @N7 lp e6 (cj7 e7 @N8.{0} @Oa.{0} @Oo @Oj.{0} @O2 @Ol)) ?_;refine ⟨j+1,m,n+1,m+1,by show 1<=n+1;omega,ae,ae,?_⟩;refine aM.of (aY ?_) (λa u hu=>?_) (λa ha=>ha) (N4 _) (N4 _)
    ·simp only[aQ,go_sem,reduceIte,Nat.reduceEqDiff,Nat.reduceAdd,bx,e1];and_intros<;>first|exact trivial|exact ay.refl _|exact ay.any _|exact ay.of_eq (by rw[hsn,<-OX,fm,hnp];rfl)|(refine ay.int ?_;omega)
    ·refine ⟨u,?_,cm.refl _⟩;simp only[upd,aB] at hu |-;by_cases a1:a=n
     ·subst a1;simp[n1] at hu
     ·simpa [a1] using hu
  ·have hj2:j=ns.length:=by omega
   subst hj2;have g1:=ixE (ns.length);rw[OG];refine rf0 (cj4 g1 @len n0 n1) ?_;refine aG ?_;exact ay.cap
 |false=>
  refine rf0 (bf w1 k0 k1 k2 k3 k4 hl @Ou.{0,0} @Oz.{0,0} @N8.{0} @Oa.{0} (cj9 @Oo @Ol db dq @OB @Oy @O2 @Oj.{0} @OE)) ?_;obtain ⟨H,hH⟩:∃H,H=[txt [du k],txt b,txt o]:=⟨_,rfl⟩;have hP:pts H=[.agg [.int .i64 1,.int .i64 0,.str [du k]],.agg [.int .i64 1,.int .i64 0,.str b],.agg [.int .i64 1,.int .i64 0,.str o]]:=by rw[hH];rfl
  have hHl:H.length<=3:=by rw[hH];simp
  have hd:(txt [du k]::txt b::(if o=[] then [] else [txt o]))=H:=by rw[hH];simp[ON dq]
  rw[hd];refine Wp.le (s':=⟨tm [(1,.ptr 0 0),(3,.sl 3 (pts H) (.own 1)),(4,.int .i64 0)],⟨upd aB 0 (some (.cells [.int .i64 k,.str b,.str o,.sl 1 (ints ns) .any])),1,[1],2⟩⟩) (aM.of (aY ?_) (λa u hu=>⟨u,hu,cm.refl _⟩) (λa ha=>ha) (N4 _) (N4 _)) ?_
  ·rw[hP];exact xSb
  clear hP hd;refine Wp.gy [1] xA7 (λ(j:Nat) tk=>[(3,.sl 3 (pts (H++(ns.take j).map (bY k))) (.own tk)),(4,.int .i64 (j:Nat))]) (λj=>j<=ns.length) (λj=>ns.length - j) 0 1 (Ot _) rfl ?_ ?_
  ·exact cM (cj3 @O9.{0} @OQ.{0,0} @OR.{0})
  rintro j tk n m hn2 hj;have hn2:1<=n:=hn2;have n0:¬(0=n):=by omega
  have n1:¬(n=0):=by omega
  have lp:(pts (H++(ns.take j).map (bY k))).length=H.length+j:=by rw[cE];simp;omega
  by_cases hc:j<ns.length
  ·obtain ⟨g1,h2,h3,e1⟩:=ixF (j:=j) (n:=ns.length) ae ae;have hat:=iS ns j .any hc;have hsn:=jH k ns j hc;have e6:(H.length+j+1)*32<=140737488355328:=by omega
   have e7:H.length+j+1<4611686018427387904:=by omega
   cases d2:decide (k=2) with
   |true=>
    have hnp:bY k (ns.getD j 0)=⟨3,ns.getD j 0,[]⟩:=by unfold bY;rw[Oi (Ox d2)]
    refine rf0 (bf g1 h2 h3 @len hat n0 n1 d2 @N7 lp e6 (cj7 e7 @N8.{0} @Oa.{0} @Oo @Oj.{0} @O2 @Ol)) ?_;refine ⟨j+1,m,n+1,m+1,by show 1<=n+1;omega,ae,ae,?_⟩;refine aM.of (aY ?_) (λa u hu=>?_) (λa ha=>ha) (N4 _) (N4 _)
    ·simp only[aQ,go_sem,reduceIte,Nat.reduceEqDiff,Nat.reduceAdd,bx,e1];and_intros<;>first|exact trivial|exact ay.refl _|exact ay.any _|exact ay.of_eq (by rw[hsn,<-OX,fm,hnp];rfl)|(refine ay.int ?_;omega)
    ·refine ⟨u,?_,cm.refl _⟩;simp only[upd,aB] at hu |-;by_cases a1:a=n
     ·subst a1;simp[n1] at hu
     ·simpa [a1] using hu
   |false=>
    have hnp:bY k (ns.getD j 0)=⟨2,ns.getD j 0,[]⟩:=by unfold bY;rw[Ob (ON d2)]
    refine rf0 (bf g1 h2 h3 @len hat n0 n1 d2 @N7 lp e6 (cj7 e7 @N8.{0} @Oa.{0} @Oo @Oj.{0} @O2 @Ol)) ?_;refine ⟨j+1,m,n+1,m+1,by show 1<=n+1;omega,ae,ae,?_⟩;refine aM.of (aY ?_) (λa u hu=>?_) (λa ha=>ha) (N4 _) (N4 _)
    ·simp only[aQ,go_sem,reduceIte,Nat.reduceEqDiff,Nat.reduceAdd,bx,e1];and_intros<;>first|exact trivial|exact ay.refl _|exact ay.any _|exact ay.of_eq (by rw[hsn,<-OX,fm,hnp];rfl)|(refine ay.int ?_;omega)
    ·refine ⟨u,?_,cm.refl _⟩;simp only[upd,aB] at hu |-;by_cases a1:a=n
     ·subst a1;simp[n1] at hu
     ·simpa [a1] using hu
  ·have hj2:j=ns.length:=by omega
   subst hj2;have g1:=ixE (ns.length);rw[OG];refine rf0 (cj4 g1 @len n0 n1) ?_;refine aG ?_;exact ay.cap
theorem F7(x:Ky)(hf:x.fit):aI Tryz.prog 116 [di x] (.tup [.str (dB x),.int .i64 (gr x)]):=by
 refine f116.aF ah (by simp[aJ,eM]) rfl ?_;unfold LP zz;have c1:=Ad x (eB x.k) hf.1;have c2:=Ir x.k;have c3:=uz x.b;have c4:=ux x.o;have len:=dM x.ns;have hE:di x= .agg [.int .i64 x.k,.str x.b,.str x.o,.sl 1 (ints x.ns) .any]:=rfl;have hok:=λh=>F6 x (pI hf h);have hok2:=λh=>Ae (eX x) (ji (pI hf h)) (by have:=oS (pI hf h);unfold cU at this;omega);have hS:dB x=if gr x=0 then cU x else []:=rfl
 rw[hE] at c1 hok |-;cases ha:iJ x with
 |false=>
  have hk:gr x=2:=by unfold gr;rw[ha];rfl
  rw[hS,hk,Ob aq];cases d0:decide (eB x.k<0) with
  |true=>
   refine rn1 (cj2 @len d0) c2 ?_;refine aG ?_;exact ay.refl _
  |false=>
  cases hn:(mo x.ns&&decide (((x.ns.length:Nat):Int)<=eB x.k)) with
  |false=>
   rw[hn] at c1;refine rn2 (cj3 @len d0 @OB) c2 c1 ?_;refine aG ?_;exact ay.refl _
  |true=>
   rw[hn] at c1;cases d1:decide (((x.ns.length:Nat):Int)=eB x.k) with
   |false=>
    refine rn2 (cj5 @len d0 d1 @Oy @OB) c2 c1 ?_;refine aG ?_;exact ay.refl _
   |true=>
    simp only[Oh] at hn;unfold iJ at ha;rw[hn.1,d1] at ha;simp only[PG,OM,Bool.or_eq_false_iff,Bool.not_eq_false'] at ha;obtain ⟨d2,d3⟩:=ha;refine rn2 (cj7 @len d0 d1 d2 d3 @Oy @OB) c2 c1 ?_;refine aG ?_;exact ay.refl _
 |true=>
  have ha':=ha;unfold iJ at ha';simp only[Oh,OZ,Qv] at ha';obtain ⟨⟨a1,d1⟩,a3⟩:=ha';have a4:=Ox d1;have d0:decide (eB x.k<0)=false:=N6 ae;rw[a1,N9 (show ((x.ns.length:Nat):Int)<=eB x.k by omega)] at c1;have hk:gr x=if bW x.b=0 then (if x.k=1 then 0 else cf x.o) else 15:=by unfold gr;rw[ha];rfl
  have e0:decide ((0:Int)=0)=true:=rfl;have e15:decide ((15:Int)=0)=false:=rfl;cases d2:decide (x.k=1) with
  |true=>
   have d3:decide (x.o=[])=true:=by
    rcases a3 with h|h
    ·rw[d2] at h;cases h
    ·exact h
   rw[Oi (Ox d2)] at hk;rcases nT x.b with hb|hb
   ·rw[hb] at c3;rw[hb,Oi rfl] at hk;have c5:=hok hk;have c6:=hok2 hk;rw[hS,hk,Oi rfl];refine rn8 (cj8 @len d0 d1 d2 d3 e0 @Oy @PG) c2 c1 c3 c5 c6 c6 c6 c6 ?_;refine aG ?_;exact ay.refl _
   ·rw[hb] at c3;rw[hb,Ob aq] at hk;rw[hS,hk,Ob aq];refine rn3 (cj9 @len d0 d1 d2 d3 e15 @Oy @OB @PG) c2 c1 c3 ?_;refine aG ?_;exact ay.refl _
  |false=>
   rw[Ob (ON d2)] at hk;rcases nT x.b with hb|hb
   ·rw[hb] at c3;rw[hb,Oi rfl] at hk;rcases sF x.o with ho|ho
    ·rw[ho] at c4 hk;have c5:=hok hk;have c6:=hok2 hk;rw[hS,hk,Oi rfl];refine rn8 (cj8 @len d0 d1 d2 e0 @Oy @OB @PG) c2 c1 c3 c4 c5 c6 c6 c6 ?_;refine aG ?_;exact ay.refl _
    ·rw[ho] at c4 hk;rw[hS,hk,Ob aq];refine rn4 (cj9 @len d0 d1 d2 e0 e15 @Oy @OB @PG) c2 c1 c3 c4 ?_;refine aG ?_;exact ay.refl _
   ·rw[hb] at c3;rw[hb,Ob aq] at hk;rw[hS,hk,Ob aq];refine rn3 (cj8 @len d0 d1 d2 e15 @Oy @OB @PG) c2 c1 c3 ?_;refine aG ?_;exact ay.refl _
set_option maxHeartbeats 8000000 in
theorem vL(m:List Bk)(hf:Few m):aI Tryz.prog 15 [cC m] (.int .i64 (imE m)):=by
 refine f15.aF ah (by simp[aJ,dR]) rfl ?_;unfold c15 cC zz;have len:=eK m;cases d0:decide ((65535:Int)<(m.length:Int)) with
 |true=>
  have hb:imE m=4:=by
   unfold imE imB;rw[N6 (by have:=Ox d0;omega)];rfl
  rw[hb];refine rn0 (cj2 @len d0) ?_;refine aG ?_;exact ay.refl _
 |false=>
 have hl:=ON d0;refine rn0 (cj2 @len d0) ?_;refine Wp.oD [1,12,13] (by simp only[go_sem,reduceIte,Nat.reduceEqDiff,List.map,len];exact rfl) (λj:Nat=>[(14,.int .i64 j)]) (λj=>j<=m.length/\∀i,i<j->oQ m i=true) (λj=>m.length - j) 0 ⟨Ot _,λi h=>by omega⟩ ?_ ?_
 ·exact xSb
 rintro j n hn ⟨hj,hok⟩;have hn':1<=n:=hn;have n0:¬(0=n):=by omega
 have n1:¬(n=0):=by omega
 by_cases hc:j<m.length
 ·have h2:(0:Int)<=(j:Int):=by omega
  have q1:decide ((j:Int)<(m.length:Int))=true:=N9 ae;have h3:(j:Int)<(m.length:Int):=by omega
  have e1:IntKind.i64.wrap ((j:Int)+1)=((j+1:Nat):Int):=by rw[IntWalk.i64_in _ ae];omega
  have gj:=λd=>gC m j d hc;have ga:=λd=>gC m (j - 1) d ae;have hst:=FM (m.getD j default).l (hf.at j);have hbu:=xq (m.getD j default).n;have hsa:=BG (m.getD j default).st;have ok1:oQ m j=(gq (m.getD j default)&&(decide (j=0)||Op.bytesLess (m.getD (j - 1) default).n (m.getD j default).n)):=rfl;have next:oQ m j=true->∀i,i<j+1->oQ m i=true:=λh i hi=>by
   rcases Qq.1 hi with h'|rfl
   ·exact hok i h'
   ·exact h
  generalize m.getD j default=v at*
  generalize m.getD (j - 1) default=p at*
  unfold gq at ok1;unfold eA at gj ga;unfold stE at hsa;generalize stS v.st=ss at*
  cases c1:oN v.st with
  |false=>
   have hb:imE m=4:=nR hc (by rw[ok1,c1];simp);rw[c1,Ob ah] at hsa;obtain ⟨z,hz,dz⟩:∃z:Int,z=2/\decide (z=0)=false:=⟨2,rfl,rfl⟩;rw[<-hz] at hsa;rw[hb];clear hz;refine rn1 (fD @q1 h2 h3 e1 n0 n1 @N7 gj ga @len dz) hsa ?_;refine aG ?_;exact ay.refl _
  |true=>
  rw[c1,Oi rfl] at hsa;cases c2:decide (bW v.n=0) with
  |false=>
   have hb:imE m=4:=nR hc (by rw[ok1,c2];simp);generalize bW v.n=z at*
   rw[hb];refine rn2 (fD @q1 h2 h3 e1 n0 n1 @N7 gj ga @len c2) hsa hbu ?_;refine aG ?_;exact ay.refl _
  |true=>
  have hz:=Ox c2;rw[hz] at hbu;rw[c1,c2] at ok1;simp only[OM] at ok1;by_cases hj0:j=0
  ·have g0:decide ((0:Int)<(j:Int))=false:=N6 ae;rw[N9 hj0,PT,P6] at ok1;cases c3:cS v.l with
   |false=>
    have hb:imE m=4:=nR hc (by rw[ok1,c3]);rw[c3] at hst;rw[hb];refine rn3 (fD @q1 h2 h3 e1 n0 n1 @N7 gj ga @len g0) hsa hbu hst ?_;refine aG ?_;exact ay.refl _
   |true=>
    rw[c3] at hst;refine rn3 (fD @q1 h2 h3 e1 n0 n1 @N7 gj ga @len g0) hsa hbu hst ?_;refine ⟨j+1,n+1,by show 1<=n+1;omega,⟨ae,next (by rw[ok1,c3])⟩,ae,?_⟩;refine aM.tmN ae (OLe.at (by simp[upd,aB,n0,n1])) (by simp only[aQ,go_sem,reduceIte,Nat.reduceEqDiff,Nat.reduceAdd,bx,n0,n1];and_intros<;>first|exact trivial|exact ay.refl _|exact ay.any _|(refine ay.int ?_;omega))
  ·have g0:decide ((0:Int)<(j:Int))=true:=N9 ae;have ew:IntKind.i64.wrap ((j:Int) - 1)=((j - 1:Nat):Int):=by rw[IntWalk.i64_in _ ae];omega
   have h6:(0:Int)<=((j - 1:Nat):Int):=PM _;have h7:((j - 1:Nat):Int)<(m.length:Int):=by omega
   rw[N6 hj0,PI] at ok1;cases c4:Op.bytesLess p.n v.n with
   |false=>
    have hb:imE m=4:=nR hc (by rw[ok1,c4,Qd]);rw[hb];refine rn2 (bf @q1 h2 h3 e1 n0 n1 @N7 gj ga @len g0 (cj4 ew h6 h7 c4)) hsa hbu ?_;refine aG ?_;exact ay.refl _
   |true=>
    rw[c4,P6] at ok1;cases c3:cS v.l with
    |false=>
     have hb:imE m=4:=nR hc (by rw[ok1,c3]);rw[c3] at hst;rw[hb];refine rn3 (bf @q1 h2 h3 e1 n0 n1 @N7 gj ga @len g0 (cj4 ew h6 h7 c4)) hsa hbu hst ?_;refine aG ?_;exact ay.refl _
    |true=>
     rw[c3] at hst;refine rn3 (bf @q1 h2 h3 e1 n0 n1 @N7 gj ga @len g0 (cj4 ew h6 h7 c4)) hsa hbu hst ?_;refine ⟨j+1,n+1,by show 1<=n+1;omega,⟨ae,next (by rw[ok1,c3])⟩,ae,?_⟩;refine aM.tmN ae (OLe.at (by simp[upd,aB,n0,n1])) (by simp only[aQ,go_sem,reduceIte,Nat.reduceEqDiff,Nat.reduceAdd,bx,n0,n1];and_intros<;>first|exact trivial|exact ay.refl _|exact ay.any _|(refine ay.int ?_;omega))
 ·have hj2:j=m.length:=by omega
  subst hj2;have q1:decide ((m.length:Int)<(m.length:Int))=false:=N6 ae;rw[BJ ae hok];refine rn0 (cj2 @q1 @len) ?_;refine aG ?_;exact ay.refl _
theorem BQ(s:List UInt8)(hs:s.length<256)(xs:List UInt8)(hx:xs.length<=1099511627775):kW Tryz.prog 39 (λt=>[.sl 1 (aD xs) (.own t),.str s]) (λt=> .sl 1 (aD (xs++be 1 s.length++s)) (.own t)):=by
 intro t n m;suffices h:∃r h',bB Tryz.prog 39 [.sl 1 (aD xs) (.own t),.str s] (.only aB [t] n m) r h'/\∃t' m',m<=m'/\r= .sl 1 (aD (xs++be 1 s.length++s)) (.own t')/\h'= .only aB [t'] n m' by
  obtain ⟨r,h',ha,t',m',hm,rfl,rfl⟩:=h;exact ⟨t',m',hm,ha⟩
 refine f39.fe ah ?_;unfold c39 zz;refine Wp.bU xA1 al ?_;refine Wp.seqItems xA1 ?_;refine az.dC t af xA4 af (zK s.length ae xs ae) λt1 m1 h1=>?_;have e1:(xs++be 1 s.length).length+s.length<=140737488355328:=by rw[Og,aS];omega
 have e2:(xs++be 1 s.length).length+s.length<4611686018427387904:=by omega
 refine az.eval (by simp only[go_sem,reduceIte,Nat.reduceEqDiff,Nat.reduceAdd,bx,O4,e1,e2,PC,Ol,Of,OE,O2];exact rfl) ?_;refine az.nil ⟨by trivial,?_⟩;rw[<-lg];refine Wp.ret ⟨trivial,_,rfl,m1,m1+1,by have:m<=m1:=h1;omega,?_,rfl⟩;simp only[go_sem,reduceIte,Nat.reduceEqDiff]
def shB(s:List UInt8):List UInt8:=be 1 s.length++s
theorem gT(s:List UInt8):(shB s).length=s.length+1:=by simp[shB,aS];omega
theorem xK(s:List UInt8)(hs:s.length<256):aI Tryz.prog 88 [.str s] (.str (shB s)):=by
 refine f88.aF ah rfl rfl ?_;unfold c88 zz;have c1:=dW s.length ae 1 ae;have l1:=aS 1 s.length;have l2:1+s.length<9223372036854775808:=by omega
 unfold shB;generalize be 1 s.length=b at*
 refine rf1 (cj2 l1 l2) c1 ?_;refine aG ?_;exact ay.refl _
def gh(v:Vs):List UInt8:=shB v.o++be 8 v.id.toNat++dK v.sz.toNat v.re.toNat v.im.toNat v.g v.u++be 2 v.b.length++v.b
def cu(l:List Vs):List UInt8:=(l.map gh).flatten
def bE(b:Bk):List UInt8:=shB b.n++be 1 b.st.toNat++be 4 b.l.length++cu b.l
def ec(m:List Bk):List UInt8:=[65,82,67,72]++be 2 m.length++(m.map bE).flatten
def gM(m:List Bk):List UInt8:=if imB m=true then ec m++be 4 (jQ (ec m)) else []
theorem pJ(l:List Vs)(j:Nat)(h:j<l.length):cu (l.take (j+1))=cu (l.take j)++gh (l.getD j default):=by
 have e:l.getD j default=l[j]:=by simp[OF,N5 h]
 unfold cu;rw[e,OD h,Pl,PN];congr 1;simp
theorem oT{v:Vs}(h:v.okV=true):(gh v).length<=2700/\v.o.length<=32/\v.b.length<=2560:=by
 simp only[Vs.okV,Vs.fit,Oh,Ov] at h;have h1:=vI h.1.1.1;obtain ⟨s,r,i,e1,-,-,hs,-,-⟩:=kq h.2.1.1;have h2:=h.2.1.2;have h3:v.b.length<=2560:=by omega
 refine ⟨?_,h1,h3⟩;simp only[gh,Og,gT,aS,dN];omega
theorem kr{l:List Vs}(h:cS l=true)(i:Nat)(hi:i<l.length):(l.getD i default).okV=true:=by
 unfold cS at h;rw[OK] at h;have:=h i (O6.2 hi);simp only[jy,Oh] at this;exact this.1.1
theorem oV{l:List Vs}(h:cS l=true):∀j,j<=l.length->(cu (l.take j)).length<=2700*j
 |0,_=>by simp[cu]
 |j+1,hj=>by
  rw[pJ l j ae,Og];have:=oV h j ae;have:=(oT (kr h j ae)).1;omega
theorem nU(m:List Bk)(j:Nat)(h:j<m.length):((m.take (j+1)).map bE).flatten=((m.take j).map bE).flatten++bE (m.getD j default):=by
 have e:m.getD j default=m[j]:=by simp[OF,N5 h]
 rw[e,OD h,Pl,PN];congr 1;simp
theorem pK{b:Bk}(h:gq b=true)(hl:b.l.length<=1000000):(bE b).length<=2700000100/\b.n.length<=12/\(∃k:Nat,b.st=k/\k<=2)/\cS b.l=true:=by
 simp only[gq,Oh,Ov] at h;have h1:=sA h.1.1;have h2:∃k:Nat,b.st=k/\k<=2:=by
  have:=h.1.2;simp[oN] at this;exact ⟨b.st.toNat,ae,ae⟩
 have h3:=oV h.2 b.l.length (N4 _);rw[OG] at h3;refine ⟨?_,h1,h2,h.2⟩;simp only[bE,Og,gT,aS];omega
theorem sG{m:List Bk}(h:imB m=true):m.length<=65535/\∀i,i<m.length->gq (m.getD i default)=true:=by
 unfold imB at h;simp only[Oh,Ov,OK,O6] at h;refine ⟨h.1,λi hi=>?_⟩;have:=h.2 i hi;simp only[oQ,Oh] at this;exact this.1
theorem pL{m:List Bk}(h:imB m=true)(hf:Few m):∀j,j<=m.length->((m.take j).map bE).flatten.length<=2700000100*j
 |0,_=>by simp
 |j+1,hj=>by
  rw[nU m j ae,Og];have:=pL h hf j ae;have:=(pK ((sG h).2 j ae) (hf.at j)).1;omega
set_option maxHeartbeats 8000000 in
theorem KG(m:List Bk)(hf:Few m)(hm:imB m=true):aI Tryz.prog 43 [cC m] (.str (ec m++be 4 (jQ (ec m)))):=by
 refine f43.aF ah (by simp[aJ,dR]) rfl ?_;unfold c43 cC zz;have len:=eK m;obtain ⟨hl,hok⟩:=sG hm;have c1:=dW m.length ae 2 ae;have l1:=aS 2 m.length;have l2:4+2<9223372036854775808:=by omega
 generalize hb2:be 2 m.length=b2 at c1 l1;refine rn1 (cj4 @len l1 @N8.{0} @Oa.{0}) c1 ?_;refine Wp.oD [1] (by simp only[go_sem,reduceIte,Nat.reduceEqDiff,List.map,len];exact rfl) (λj:Nat=>[(3,.str ([65,82,67,72]++b2++((m.take j).map bE).flatten)),(4,.int .i64 j)]) (λj=>j<=m.length) (λj=>m.length - j) 0 (Ot _) ?_ ?_
 ·exact cM (cj4 @O9.{0} @OQ.{0,0} @PH.{0} @OR.{0})
 rintro j n hn hj;have hn':1<=n:=hn;have n0:¬(0=n):=by omega
 have n1:¬(n=0):=by omega
 have hlen:=pL hm hf j hj;by_cases hc:j<m.length
 ·have h2:(0:Int)<=(j:Int):=by omega
  have q1:decide ((j:Int)<(m.length:Int))=true:=N9 ae;have h3:(j:Int)<(m.length:Int):=by omega
  have e1:IntKind.i64.wrap ((j:Int)+1)=((j+1:Nat):Int):=by rw[IntWalk.i64_in _ ae];omega
  have gj:=λd=>gC m j d hc;have hsn:=nU m j hc;have hlb:=hf.at j;obtain ⟨g1,g2,⟨st,g3,g4⟩,g5⟩:=pK (hok j hc) hlb;generalize m.getD j default=v at*
  obtain ⟨nm,st',l⟩:=v;simp only at g2 g3 g5 hlb;subst g3;unfold eA at gj;have len2:=dF l;have c2:=xK nm ae;have c3:=dW st ae 1 ae;have c4:=dW l.length ae 4 ae;have l3:=gT nm;have l4:=aS 1 st;have l5:=aS 4 l.length;have hbk:bE ⟨nm,(st:Int),l⟩=shB nm++be 1 st++be 4 l.length++cu l:=by simp[bE]
  rw[hbk] at hsn g1;generalize hP:[65,82,67,72]++b2++((m.take j).map bE).flatten=P;have lP:P.length<=500000000000000:=by rw[<-hP];simp only[Og,l1,List.length_cons,List.length_nil];omega
  have hP2:[65,82,67,72]++b2++((m.take (j+1)).map bE).flatten=P++shB nm++be 1 st++be 4 l.length++cu l:=by rw[hsn,<-hP];simp only[OX]
  generalize shB nm=b3 at*
  generalize be 1 st=b4 at*
  generalize be 4 l.length=b5 at*
  have k1:P.length+(nm.length+1)<9223372036854775808:=by omega
  have k2:P.length+(nm.length+1)+1<9223372036854775808:=by omega
  have k3:P.length+(nm.length+1)+1+4<9223372036854775808:=by omega
  refine rn3 (bf @q1 h2 h3 e1 n0 n1 @N7 gj @len len2 l3 (cj6 l4 l5 k1 k2 k3 @Og.{0})) c2 c3 c4 ?_;have lV:=λi (hi:i<=l.length)=>oV g5 i hi;refine Wp.oD [1,4,5] xA7 (λi:Nat=>[(3,.str (P++b3++b4++b5++cu (l.take i))),(6,.int .i64 i)]) (λi=>i<=l.length) (λi=>l.length - i) 0 (Ot _) ?_ ?_
  ·exact cM (cj5 @cu.eq_1 @O9.{0} @OQ.{0,0} @PH.{0} @OR.{0})
  rintro i k hk hi;have hk':n+1<=k:=hk;have m0:¬(0=k):=by omega
  have m1:¬(k=0):=by omega
  have m2:¬(n=k):=by omega
  have m3:¬(k=n):=by omega
  have lQ:(P++b3++b4++b5++cu (l.take i)).length<=600000000000000:=by
   have:=lV i hi;simp only[Og,l3,l4,l5];omega
  have hvs:=λh=>pJ l i h;generalize hQ:P++b3++b4++b5++cu (l.take i)=Q at*
  by_cases hci:i<l.length
  ·have i2:(0:Int)<=(i:Int):=by omega
   have i1:decide ((i:Int)<(l.length:Int))=true:=N9 ae;have i3:(i:Int)<(l.length:Int):=by omega
   have i4:IntKind.i64.wrap ((i:Int)+1)=((i+1:Nat):Int):=by rw[IntWalk.i64_in _ ae];omega
   have gi:=λd=>gB l i d hci;have hov:=kr g5 i hci;have hvs:=hvs hci;obtain ⟨w1,w2,w3⟩:=oT hov;have hrr:=hov;simp only[Vs.okV,Vs.fit,Vs.rh,Oh,Ov] at hrr;obtain ⟨⟨⟨-,y1⟩,y2⟩,⟨y3,-⟩,-⟩:=hrr;generalize l.getD i default=v at*
   obtain ⟨vo,vid,vsz,vre,vim,vg,vu,vb⟩:=v;simp only at w2 w3 y1 y2 y3;obtain ⟨id,rfl⟩:∃id:Nat,vid=id:=⟨vid.toNat,ae⟩;have c5:=xE vsz vre vim vg vu;have c6:=xK vo ae;have c7:=dW id ae 8 ae;have c8:=dW vb.length ae 2 ae;unfold cR mn ez at c5;rw[y3] at c5;simp only[Of] at c5;have v1:=gT vo;have v2:=aS 8 id;have v3:=dN vsz.toNat vre.toNat vim.toNat vg vu;have v4:=aS 2 vb.length;have hvb:gh ⟨vo,(id:Int),vsz,vre,vim,vg,vu,vb⟩=shB vo++be 8 id++dK vsz.toNat vre.toNat vim.toNat vg vu++be 2 vb.length++vb:=by simp[gh]
   rw[hvb] at hvs;have hQ2:P++b3++b4++b5++cu (l.take (i+1))=Q++shB vo++be 8 id++dK vsz.toNat vre.toNat vim.toNat vg vu++be 2 vb.length++vb:=by rw[hvs,<-hQ];simp only[OX]
   generalize shB vo=d1 at*
   generalize be 8 id=d2 at*
   generalize dK vsz.toNat vre.toNat vim.toNat vg vu=d3 at*
   generalize be 2 vb.length=d4 at*
   have u1:Q.length+(vo.length+1)<9223372036854775808:=by omega
   have u2:Q.length+(vo.length+1)+8<9223372036854775808:=by omega
   have u3:Q.length+(vo.length+1)+8+11<9223372036854775808:=by omega
   have u4:Q.length+(vo.length+1)+8+11+2<9223372036854775808:=by omega
   have u5:Q.length+(vo.length+1)+8+11+2+vb.length<9223372036854775808:=by omega
   unfold cz at gi;refine rn4 (bf i1 i2 i3 i4 n0 n1 m0 m1 m2 m3 @N7 (bf gi len2 v1 v2 v3 v4 u1 u2 u3 u4 u5 @Og.{0})) c5 c6 c7 c8 ?_;refine ⟨i+1,k+1,by show n+1<=k+1;omega,ae,ae,?_⟩;rw[hQ2];refine aM.tmN ae (λa o ho=>by
    refine ⟨o,?_,cm.refl _⟩;simp only[upd,aB] at ho |-;by_cases a1:a=k
    ·subst a1;simp[m1,m3] at ho
    ·simpa [a1] using ho) (by simp only[aQ,go_sem,reduceIte,Nat.reduceEqDiff,Nat.reduceAdd,OX];and_intros<;>first|exact trivial|exact ay.refl _|exact ay.any _|(refine ay.int ?_;omega))
  ·have hi2:i=l.length:=by omega
   subst hi2;have i1:decide ((l.length:Int)<(l.length:Int))=false:=N6 ae;rw[OG] at hQ;refine rn0 (cj9 i1 e1 n0 n1 m0 m1 m2 m3 len2) ?_;refine ⟨j+1,k,by show 1<=k;omega,ae,ae,?_⟩;rw[hP2,hQ];refine aM.tmN ae (OLe.at (by simp[upd,aB,n0,n1])) (by simp only[aQ,go_sem,reduceIte,Nat.reduceEqDiff,Nat.reduceAdd,bx,n0,n1];and_intros<;>first|exact trivial|exact ay.refl _|exact ay.any _|(refine ay.int ?_;omega))
 ·have hj2:j=m.length:=by omega
  subst hj2;have q1:decide ((m.length:Int)<(m.length:Int))=false:=N6 ae;rw[OG] at hlen |-;have e:ec m=[65,82,67,72]++b2++(m.map bE).flatten:=by unfold ec;rw[hb2]
  have hln:(ec m).length<=1000000000000000:=by rw[e];simp only[Og,l1,List.length_cons,List.length_nil];omega
  rw[<-e];have c2:=KB (ec m) ae;have c3:=dW (jQ (ec m)) (by have:=vG (ec m);omega) 4 ae;have l3:=aS 4 (jQ (ec m));have l4:(ec m).length+4<9223372036854775808:=by omega
  generalize be 4 (jQ (ec m))=b4 at*
  generalize jQ (ec m)=sm at*
  generalize ec m=ib at*
  refine rn2 (cj4 @q1 @len l3 l4) c2 c3 ?_;refine aG ?_;exact ay.refl _
def pM:AC:=match c11 with| .seq _ (.seq _ r)=>r|_=> .skip
theorem Is(m:List Bk)(j:Nat):((m.take j).map bE).flatten.length<=((m.map bE).flatten).length:=by
 have h:(m.map bE).flatten=((m.take j).map bE).flatten++((m.drop j).map bE).flatten:=by
  rw[<-PN,<-Pl,P3]
 rw[h,Og];omega
set_option maxHeartbeats 8000000 in
theorem F8(m:List Bk)(hf:Few m)(hs:imB m=true->((m.map bE).flatten).length<=300000000000):aI Tryz.prog 11 [cC m] (.tup [.sl 1 (aD (gM m)) .any,.int .i64 (imE m)]):=by
 have hpu:aJ (aD (gM m))=true:=Av.bG (λa=>rfl) _;refine f11.aF ah (by simp[aJ,dR]) (by simp[aW,aJ,bA,hpu]) ?_;unfold c11 zz;have h1:=vL m hf;have len:=eK m;unfold imE gM at*
 cases hm:imB m with
 |false=>
  rw[hm] at h1;simp only[Oq,Od] at h1 |-;unfold cC at*
  refine tA h1 ?_;refine aG ?_;exact ay.tup (aA.cons ay.cap (aA.refl _))
 |true=>
  rw[hm] at h1;simp only[Of] at h1 |-;unfold cC at*
  obtain ⟨hl,hok⟩:=sG hm;refine Wp.le (aM.tok _ _) ?_;change Wp _ _ (.seq _ (.seq _ pM)) _ _;obtain ⟨T,hT⟩:∃T,T=pM:=⟨_,rfl⟩;rw[<-hT];refine tA h1 ?_;subst hT;unfold pM c11 zz;dsimp only;refine Wp.seq (Wp.reg ?_);refine az.opV rfl (by simp only[mS,go_sem,List.all_cons,List.all_nil,List.length_cons,List.length_nil,cellsOf,shaped];exact rfl) rfl ?_;refine az.opV rfl (by simp only[mS,go_sem,bL,List.map,PS,List.flatMap_nil,cellsOf,List.length_cons,List.length_nil,OR,List.cons_append,List.nil_append,reduceIte,Nat.reduceEqDiff,Nat.reduceAdd,upd,Ol,Nat.zero_lt_succ];exact rfl) rfl ?_;have c2:=vH m.length ae [65,82,67,72] ah;refine az.eval (by simp only[go_sem,reduceIte,Nat.reduceEqDiff,Nat.reduceAdd,bx,len,bL];exact rfl) ?_;refine az.dC 0 af (by simp only[go_sem,reduceIte,Nat.reduceEqDiff,List.map,len];exact aA.cons (ay.dt rfl) (aA.refl _)) af c2 λt1 m1 _=>?_;refine az.eval xA1 ?_;refine az.nil ⟨by trivial,?_⟩;simp only[aO.andThen];have l1:=aS 2 m.length;refine Wp.le (s':=⟨tm [(1,.ptr 0 0),(5,.sl 1 (aD ([65,82,67,72]++be 2 m.length)) (.own t1))],⟨upd aB 0 (some (.cells [.sl 3 (bks m) .any])),2,[t1],m1⟩⟩) (aM.of (aY ?_) (λi o h=>⟨o,?_,cm.refl _⟩) (λ_ h=>?_) (N4 _) (N4 _)) ?_
  ·exact xSb
  ·simp only[upd,aB] at h |-;by_cases i0:i=0
   ·subst i0;simpa using h
   ·rw[Ob i0] at h;cases h
  ·simpa using h
  refine rf0 @len ?_;generalize hb2:be 2 m.length=b2 at*
  refine Wp.gy [1,24,25] (by simp only[go_sem,reduceIte,Nat.reduceEqDiff,List.map,len];exact rfl) (λ(j:Nat) tk=>[(5,.sl 1 (aD ([65,82,67,72]++b2++((m.take j).map bE).flatten)) (.own tk)),(26,.int .i64 j)]) (λj=>j<=m.length) (λj=>m.length - j) 0 t1 (Ot _) rfl ?_ ?_
  ·exact cM (cj4 @O9.{0} @OQ.{0,0} @PH.{0} @OR.{0})
  rintro j tk n mm hn hj;have hn':2<=n:=hn;have n0:¬(0=n):=by omega
  have n1:¬(n=0):=by omega
  have hlen:((m.take j).map bE).flatten.length<=300000000000:=OI (Is m j) (hs hm);by_cases hc:j<m.length
  ·have h2:(0:Int)<=(j:Int):=by omega
   have q1:decide ((j:Int)<(m.length:Int))=true:=N9 ae;have h3:(j:Int)<(m.length:Int):=by omega
   have e1:IntKind.i64.wrap ((j:Int)+1)=((j+1:Nat):Int):=by rw[IntWalk.i64_in _ ae];omega
   have gj:=λd=>gC m j d hc;have hsn:=nU m j hc;have hlb:=hf.at j;obtain ⟨g1,g2,⟨st,g3,g4⟩,g5⟩:=pK (hok j hc) hlb;generalize m.getD j default=v at*
   obtain ⟨nm,st',l⟩:=v;simp only at g2 g3 g5 hlb;subst g3;unfold eA at gj;have len2:=dF l;have l3:=gT nm;have l4:=aS 1 st;have l5:=aS 4 l.length;have hbk:bE ⟨nm,(st:Int),l⟩=shB nm++be 1 st++be 4 l.length++cu l:=by simp[bE]
   rw[hbk] at hsn g1;generalize hP:[65,82,67,72]++b2++((m.take j).map bE).flatten=P;have lP:P.length<=400000000000:=by rw[<-hP];simp only[Og,l1,List.length_cons,List.length_nil];omega
   have hP2:[65,82,67,72]++b2++((m.take (j+1)).map bE).flatten=P++shB nm++be 1 st++be 4 l.length++cu l:=by rw[hsn,<-hP];simp only[OX]
   have c2:=BQ nm ae P ae;rw[show P++be 1 nm.length++nm=P++shB nm by simp[shB]] at c2;have c3:=zK st ae (P++shB nm) (by simp only[Og,l3];omega);have c4:=qR l.length ae (P++shB nm++be 1 st) (by simp only[Og,l3,l4];omega);generalize shB nm=b3 at*
   generalize be 1 st=b4 at*
   generalize be 4 l.length=b5 at*
   refine rn0 (iw @q1 h2 h3 e1 n0 n1 @N7 gj @len len2) ?_;refine az.dC tk af xA4 af c2 λta ma _=>?_;refine az.eval (by simp only[go_sem,reduceIte,Nat.reduceEqDiff,Nat.reduceAdd,bx,n0,n1];exact rfl) ?_;refine az.dC ta af xA4 af c3 λtb mb _=>?_;refine az.eval (by simp only[go_sem,reduceIte,Nat.reduceEqDiff,Nat.reduceAdd,bx,n0,n1,len2];exact rfl) ?_;refine az.dC tb af (by simp only[go_sem,reduceIte,Nat.reduceEqDiff,List.map,len2];exact aA.refl _) af c4 λtc mc _=>?_;refine az.eval (by simp only[go_sem,reduceIte,Nat.reduceEqDiff,Nat.reduceAdd,bx,n0,n1];exact rfl) ?_;refine az.nil ⟨by simp[bg,aN,apart,aU],?_⟩;refine rn0 (cj3 n0 n1 len2) ?_;have lV:=λi (hi:i<=l.length)=>oV g5 i hi;refine Wp.gy [1,24,25,26,42,43] xA7 (λ(i:Nat) tk=>[(5,.sl 1 (aD (P++b3++b4++b5++cu (l.take i))) (.own tk)),(44,.int .i64 i)]) (λi=>i<=l.length) (λi=>l.length - i) 0 tc (Ot _) (by simp[l7]) ?_ ?_
   ·exact cM (cj5 @cu.eq_1 @O9.{0} @OQ.{0,0} @PH.{0} @OR.{0})
   rintro i tk2 k mk hk hi;have hk':n+1<=k:=hk;have m0:¬(0=k):=by omega
   have m1':¬(k=0):=by omega
   have m2:¬(n=k):=by omega
   have m3:¬(k=n):=by omega
   have lQ:(P++b3++b4++b5++cu (l.take i)).length<=500000000000:=by
    have:=lV i hi;simp only[Og,l3,l4,l5];omega
   have hvs:=λh=>pJ l i h;generalize hQ:P++b3++b4++b5++cu (l.take i)=Q at*
   by_cases hci:i<l.length
   ·have i2:(0:Int)<=(i:Int):=by omega
    have i1:decide ((i:Int)<(l.length:Int))=true:=N9 ae;have i3:(i:Int)<(l.length:Int):=by omega
    have i4:IntKind.i64.wrap ((i:Int)+1)=((i+1:Nat):Int):=by rw[IntWalk.i64_in _ ae];omega
    have gi:=λd=>gB l i d hci;have hov:=kr g5 i hci;have hvs:=hvs hci;obtain ⟨w1,w2,w3⟩:=oT hov;have hrr:=hov;simp only[Vs.okV,Vs.fit,Vs.rh,Oh,Ov] at hrr;obtain ⟨⟨⟨-,y1⟩,y2⟩,⟨y3,-⟩,-⟩:=hrr;generalize l.getD i default=v at*
    obtain ⟨vo,vid,vsz,vre,vim,vg,vu,vb⟩:=v;simp only at w2 w3 y1 y2 y3;obtain ⟨id,rfl⟩:∃id:Nat,vid=id:=⟨vid.toNat,ae⟩;have c5:=qS vsz vre vim vg vu;unfold cR mn ez at c5;rw[y3] at c5;simp only[Of] at c5;have v1:=gT vo;have v2:=aS 8 id;have v3:=dN vsz.toNat vre.toNat vim.toNat vg vu;have v4:=aS 2 vb.length;have hvb:gh ⟨vo,(id:Int),vsz,vre,vim,vg,vu,vb⟩=shB vo++be 8 id++dK vsz.toNat vre.toNat vim.toNat vg vu++be 2 vb.length++vb:=by simp[gh]
    rw[hvb] at hvs;have hQ2:P++b3++b4++b5++cu (l.take (i+1))=Q++shB vo++be 8 id++dK vsz.toNat vre.toNat vim.toNat vg vu++be 2 vb.length++vb:=by rw[hvs,<-hQ];simp only[OX]
    have c6:=BQ vo ae Q ae;rw[show Q++be 1 vo.length++vo=Q++shB vo by simp[shB]] at c6;have c7:=Ic id ae (Q++shB vo) (by simp only[Og,v1];omega);have c8:=vH vb.length ae (Q++shB vo++be 8 id++dK vsz.toNat vre.toNat vim.toNat vg vu) (by simp only[Og,v1,v2,v3];omega);generalize shB vo=d1 at*
    generalize be 8 id=d2 at*
    generalize dK vsz.toNat vre.toNat vim.toNat vg vu=d3 at*
    generalize be 2 vb.length=d4 at*
    have x1:(Q++d1++d2).length+d3.length<=140737488355328:=by simp only[Og,v1,v2,v3];omega
    have x2:(Q++d1++d2).length+d3.length<4611686018427387904:=by omega
    have x3:(Q++d1++d2++d3++d4).length+vb.length<=140737488355328:=by simp only[Og,v1,v2,v3,v4];omega
    have x4:(Q++d1++d2++d3++d4).length+vb.length<4611686018427387904:=by omega
    unfold cz at gi;refine rn1 (bf i1 i2 i3 i4 n0 n1 m0 m1' m2 m3 @N7 (cj2 gi len2)) c5 ?_;refine az.dC tk2 af xA4 af c6 λta' ma' _=>?_;refine az.eval (by simp only[go_sem,reduceIte,Nat.reduceEqDiff,Nat.reduceAdd,bx,n0,n1,m0,m1',m2,m3];exact rfl) ?_;refine az.dC ta' af xA4 af c7 λtb' mb' _=>?_;refine az.eval (by simp only[go_sem,reduceIte,Nat.reduceEqDiff,Nat.reduceAdd,bx,n0,n1,m0,m1',m2,m3,O4,x1,x2,PC,Ol,Of,OE,O2];exact rfl) ?_;refine az.nil ⟨by simp[bg,aN,apart,aU],?_⟩;refine rn0 (cj6 n0 n1 m0 m1' m2 m3) ?_;rw[<-lg];refine az.dC mb' af xA4 (by simp[l7]) c8 λtc' mc' _=>?_;refine az.eval (by simp only[go_sem,reduceIte,Nat.reduceEqDiff,Nat.reduceAdd,bx,n0,n1,m0,m1',m2,m3,O4,x3,x4,PC,Ol,Of,OE,O2];exact rfl) ?_;refine az.nil ⟨by simp[bg,aN,apart,aU],?_⟩;refine rn0 i4 ?_;rw[<-lg];refine ⟨i+1,mc',k+1,mc'+1,by show n+1<=k+1;omega,ae,ae,?_⟩;rw[hQ2];refine aM.of (aY (by simp only[aQ,go_sem,reduceIte,Nat.reduceEqDiff,Nat.reduceAdd];and_intros<;>first|exact trivial|exact ay.refl _|exact ay.any _|(refine ay.int ?_;omega))) (λa o ho=>by
     refine ⟨o,?_,cm.refl _⟩;simp only[upd,aB] at ho |-;by_cases a1:a=k
     ·subst a1;simp[m1',m3] at ho
     ·simpa [a1] using ho) (λ_ h=>h) (N4 _) (N4 _)
   ·have hi2:i=l.length:=by omega
    subst hi2;have i1:decide ((l.length:Int)<(l.length:Int))=false:=N6 ae;rw[OG] at hQ;refine rn0 (cj9 i1 e1 n0 n1 m0 m1' m2 m3 len2) ?_;refine ⟨j+1,tk2,k,mk,by show 2<=k;omega,ae,ae,?_⟩;rw[hP2,hQ];refine aM.tmN ae (OLe.at (by simp[upd,aB,n0,n1])) (by simp only[aQ,go_sem,reduceIte,Nat.reduceEqDiff,Nat.reduceAdd,bx,n0,n1];and_intros<;>first|exact trivial|exact ay.refl _|exact ay.any _|(refine ay.int ?_;omega))
  ·have hj2:j=m.length:=by omega
   subst hj2;have q1:decide ((m.length:Int)<(m.length:Int))=false:=N6 ae;rw[OG] at hlen |-;have e:ec m=[65,82,67,72]++b2++(m.map bE).flatten:=by unfold ec;rw[hb2]
   have hln:(ec m).length<=1000000000000:=by rw[e];simp only[Og,l1,List.length_cons,List.length_nil];omega
   rw[<-e];have c3:=JU (ec m) ae;have c4:=qR (jQ (ec m)) (vG _) (ec m) ae;generalize be 4 (jQ (ec m))=b4 at*
   generalize jQ (ec m)=sm at*
   generalize ec m=ib at*
   refine rn1 (cj2 @q1 @len) c3 ?_;refine az.dC tk af xA4 af c4 λt4 m4 _=>?_;refine az.eval xA1 ?_;refine az.nil ⟨by trivial,?_⟩;refine aG ?_;exact ay.tup (aA.cons ay.cap (aA.refl _))
theorem It(m:List Bk)(hf:Few m)(h100:m.length<=100):aI Tryz.prog 11 [cC m] (.tup [.sl 1 (aD (gM m)) .any,.int .i64 (imE m)]):=
 F8 m hf λhm=>by
  have:=pL hm hf m.length (N4 _);rw[OG] at this;omega
def chunk(s:List UInt8)(k:Nat):List UInt8:=(s.take (min s.length (160*k+160))).drop (160*k)
def chunks(s:List UInt8)(n:Nat):List (List UInt8):=(List.range n).map (chunk s)
def dG(s:List UInt8):Nat:=(s.length+159)/160
def ku(l:List (List UInt8)):List AV:=l.map AV.str
theorem iP(l:List (List UInt8)):(ku l).length=l.length:=PF _
theorem sH(l:List (List UInt8)):aJ (ku l)=true:=Av.bG (λa=>rfl) l
theorem ie(s:List UInt8)(n:Nat):(chunks s n).length=n:=by simp[chunks]
theorem qu(s:List UInt8)(n:Nat):ku (chunks s (n+1))=ku (chunks s n)++[.str (chunk s n)]:=by simp[chunks,ku,List.range_succ]
theorem KH(s:List UInt8)(hs:s.length<=2560):aI Tryz.prog 99 [.str s] (.tup [.sl 1 (ku (chunks s (dG s))) .any,.int .i64 0]):=by
 refine f99.aF ah rfl (by simp[aW,aJ,bA,sH]) ?_;unfold c99 zz;have d0:decide ((2560:Int)<(s.length:Int))=false:=N6 ae;refine Wp.le (aM.tok _ _) ?_;refine rf0 d0 ?_;refine Wp.gy [0] xA7 (λ(k:Nat) tk=>[(4,.sl 1 (ku (chunks s k)) (.own tk)),(5,.int .i64 (160*k:Nat))]) (λk=>k<=dG s) (λk=>dG s - k) 0 0 (Ot _) rfl ?_ ?_
 ·simp only[aQ,go_sem,reduceIte,Nat.reduceEqDiff,Nat.reduceAdd,bx];and_intros<;>first|exact trivial|exact ay.refl _|exact ay.any _|exact ay.dt rfl|(refine ay.int ?_;omega)
 rintro k tk n m hn hk;unfold dG at hk |-;by_cases hc:160*k<s.length
 ·have q1:decide (((160*k:Nat):Int)<(s.length:Int))=true:=N9 ae;have ew:IntKind.i64.wrap (((160*k:Nat):Int)+160)=((160*k+160:Nat):Int):=by rw[IntWalk.i64_in _ ae];omega
  have em:(if ((160*k+160:Nat):Int)<(s.length:Int) then ((160*k+160:Nat):Int) else (s.length:Int))=((min s.length (160*k+160):Nat):Int):=by split<;>omega
  have h2:(0:Int)<=((160*k:Nat):Int):=PM _;have h3:((160*k:Nat):Int)<=((min s.length (160*k+160):Nat):Int):=by omega
  have h4:((min s.length (160*k+160):Nat):Int)<=(s.length:Int):=by omega
  have ls:=iP (chunks s k);rw[ie] at ls;have e6:(k+1)*16<=140737488355328:=by omega
  have e7:k+1<4611686018427387904:=by omega
  have h5:(0:Int)<=((min s.length (160*k+160):Nat):Int):=PM _;have e8:160*k+160=160*(k+1):=by omega
  refine rn0 @q1 ?_;refine Wp.oy (xAd (bf ew em h2 h3 h4 h5 @N7 @Ou.{0,0} @Oz.{0,0} @ls e6 (bf e7 @PC @Ol @O4 @N8.{0} @Oa.{0} @Oo @ne_eq.{1} @OE @Po @O2 (cj2 @Oj.{0} @OA.{0})))) al ?_;simp only[aO.inBlock,aO.andThen];refine rn0 ew ?_;refine ⟨k+1,m,n,m+1,Ot _,ae,ae,?_⟩;rw[e8,qu];exact xSu
 ·have hk2:k=(s.length+159)/160:=by omega
  have q1:decide (((160*k:Nat):Int)<(s.length:Int))=false:=N6 ae;rw[<-hk2];refine rn0 @q1 ?_;refine aG ?_;exact ay.tup (aA.cons ay.cap (aA.refl _))
theorem Af(s:List UInt8)(k:Nat):chunk s k=(s.drop (160*k)).take (min (s.length - 160*k) 160):=by
 unfold chunk;rw[List.drop_take];congr 1;omega
theorem DT(s:List UInt8)(k:Nat):(s.drop (160*k)).drop (min (s.length - 160*k) 160)=s.drop (160*(k+1)):=by
 rw[PK];by_cases h:160*(k+1)<=s.length
 ·congr 1;omega
 ·rw[Pg ae,Pg ae]
theorem M8(s:List UInt8)(hs:s.length<=2560):aI Tryz.prog 93 [.str s] (.tup [.sl 1 (ku (chunks s (dG s))) .any,.int .i64 0]):=by
 refine f93.aF ah rfl (by simp[aW,aJ,bA,sH]) ?_;unfold c93 zz;have d0:decide ((2560:Int)<(s.length:Int))=false:=N6 ae;have a1:IntKind.i64.wrap ((s.length:Int)+160)=((s.length+160:Nat):Int):=by rw[IntWalk.i64_in _ ae];omega
 have a2:IntKind.i64.wrap (((s.length+160:Nat):Int) - 1)=((s.length+159:Nat):Int):=by rw[IntWalk.i64_in _ ae];omega
 have a3:IntKind.i64.wrap (((s.length+159:Nat):Int).tdiv 160)=(dG s:Int):=by
  rw[show ((s.length+159:Nat):Int).tdiv 160=(((s.length+159)/160:Nat):Int) by rw[Int.tdiv_eq_ediv_of_nonneg (PM _)];omega];rw[IntWalk.i64_in _ ae];rfl
 refine Wp.le (aM.tok _ _) ?_;refine rf0 (cj4 d0 a1 a2 a3) ?_;refine Wp.gy [13] xA7 (λ(k:Nat) tk=>[(0,.str (s.drop (160*k))),(4,.sl 1 (ku (chunks s k)) (.own tk)),(14,.int .i64 k)]) (λk=>k<=dG s) (λk=>dG s - k) 0 0 (Ot _) rfl ?_ ?_
 ·simp only[aQ,go_sem,reduceIte,Nat.reduceEqDiff,Nat.reduceAdd,bx,Pw,Nat.mul_zero];and_intros<;>first|exact trivial|exact ay.refl _|exact ay.any _|exact ay.dt rfl|(refine ay.int ?_;omega)
 rintro k tk n m hn hk;by_cases hc:k<dG s
 ·have q1:decide ((k:Int)<(dG s:Int))=true:=N9 ae;have hc':160*k<s.length:=by unfold dG at hc;omega
  have hb:(s.drop (160*k)).length=s.length - 160*k:=OY;have em:(if ((s.drop (160*k)).length:Int)<160 then ((s.drop (160*k)).length:Int) else 160)=((min (s.length - 160*k) 160:Nat):Int):=by rw[hb];split<;>omega
  have h5:(0:Int)<=((min (s.length - 160*k) 160:Nat):Int):=PM _;have h6:((min (s.length - 160*k) 160:Nat):Int)<=((s.drop (160*k)).length:Int):=by rw[hb];omega
  have r1:=Af s k;have r2:=DT s k;have e1:IntKind.i64.wrap ((k:Int)+1)=((k+1:Nat):Int):=by rw[IntWalk.i64_in _ ae];omega
  have ls:=iP (chunks s k);rw[ie] at ls;have e6:(k+1)*16<=140737488355328:=by unfold dG at hk;omega
  have e7:k+1<4611686018427387904:=by omega
  generalize s.drop (160*k)=b at*
  generalize min (s.length - 160*k) 160=q at*
  refine rn0 (cj4 @q1 em h5 h6) ?_;refine Wp.oy (xAd (bf h5 h6 @N7 @Ou.{0,0} @Oz.{0,0} @ls e6 e7 @PC @Ol @O4 (cj9 @N8.{0} @Oa.{0} @Oo @ne_eq.{1} @OE @Po @O2 @Oj.{0} @OA.{0}))) al ?_;simp only[aO.inBlock,aO.andThen];refine rn0 (cj8 h5 h6 @N7 @Ou.{0,0} @Oz.{0,0} @Ol e1 @OG.{0}) ?_;refine ⟨k+1,m,n,m+1,Ot _,ae,ae,?_⟩;rw[qu,r1,<-r2];exact xSu
 ·have hk2:k=dG s:=by omega
  have q1:decide ((k:Int)<(dG s:Int))=false:=N6 ae;rw[<-hk2] at q1 |-;refine rn0 @q1 ?_;refine aG ?_;exact ay.tup (aA.cons ay.cap (aA.refl _))
def kyB(b:Bk):Ky:=⟨1,b.n,[],[]⟩
def kyV(n:List UInt8)(v:Vs):Ky:=⟨2,n,v.o,[v.id]⟩
def kyC(n:List UInt8)(v:Vs)(k:Nat):Ky:=⟨3,n,v.o,[v.id,k]⟩
def jI(v:Vs):List UInt8:=cR v.sz v.re v.im v.g v.u
def vM(b:Bk):Ch:=⟨dB (kyB b),stS b.st,false⟩
def chV(n:List UInt8)(v:Vs):Ch:=⟨dB (kyV n v),jI v,false⟩
def chC(n:List UInt8)(v:Vs)(k:Nat):Ch:=⟨dB (kyC n v k),chunk v.b k,false⟩
def cW(n:List UInt8)(v:Vs):List Ch:=chV n v::(List.range (dG v.b)).map (chC n v)
def cw(b:Bk):List (List Ch):=[vM b]::b.l.map (cW b.n)
def Vs.room(v:Vs):Prop:=v.id<9223372036854775808/\v.b.length<=2560
theorem vN(b:Bk):(kyB b).fit:=⟨by simp[kyB],by simp[kyB]⟩
theorem vO(n:List UInt8){v:Vs}(h:v.room):(kyV n v).fit:=⟨by simp[kyV],by simp[kyV];exact h.1⟩
theorem vP(n:List UInt8){v:Vs}(h:v.room)(k:Nat)(hk:k<=1000000):(kyC n v k).fit:=⟨by simp[kyC],by simp[kyC];exact ⟨h.1,ae⟩⟩
theorem sI(x:Ky)(hf:x.fit)(v:List UInt8):aI Tryz.prog 92 [di x,.str v] (.agg [.str (dB x),.str v,.bool false]):=by
 refine f92.aF ah (by simp[aJ,eM,aW]) rfl ?_;unfold c92 zz;have c1:=JV x hf;have hE:di x= .agg [.int .i64 x.k,.str x.b,.str x.o,.sl 1 (ints x.ns) .any]:=rfl;rw[hE] at c1 |-;refine tA c1 ?_;refine aG ?_;exact ay.refl _
theorem vQ(x:Ky)(hf:x.fit):aI Tryz.prog 98 [.int .i64 x.k,.str x.b,.str x.o,.sl 1 (ints x.ns) .any] (.str (dB x)):=by
 refine f98.aF ah (by simp[aJ,aW,bA,tX]) rfl ?_;unfold c98 zz;have c1:=F7 x hf;have hE:di x= .agg [.int .i64 x.k,.str x.b,.str x.o,.sl 1 (ints x.ns) .any]:=rfl;rw[hE] at c1;refine tA c1 ?_;refine aG ?_;exact ay.refl _
theorem F9(b:Bk):aI Tryz.prog 44 [eA b] (.clo (.func 91) [] [.ref [.str b.n,.int .i64 b.st,.sl 8 (vss b.l) .any]]):=by
 refine f44.HN ah (by simp[aJ,fW]) (by simp[aW,aJ,bA,oP]) ?_;unfold c44 zz;have hE:eA b= .agg [.str b.n,.int .i64 b.st,.sl 8 (vss b.l) .any]:=rfl;rw[hE];refine rW ?_;refine Wp.ret ⟨trivial,_,rfl,?_⟩;simp[unT,vd,upd,go_sem];exact ay.refl _
def rws(l:List (List Ch)):List AV:=l.map λr=> .sl 3 (chs r) .any
theorem sJ(l:List (List Ch)):(rws l).length=l.length:=PF _
theorem Ga(l:List (List Ch)):aJ (rws l)=true:=Av.bG (λa=>by simp[aW,bA,xu]) l
theorem Gb(l:List (List Ch))(r:List Ch):rws (l++[r])=rws l++[.sl 3 (chs r) .any]:=by simp[rws]
theorem Gc(l:List (List Ch))(j:Nat)(d:AV)(h:j<l.length):(rws l).getD j d= .sl 3 (chs (l.getD j default)) .any:=by
 simp[rws,OF,N5 h]
theorem oW{v:Vs}(h:v.okV=true):v.room:=by
 have h2:=oT h;refine ⟨?_,h2.2.2⟩;simp only[Vs.okV,Oh,Ov] at h;omega
theorem vR{b:Bk}(h:gq b=true)(j:Nat)(hj:j<b.l.length):(b.l.getD j default).room:=by
 unfold gq at h;simp only[Oh] at h;exact oW (kr h.2 j hj)
theorem lu{s:List UInt8}(h:s.length<=2560):dG s<=16:=by unfold dG;omega
theorem xL(n:List UInt8)(l:List Vs)(j:Nat)(h:j<l.length):(l.take (j+1)).map (cW n)=(l.take j).map (cW n)++[cW n (l.getD j default)]:=by
 have e:l.getD j default=l[j]:=by simp[OF,N5 h]
 rw[e,OD h,Pl];simp
def iy(n:List UInt8)(v:Vs)(k:Nat):List Ch:=chV n v::(List.range k).map (chC n v)
theorem sK(n:List UInt8)(v:Vs)(k:Nat):chs (iy n v (k+1))=chs (iy n v k)++[.agg [.str (dB (kyC n v k)),.str (chunk v.b k),.bool false]]:=by
 simp[iy,chs,List.range_succ,sf,chC]
theorem uF(n:List UInt8)(v:Vs)(k:Nat):(chs (iy n v k)).length=k+1:=by simp[iy,chs]
theorem sM(l:List (List UInt8))(j:Nat)(d:AV)(h:j<l.length):(ku l).getD j d= .str (l.getD j default):=by
 simp[ku,OF,N5 h]
theorem uG(s:List UInt8)(n j:Nat)(h:j<n):(chunks s n).getD j default=chunk s j:=by
 simp[chunks,OF,h]
theorem xM{k n:Nat}(h:k<n)(hn:n<=1000000):decide ((k:Int)<(n:Int))=true/\(0:Int)<=(k:Int)/\(k:Int)<(n:Int)/\IntKind.i64.wrap ((k:Int)+1)=((k+1:Nat):Int)/\(k+1+1)*40<=140737488355328/\k+1+1<4611686018427387904:=by
 refine ⟨N9 ae,ae,ae,?_,ae,ae⟩;rw[IntWalk.i64_in _ ae];omega
theorem dZ{k n:Nat}(h:k<n)(hn:n<=10000000):decide ((k:Int)<(n:Int))=true/\(0:Int)<=(k:Int)/\(k:Int)<(n:Int)/\IntKind.i64.wrap ((k:Int)+1)=((k+1:Nat):Int):=by
 refine ⟨N9 ae,ae,ae,?_⟩;rw[IntWalk.i64_in _ ae];omega
theorem fX(n:Nat):decide ((n:Int)<(n:Int))=false:=N6 ae
theorem OLe.bZ(f:Nat->Option Av.Obj):OLe f f:=λj o h=>⟨o,h,cm.refl o⟩
theorem Gd{h:Nat->Option Av.Obj}{n:Nat}{A B:Av.Obj}:OLe (upd (upd h n (some A)) n (some B)) (upd h n (some B)):=λa u hu=>by
 refine ⟨u,?_,cm.refl _⟩;simp only[upd] at hu |-;by_cases a1:a=n
 ·subst a1;simpa using hu
 ·simpa [a1] using hu
set_option maxHeartbeats 4000000 in
theorem DU(b:Bk)(hb:gq b=true)(hl:b.l.length<=1000000):aI Tryz.prog 47 [eA b] (.sl 1 (rws (cw b)) .any):=by
 refine f47.aF ah (by simp[aJ,fW]) (by simp[aW,bA,Ga]) ?_;unfold c47 zz;have hroom:=vR hb;have c1:=FI b.st;have c2:=vQ (kyB b) (vN b);have hL:cw b=[vM b]::b.l.map (cW b.n):=rfl;have hB1:vM b=⟨dB (kyB b),stS b.st,false⟩:=rfl;rw[hL,hB1];unfold kyB at c2 |-;simp only at c2;clear hb hL hB1;obtain ⟨nm,st,l⟩:=b;simp only at*
 have hE:eA ⟨nm,st,l⟩= .agg [.str nm,.int .i64 st,.sl 8 (vss l) .any]:=rfl;have len:=dF l;rw[hE];have hi0:ints []=[]:=rfl;rw[hi0] at c2;generalize dB ⟨1,nm,[],[]⟩=k0 at*
 generalize stS st=s0 at*
 refine Lu c1 c2 ?_;refine Wp.le (aM.tok _ _) ?_;refine Wp.cO [1] xA7 (λb:Nat × Nat × Nat × Nat=>[(5,.sl 1 (rws ([⟨k0,s0,false⟩]::(l.take b.1).map (cW nm))) (.own b.2.1)),(6,.int .i64 (b.1:Nat))])
  (λb=>⟨upd aB 0 (some (.cells [.str nm,.int .i64 st,.sl 8 (vss l) .any])),b.2.2.1,[b.2.1],b.2.2.2⟩) (λb=>b.1<=l.length/\1<=b.2.2.1/\b.2.1<b.2.2.2) (λb=>l.length - b.1) (0,0,1,1) ⟨Ot _,N4 _,by simp⟩ rfl ?_ ?_
 ·simp only[aQ,go_sem,reduceIte,Nat.reduceEqDiff,Nat.reduceAdd,bx,List.take_zero,OQ];and_intros<;>first|exact trivial|exact ay.refl _|exact ay.any _|exact ay.trans (ay.dt rfl) (ay.slc ⟨ay.cap,trivial⟩)|(refine ay.int ?_;omega)
 rintro ⟨j,tk,n,m⟩ ⟨hj,hn2,htm⟩;simp only at hj hn2 htm;have n0:¬(0=n):=by omega
 have n1:¬(n=0):=by omega
 by_cases hc:j<l.length
 ·obtain ⟨g1,h2,h3,e1⟩:=ixF (j:=j) (n:=l.length) ae ae;have hat:=gB l j .any hc;have hsn:=xL nm l j hc;have hrm:=hroom j hc;have hlen:(rws ([⟨k0,s0,false⟩]::(l.take j).map (cW nm))).length=j+1:=by rw[sJ];simp;omega
  have e6:(j+1+1)*24<=140737488355328:=by omega
  have e7:j+1+1<4611686018427387904:=by omega
  generalize l.getD j default=v at*
  have c3:=xE v.sz v.re v.im v.g v.u;have c4:=vQ (kyV nm v) (vO nm hrm);have c5:=KH v.b hrm.2;have c6:=λk hk=>vQ (kyC nm v k) (vP nm hrm k hk);have h16:=lu hrm.2;have hP0:iy nm v 0=[⟨dB (kyV nm v),cR v.sz v.re v.im v.g v.u,false⟩]:=rfl;have hPs:=sK nm v;have hPl:=uF nm v;have hT:cW nm v=iy nm v (dG v.b):=rfl;have hch:=uG v.b (dG v.b);have hsl:=sM (chunks v.b (dG v.b));have hcl:=ie v.b (dG v.b);have hsl2:=iP (chunks v.b (dG v.b));rw[hcl] at hsl2 hsl;generalize dG v.b=cn at*
  generalize chunks v.b cn=cks at*
  unfold kyV at c4 hP0;unfold kyC at c6 hPs;simp only at c4 c6;have hi1:ints [v.id]=[.int .i64 v.id]:=rfl;have hi2:∀k:Nat,ints [v.id,k]=[.int .i64 v.id,.int .i64 k]:=λ_=>rfl;rw[hi1] at c4;simp only[hi2] at c6;unfold ez at c3;unfold cz at hat;generalize dB ⟨2,nm,v.o,[v.id]⟩=k1 at*
  generalize cR v.sz v.re v.im v.g v.u=hh at*
  refine rn3 (cj8 g1 h2 h3 @len hat n0 n1 @N7) c3 c4 c5 ?_;have VER:(some (Av.Obj.cells [.str v.o,.int .i64 v.id,.int .i64 v.sz,.int .i64 v.re,.int .i64 v.im,.bool v.g,.bool v.u,.str v.b]))=some (Av.Obj.cells [.str v.o,.int .i64 v.id,.int .i64 v.sz,.int .i64 v.re,.int .i64 v.im,.bool v.g,.bool v.u,.str v.b]):=rfl;refine Wp.le (aM.tok _ _) ?_;refine Wp.le (s':=⟨tm [(1,.ptr 0 0),(5,.sl 1 (rws ([⟨k0,s0,false⟩]::(l.take j).map (cW nm))) (.own tk)),(6,.int .i64 j),(7,.ptr n 0),(10,.sl 3 (chs (iy nm v 0)) (.own m)),(11,.sl 1 (ku cks) .any),(13,.int .i64 0)],
   ⟨upd (upd aB 0 (some (.cells [.str nm,.int .i64 st,.sl 8 (vss l) .any]))) n (some (.cells [.str v.o,.int .i64 v.id,.int .i64 v.sz,.int .i64 v.re,.int .i64 v.im,.bool v.g,.bool v.u,.str v.b])),n+1,[m,tk],m+1⟩⟩) (aM.of (aY ?_) Gd (λa ha=>ha) (N4 _) (N4 _)) ?_
  ·rw[hP0];simp only[aQ,go_sem,reduceIte,Nat.reduceEqDiff,Nat.reduceAdd,bx];and_intros<;>first|exact trivial|exact ay.refl _|exact ay.any _|exact ay.dt rfl|(refine ay.int ?_;omega)
  refine Wp.cO [1,5,6,7,11] xA7 (λb:Nat × Nat × Nat=>[(10,.sl 3 (chs (iy nm v b.1)) (.own b.2.1)),(13,.int .i64 (b.1:Nat))])
   (λb=>⟨upd (upd aB 0 (some (.cells [.str nm,.int .i64 st,.sl 8 (vss l) .any]))) n (some (.cells [.str v.o,.int .i64 v.id,.int .i64 v.sz,.int .i64 v.re,.int .i64 v.im,.bool v.g,.bool v.u,.str v.b])),n+1,[b.2.1,tk],b.2.2⟩)
   (λb=>b.1<=cn/\m<=b.2.1/\m<b.2.2) (λb=>cn - b.1) (0,m,m+1) ⟨Ot _,N4 _,by simp⟩ rfl ?_ ?_
  ·exact xSb
  rintro ⟨k,t2,m2⟩ ⟨hk,hm1,hm2⟩;simp only at hk hm1 hm2;by_cases hck:k<cn
  ·obtain ⟨kg,k2,k3,ke,e8,e9⟩:=xM hck (OI h16 aq);have c7:=c6 k (OI hk (OI h16 aq));have hx:=hsl k .any hck;rw[hch k hck] at hx;have hPk:=hPs k;have hlk:=hPl k;generalize chs (iy nm v k)=row at*
   generalize dB ⟨3,nm,v.o,[v.id,(k:Int)]⟩=kk at*
   generalize chunk v.b k=ck at*
   refine rn1 (bf kg k2 k3 hsl2 n0 n1 hx hlk e8 e9 @O4 (cj8 @Po @N8.{0} @Oa.{0} @Oo @OA.{0} @O2 @Ol @N7)) c7 ?_;refine ⟨(k+1,m2,m2+1),⟨hck,by show m<=m2;exact Nat.le_of_lt hm2,Nat.lt_succ_of_lt hm2⟩,PB hck (OL _),?_⟩;rw[hPk];have hne:decide (¬tk=t2)=true:=N9 ae;refine aM.of (aY ?_) (OLe.bZ _) (λa ha=>?_) (N4 _) (N4 _)
   ·exact cM ke
   ·simpa [hne] using ha
  ·have hk2:k=cn:=by omega
   subst hk2;have kg:=fX k;refine rn0 (cj4 kg hsl2 n0 n1) ?_;refine Wp.le (s':=⟨tm [(1,.ptr 0 0),(5,.sl 1 (rws ([⟨k0,s0,false⟩]::(l.take j).map (cW nm))) (.own tk)),(6,.int .i64 j),(10,.sl 3 (chs (iy nm v k)) .any)],
    ⟨upd aB 0 (some (.cells [.str nm,.int .i64 st,.sl 8 (vss l) .any])),n+1,[tk],m2⟩⟩) (aM.of (aY ?_) (OLe.skip (by simp[upd,aB,n1])) (λa ha=>by simp only[Oj] at ha;subst ha;simp) (N4 _) (N4 _)) ?_
   ·simp only[aQ,go_sem,reduceIte,Nat.reduceEqDiff,Nat.reduceAdd,bx];and_intros<;>first|exact trivial|exact ay.refl _|exact ay.any _|exact ay.cap|(refine ay.int ?_;omega)
   refine rn0 (bf e6 e7 hlen @O4 @Po @N8.{0} @Oa.{0} @Oo @OA.{0} @Oj.{0} @O2 @Ol) ?_;refine ⟨(j+1,m2,n+1,m2+1),⟨hc,by simp,by simp⟩,PB hc (OL _),?_⟩;refine aM.of (aY ?_) (OLe.bZ _) (λa ha=>by simpa using ha) (N4 _) (N4 _);rw[hsn,hT,<-List.cons_append,Gb];exact cM e1
 ·have hj2:j=l.length:=by omega
  subst hj2;have g1:=ixE (l.length);rw[OG];refine rn0 (cj2 g1 @len) ?_;refine aG ?_;exact ay.cap
def dy(c:Ch):Pr:=⟨c.k,c.v⟩
def gD(b:Bk):List Pr:=(cw b).flatten.map dy
def aZ(m:List Bk):List Pr:=(m.map gD).flatten
theorem xN(a:List Pr)(p:Pr):aP (a++[p])=lG (aP a) p.k p.v:=by simp[aP]
theorem KI(l:List Pr):∀p∈aP l,Ls p.k:=λp hp=>by
 have:=(pG l).2.1 p hp;simp only[shut,Bool.or_eq_false_iff,decide_eq_false_iff_not] at this;unfold Ls;omega
theorem sN{α β:Type}[Inhabited α](f:α->β)(l:List α)(j:Nat)(h:j<l.length):(l.take (j+1)).map f=(l.take j).map f++[f (l.getD j default)]:=by
 have e:l.getD j default=l[j]:=by simp[OF,N5 h]
 rw[e,OD h,Pl];simp
theorem sO(m:List Bk)(j:Nat)(h:j<m.length):aZ (m.take (j+1))=aZ (m.take j)++gD (m.getD j default):=by
 unfold aZ;rw[sN gD m j h];simp
theorem uH(l:List (List Ch))(j:Nat)(h:j<l.length):((l.take (j+1)).flatten.map dy)=(l.take j).flatten.map dy++(l.getD j []).map dy:=by
 have e:l.getD j []=l[j]:=by simp[OF,N5 h]
 rw[e,OD h,PN,Pl];simp only[List.flatten_cons,List.flatten_nil,OR]
theorem xO(m:List Bk)(j:Nat):(aZ (m.take j)).length<=(aZ m).length:=by
 have h:aZ m=aZ (m.take j)++aZ (m.drop j):=by unfold aZ;rw[<-PN,<-Pl,P3]
 rw[h,Og];omega
theorem BR(l:List (List Ch))(j:Nat):((l.take j).flatten.map dy).length<=(l.flatten.map dy).length:=by
 have h:l.flatten.map dy=(l.take j).flatten.map dy++(l.drop j).flatten.map dy:=by rw[<-Pl,<-PN,P3]
 rw[h,Og];omega
theorem vS(l:List Pr):(aP l).length<=l.length:=(pG l).2.2
theorem vT(x:Ky)(hf:x.fit):Ls (dB x):=by
 unfold dB Ls;split
 ·rename_i h;have:=oS (pI hf h);omega
 ·simp
theorem DV{b:Bk}(hb:gq b=true):∀r∈cw b,∀c∈r,Ls c.k:=by
 intro r hr c hc;unfold cw at hr;rcases OA.1 hr with rfl|hr
 ·simp only[Oj] at hc;subst hc;exact vT _ (vN b)
 ·obtain ⟨v,hv,rfl⟩:=OC.1 hr;obtain ⟨i,hi,rfl⟩:=Qt.1 hv;have hrm:=vR hb i hi;have e:b.l.getD i default=b.l[i]:=by simp[OF,N5 hi]
  rw[e] at hrm;unfold cW at hc;rcases OA.1 hc with rfl|hc
  ·exact vT _ (vO _ hrm)
  ·obtain ⟨k,hk,rfl⟩:=OC.1 hc;have h16:=lu hrm.2;have:=O6.1 hk;exact vT _ (vP _ hrm k ae)
set_option maxHeartbeats 4000000 in
theorem DW(m:List Bk)(hf:Few m)(hF:imB m=true->(aZ m).length<=100000):aI Tryz.prog 14 [cC m] (.tup [.sl 2 (prs (if imB m=true then aP (aZ m) else [])) .any,.int .i64 (imE m)]):=by
 refine f14.aF ah (by simp[aJ,dR]) (by simp[aW,aJ,bA,dX]) ?_;unfold c14 zz;have h1:=xG m hf;have len:=eK m;unfold imE at*
 cases hm:imB m with
 |false=>
  rw[hm] at h1;simp only[Oq,Od] at h1 |-;unfold cC at*
  refine Dh h1 ?_;refine aG ?_;exact ay.tup (aA.cons ay.cap (aA.refl _))
 |true=>
  rw[hm] at h1;simp only[Of] at h1 |-;unfold cC at*
  obtain ⟨hl,hok⟩:=sG hm
  replace hF:=hF hm
  refine Dh h1 ?_;refine Wp.dJ [1] xA6 (λj:Nat=>[(5,.sl 2 (prs (aP (aZ (m.take j)))) .any),(6,.int .i64 (j:Nat))]) (λj=>j<=m.length) (λj=>m.length - j) 0 (Ot _) ?_ ?_
  ·simp only[aQ,go_sem,reduceIte,Nat.reduceEqDiff,Nat.reduceAdd,bx];and_intros<;>first|exact trivial|exact ay.refl _|exact ay.any _|exact ay.cap|(refine ay.int ?_;omega)
  rintro j hj;by_cases hc:j<m.length
  ·obtain ⟨g1,g2,g3,e1⟩:=dZ hc (OI hl aq);have hat:=gC m j .any hc;have hb:=hok j hc;have hfe:=hf.at j;have hsn:=sO m j hc;have hle:=xO m (j+1);rw[hsn,Og] at hle;have c1:=DU (m.getD j default) hb hfe;have hls:=DV hb;have hFB:gD (m.getD j default)=(cw (m.getD j default)).flatten.map dy:=rfl;rw[hFB] at hsn hle;have htl:(cw (m.getD j default)).length<=1000001:=by simp only[cw,List.length_cons,PF];exact Nat.succ_le_succ hfe
   generalize cw (m.getD j default)=R at*
   generalize aZ (m.take j)=P0 at*
   generalize m.getD j default=b at*
   clear hFB;obtain ⟨nm,st,vl⟩:=b;unfold eA at hat c1;have rl:=sJ R;refine rn1 (cj6 g1 g2 g3 @len hat @N7) c1 ?_;refine Wp.dJ [1,6,7] xA6 (λk:Nat=>[(5,.sl 2 (prs (aP (P0++(R.take k).flatten.map dy))) .any),(8,.int .i64 (k:Nat))]) (λk=>k<=R.length) (λk=>R.length - k) 0 (Ot _) ?_ ?_
   ·exact cM (cj4 @O9.{0} @PH.{0} @OQ.{0,0} @OR.{0})
   rintro k hk;by_cases hck:k<R.length
   ·obtain ⟨k1,k2,k3,k4⟩:=dZ hck (OI htl aq);have hak:=Gc R k .any hck;have hsk:=uH R k hck;have hlk:=BR R (k+1);rw[hsk,Og] at hlk;have hm2:R.getD k []∈R:=by rw[show R.getD k []=R[k] by simp[OF,N5 hck]];exact Pk hck
    have hls2:=hls _ hm2;have hdd:R.getD k default=R.getD k []:=rfl;rw[hdd] at hak;generalize R.getD k []=r at*
    have hfin:P0++(R.take (k+1)).flatten.map dy=(P0++(R.take k).flatten.map dy)++r.map dy:=by rw[hsk,OX]
    have hb2:(P0++(R.take k).flatten.map dy).length+r.length<=100000:=by
     have q1:r.length=(r.map dy).length:=(PF _).symm;rw[Og,q1];exact OI ae hF
    generalize P0++(R.take k).flatten.map dy=P1 at*
    clear hlk hle hm2 hsk;have cl:=fj r;refine rn0 (cj6 k1 k2 k3 rl hak @N7) ?_;refine Wp.dJ [1,6,7,8] xA6 (λi:Nat=>[(5,.sl 2 (prs (aP (P1++(r.take i).map dy))) .any),(9,.int .i64 (i:Nat))]) (λi=>i<=r.length) (λi=>r.length - i) 0 (Ot _) ?_ ?_
    ·exact cM (cj3 @O9.{0} @OQ.{0,0} @OR.{0})
    rintro i hi;by_cases hci:i<r.length
    ·obtain ⟨i1,i2,i3,i4⟩:=dZ hci (OI (OI (Nat.le_add_left _ _) hb2) aq);have hai:=xt r i .any hci;have hm3:r.getD i default∈r:=by rw[Av.gA hci];exact Pk hci
     have hlc:=hls2 _ hm3;have hsi:=sN dy r i hci;generalize r.getD i default=c at*
     have hss:aP (P1++(r.take (i+1)).map dy)=lG (aP (P1++(r.take i).map dy)) c.k c.v:=by
      rw[hsi,<-OX,xN];rfl
     have hsl:=vS (P1++(r.take i).map dy);have hP1:(aP (P1++(r.take i).map dy)).length<=1000000:=by
      simp only[Og,PF,OV] at hsl;omega
     have cp:=Kx (aP (P1++(r.take i).map dy)) hP1 (KI _) c.k c.v hlc;unfold sf at hai;generalize aP (P1++(r.take i).map dy)=S at*
     refine rn1 (fD k1 k2 k3 i1 i2 i3 rl cl hak hai @N7) cp ?_;refine ⟨i+1,hci,PB hci (OL _),?_⟩;rw[hss];exact vj i4
    ·have hi2:i=r.length:=by omega
     subst hi2;have ig:=fX r.length;rw[OG];refine rn0 (cj7 k2 k3 ig rl cl hak @N7) ?_;refine ⟨k+1,hck,PB hck (OL _),?_⟩;rw[hfin];exact vj k4
   ·have hk2:k=R.length:=by omega
    subst hk2;have kg:=fX R.length;rw[OG];refine rn0 (cj2 kg rl) ?_;refine ⟨j+1,hc,PB hc (OL _),?_⟩;rw[hsn];exact vj e1
  ·have hj2:j=m.length:=by omega
   subst hj2;have g1:=fX m.length;rw[OG];refine rn0 (cj2 g1 @len) ?_;refine aG ?_;exact ay.refl _
theorem xP:∀(s s' x y:List UInt8),(∀b∈s,b≠0)->(∀b∈s',b≠0)->s++[0,1]++x=s'++[0,1]++y->s=s'/\x=y
 |[],[],x,y,_,_,h=>by simpa using h
 |[],b::s',x,y,_,h2,h=>by
  simp only[List.nil_append,List.cons_append,Pf] at h;exact absurd h.1.symm (h2 b ah)
 |a::s,[],x,y,h1,_,h=>by
  simp only[List.nil_append,List.cons_append,Pf] at h;exact absurd h.1 (h1 a ah)
 |a::s,b::s',x,y,h1,h2,h=>by
  simp only[List.cons_append,Pf] at h;obtain ⟨rfl,h⟩:=h;obtain ⟨rfl,rfl⟩:=xP s s' x y (λb hb=>h1 b (by simp[hb])) (λb hb=>h2 b (by simp[hb])) h;exact ⟨rfl,rfl⟩
theorem Iu{a b m:UInt8}(h:a ^^^ m=b ^^^ m):a=b:=by
 have:=Pj (· ^^^ m) h;simpa [UInt8.xor_assoc] using this
theorem Ge{m:UInt8}{a b:List UInt8}(h:bD m a=bD m b):a=b:=by
 unfold bD at h;exact (List.map_inj_right λx y=>Iu).1 h
theorem Gf:∀(b x y:Nat),x<256^b->y<256^b->be b x=be b y->x=y
 |0,x,y,hx,hy,_=>by simp at hx hy;omega
 |b+1,x,y,hx,hy,h=>by
  simp only[be,Pf] at h;obtain ⟨h1,h2⟩:=h;have hp:0<256^b:=Nat.pow_pos aq;have e1:x/256^b<256:=Nat.div_lt_of_lt_mul (by rw[<-Nat.pow_succ];exact hx);have e2:y/256^b<256:=Nat.div_lt_of_lt_mul (by rw[<-Nat.pow_succ];exact hy);have h1:x/256^b=y/256^b:=by
   have:=Pj UInt8.toNat h1;simp only[UInt8.toNat_ofNat'] at this;rw[O7 e1,O7 e2] at this;exact this
  have hb:∀z,be b z=be b (z%256^b):=be_mod b;rw[hb x,hb y] at h2;have h3:=Gf b _ _ (Rc _ hp) (Rc _ hp) h2;rw[<-Nat.div_add_mod x (256^b),<-Nat.div_add_mod y (256^b),h1,h3]
where
 be_mod:∀(b z:Nat),be b z=be b (z%256^b):=by
  intro b z;have key:∀c,c<=b->be c z=be c (z%256^b):=by
   intro c;induction c with
   |zero=>intro _;rfl
   |succ c ih=>
    intro hc;simp only[be];rw[ih ae];congr 1;apply QZ.1;simp only[UInt8.toNat_ofNat'];have e:256^b=256^c*256^(b - c):=by rw[<-QE];congr 1;omega
    have e2:(256:Nat)^(b - c)=256*256^(b - c - 1):=by rw[<-Nat.pow_succ'];congr 1;omega
    rw[e,Nat.mod_mul_right_div_self,e2,Nat.mod_mul_right_mod]
  exact key b (N4 _)
theorem KJ{a b:Nat}(ha:a<9223372036854775808)(hb:b<9223372036854775808)(h:upB a=upB b):a=b:=by
 have e:(256:Nat)^8=18446744073709551616:=by decide
 have:=Gf 8 (a+9223372036854775808) (b+9223372036854775808) (by rw[e];omega) (by rw[e];omega) h;omega
theorem KK{p q:Pt}(hp:p.ok)(hq:q.ok){x y:List UInt8}(h:ptB p++x=ptB q++y):p=q/\x=y:=by
 obtain ⟨pk,pn,ps⟩:=p;obtain ⟨qk,qn,qs⟩:=q;have P1:=hp.t;have P2:=hp.u;have Q1:=hq.t;have Q2:=hq.u;simp only at P1 P2 Q1 Q2;have h1:=hp.k;have h2:=hq.k;simp only at h1 h2;have num:∀(m:UInt8)(x y:List UInt8),(0<=pn/\pn<9223372036854775808)->(0<=qn/\qn<9223372036854775808)->bD m (upB pn.toNat)++x=bD m (upB qn.toNat)++y->pn=qn/\x=y:=by
  intro m x y a b h;obtain ⟨e1,e2⟩:=List.append_inj h (by simp[cJ,upB,aS]);have:=KJ ae ae (Ge e1);exact ⟨ae,e2⟩
 rcases h1 with rfl|rfl|rfl<;>rcases h2 with rfl|rfl|rfl
 ·simp[ptB] at h;obtain ⟨a1,a2,-⟩:=P1 rfl;obtain ⟨b1,b2,-⟩:=Q1 rfl;obtain ⟨rfl,rfl⟩:=xP ps qs x y a2 b2 (by simpa using h);rw[a1,b1];simp
 ·simp[ptB] at h
 ·simp[ptB] at h
 ·simp[ptB] at h
 ·simp[ptB] at h;obtain ⟨a1,a2,a3⟩:=P2 aq;obtain ⟨b1,b2,b3⟩:=Q2 aq;obtain ⟨rfl,rfl⟩:=num 0 x y ⟨a2,a3⟩ ⟨b2,b3⟩ h;rw[a1,b1];simp
 ·simp[ptB] at h
 ·simp[ptB] at h
 ·simp[ptB] at h
 ·simp[ptB] at h;obtain ⟨a1,a2,a3⟩:=P2 aq;obtain ⟨b1,b2,b3⟩:=Q2 aq;obtain ⟨rfl,rfl⟩:=num 255 x y ⟨a2,a3⟩ ⟨b2,b3⟩ h;rw[a1,b1];simp
theorem Ag(p:Pt):ptB p≠[]:=λh=>by have:=BM p;rw[h] at this;simp at this
theorem BS:∀{l l':List Pt},(∀p∈l,p.ok)->(∀p∈l',p.ok)->cY l=cY l'->l=l'
 |[],[],_,_,_=>rfl
 |[],q::l',_,_,h=>by
  simp only[cY,OJ,OQ,List.flatten_cons,List.flatten_nil] at h;exact absurd (List.append_eq_nil_iff.1 h.symm).1 (Ag q)
 |p::l,[],_,_,h=>by
  simp only[cY,OJ,OQ,List.flatten_cons,List.flatten_nil] at h;exact absurd (List.append_eq_nil_iff.1 h).1 (Ag p)
 |p::l,q::l',h1,h2,h=>by
  simp only[cY,OJ,List.flatten_cons] at h;obtain ⟨rfl,h3⟩:=KK (h1 p ah) (h2 q ah) h;rw[BS (λp hp=>h1 p (by simp[hp])) (λp hp=>h2 p (by simp[hp])) h3]
theorem Ah{a b:Int}(ha:1<=a/\a<=6)(hb:1<=b/\b<=6)(h:du a=du b):a=b:=by
 obtain ⟨a1,a2⟩:=ha;obtain ⟨b1,b2⟩:=hb;have A:a=1\/a=2\/a=3\/a=4\/a=5\/a=6:=by omega
 have B:b=1\/b=2\/b=3\/b=4\/b=5\/b=6:=by omega
 rcases A with rfl|rfl|rfl|rfl|rfl|rfl<;>rcases B with rfl|rfl|rfl|rfl|rfl|rfl<;>first|rfl|(revert h;decide)
theorem xQ{k:Int}:∀{a b:List Int},a.map (bY k)=b.map (bY k)->a=b:=λ{a b} h=>
 (List.map_inj_right λx y h=>by simp only[bY,Pt.mk.injEq,PC,Qk] at h;exact h).1 h
theorem key_inj{x y:Ky}(hx:x.ok)(hy:y.ok)(h:cU x=cU y):x=y:=by
 have h1:=BS (ji hx) (ji hy) h;obtain ⟨k,b,o,ns⟩:=x;obtain ⟨k',b',o',ns'⟩:=y;unfold eX at h1;simp only[Pf] at h1;obtain ⟨e1,e2,e3⟩:=h1;have ek:k=k':=Ah hx.k hy.k (by simpa [txt] using e1);have eb:b=b':=by simpa [txt] using e2
 subst ek eb;have hxe:=hx.e;have hye:=hy.e;have hxo:=hx.o;have hyo:=hy.o;simp only at hxe hye hxo hyo;by_cases hk:k=1
 ·rw[hxe hk,hye hk] at e3 |-;simp only[Of,List.nil_append] at e3;rw[xQ e3]
 ·have n1:o≠[]:=λe=>by have:=(eL (hxo hk)).1;rw[e] at this;simp at this
  have n2:o'≠[]:=λe=>by have:=(eL (hyo hk)).1;rw[e] at this;simp at this
  simp only[n1,n2,Od,List.cons_append,List.nil_append,Pf] at e3;obtain ⟨e4,e5⟩:=e3;have eo:o=o':=by simpa [txt] using e4
  rw[eo,xQ e5]
theorem qT{α:Type}{P:List α->Prop}(h0:P [])(h1:∀a x,P a->P (a++[x]))(l:List α):P l:=by
 have h:∀m:List α,P m.reverse:=λm=>by
  induction m with
  |nil=>exact h0
  |cons x m ih=>rw[List.reverse_cons];exact h1 _ x ih
 have:=h l.reverse
 rwa [List.reverse_reverse] at this
theorem Gg{α:Type}[Inhabited α]{r:α->α->Prop}(tr:∀x y z,r x y->r y z->r x z){l:List α}(h:∀i,i+1<l.length->r (l.getD i default) (l.getD (i+1) default)):l.Pairwise r:=by
 have key:∀d i,i+d+1<l.length->r (l.getD i default) (l.getD (i+d+1) default):=by
  intro d;induction d with
  |zero=>intro i hi;exact h i hi
  |succ d ih=>intro i hi;exact tr _ _ _ (ih i ae) (h (i+d+1) ae)
 rw[PV];intro i j hi hj hij;have:=key (j - i - 1) i ae;rw[show i+(j - i - 1)+1=j by omega,Av.gA hi,Av.gA hj] at this;exact this
theorem Gh{l:List Pr}(h:l.Pairwise λx y=>x.k≠y.k):∀x∈l,∀y∈l,x.k=y.k->x=y:=by
 intro x hx y hy e;obtain ⟨i,hi,rfl⟩:=Qt.1 hx;obtain ⟨j,hj,rfl⟩:=Qt.1 hy;have hp:=PV.1 h;rcases Nat.lt_trichotomy i j with h1|h1|h1
 ·exact absurd e (hp i j hi hj h1)
 ·subst h1;rfl
 ·exact absurd e.symm (hp j i hj hi h1)
theorem Ai{l:List Pr}(h:l.Pairwise λx y=>x.k≠y.k):l.Nodup:=h.imp λh e=>h (by rw[e])
theorem pN{k v:Bs}:∀{l:List Pr}{b:Bool},(∀x∈l,x.k≠k)->(eu k v b l).length=l.length+(if b then 0 else 1)/\∀x,x∈eu k v b l↔(b=false/\x=⟨k,v⟩)\/x∈l
 |[],b,_=>by cases b<;>simp[eu]
 |p::l,b,h=>by
  have h1:=pN (k:=k) (v:=v) (l:=l) (b:=true) λx hx=>h x (by simp[hx]);have h2:=pN (k:=k) (v:=v) (l:=l) (b:=false) λx hx=>h x (by simp[hx]);have hp:=h p ah;simp only[Of,Od,Oq,Nat.add_zero,Bool.true_eq_false,false_and,false_or,PC] at h1 h2;rw[eu];cases b<;>cases Op.bytesLess p.k k<;>simp[hp,h1.1,h2.1,h1.2,h2.2];all_goals (try intro x;try constructor)<;>(try (intro h;rcases h with h|h|h<;>simp[h]))
theorem sP{l:List Pr}(h:l.Pairwise λx y=>x.k≠y.k)(hs:∀p∈l,shut p.k p.v=false):(aP l).length=l.length/\∀x,x∈aP l↔x∈l:=by
 revert h hs;refine qT (P:=λl=>(l.Pairwise λx y=>x.k≠y.k)->(∀p∈l,shut p.k p.v=false)->(aP l).length=l.length/\∀x,x∈aP l↔x∈l) (λ_ _=>by simp[aP]) (λa p ih h hs=>?_) l;have hp:=List.pairwise_append.1 h;obtain ⟨i1,i2⟩:=ih hp.1 λq hq=>hs q (by simp[hq]);have hsp:=hs p ah;rw[xN,lG,Ob (by rw[hsp];simp)];have:=pN (k:=p.k) (v:=p.v) (l:=aP a) (b:=false) λx hx=>hp.2.2 x ((i2 x).1 hx) p ah;refine ⟨by rw[this.1,i1];simp,λx=>?_⟩;rw[this.2,i2];simp only[PC,OS,Oj];exact or_comm
theorem iz(l:List Pr):(aP l).Pairwise λx y=>Op.bytesLess x.k y.k=true:=(pG l).1
theorem mq{a b c:List UInt8}(h1:Op.bytesLess a b=true)(h2:Op.bytesLess b c=true):Op.bytesLess a c=true:=Batch.eI h1 h2
def vU(n:List UInt8)(v:Vs):List Ky:=kyV n v::(List.range (dG v.b)).map (kyC n v)
def vV(b:Bk):List Ky:=kyB b::(b.l.map (vU b.n)).flatten
def Aj(m:List Bk):List Ky:=(m.map vV).flatten
theorem xR(n:List UInt8)(v:Vs):(cW n v).map (λc=>c.k)=(vU n v).map dB:=by
 simp[cW,vU,chV,Function.comp_def,chC]
theorem Ak(b:Bk):(gD b).map (λp=>p.k)=(vV b).map dB:=by
 unfold gD cw vV;simp only[List.flatten_cons,Pl,OJ,OQ,Qr,List.singleton_append,List.map_flatten,Function.comp_def];congr 1;congr 1;refine Pb λv _=>?_;exact xR b.n v
theorem sQ(m:List Bk):(aZ m).map (λp=>p.k)=(Aj m).map dB:=by
 unfold aZ Aj;simp only[List.map_flatten,Qr,Function.comp_def];congr 1;exact Pb λb _=>Ak b
theorem jJ{m:List Bk}(h:imB m=true){b:Bk}(hb:b∈m):gq b=true:=by
 obtain ⟨i,hi,rfl⟩:=Qt.1 hb;have:=(sG h).2 i hi
 rwa [show m.getD i default=m[i] by simp[OF,N5 hi]] at this
theorem qw{b:Bk}(h:gq b=true){v:Vs}(hv:v∈b.l):v.okV=true:=by
 obtain ⟨i,hi,rfl⟩:=Qt.1 hv;unfold gq at h;simp only[Oh] at h;have:=kr h.2 i hi
 rwa [show b.l.getD i default=b.l[i] by simp[OF,N5 hi]] at this
theorem Al{v:Vs}(h:v.okV=true):cf v.o=0/\0<=v.id/\v.id<=1152921504606846976:=by
 simp only[Vs.okV,Oh,Ov] at h;exact ⟨h.1.1.1,h.1.1.2,h.1.2⟩
theorem mr{m:List Bk}(h:imB m=true):∀x∈Aj m,x.ok:=by
 intro x hx;unfold Aj at hx;obtain ⟨l,hl,hx⟩:=Pn.1 hx;obtain ⟨b,hb,rfl⟩:=OC.1 hl;have hob:=jJ h hb;have hbn:bW b.n=0:=by
  unfold gq at hob;simp only[Oh,Ov] at hob;exact hob.1.1
 unfold vV at hx;rcases OA.1 hx with rfl|hx
 ·exact ⟨by simp[kyB],rfl,by simp[kyB],λ_=>rfl,hbn,λh=>absurd rfl h⟩
 ·obtain ⟨l,hl,hx⟩:=Pn.1 hx;obtain ⟨v,hv,rfl⟩:=OC.1 hl;have hov:=qw hob hv;obtain ⟨h1,h2,h3⟩:=Al hov;unfold vU at hx;rcases OA.1 hx with rfl|hx
  ·exact ⟨by simp[kyV],rfl,by simp[kyV];omega,λh=>absurd h (by simp[kyV]),hbn,λ_=>h1⟩
  ·obtain ⟨k,hk,rfl⟩:=OC.1 hx;have:=O6.1 hk;have h16:=lu (oW hov).2;exact ⟨by simp[kyC],rfl,by simp[kyC];omega,λh=>absurd h (by simp[kyC]),hbn,λ_=>h1⟩
theorem jj{m:List Bk}(h:imB m=true):m.Pairwise λa b=>Op.bytesLess a.n b.n=true:=by
 refine Gg (r:=λa b:Bk=>Op.bytesLess a.n b.n=true) (λx y z h1 h2=>mq h1 h2) λi hi=>?_;unfold imB at h;simp only[Oh,OK,O6] at h;have:=h.2 (i+1) hi;unfold oQ at this;simp only[Oh,OZ,Ov,Nat.add_sub_cancel] at this;rcases this.2 with h|h
 ·omega
 ·exact h
theorem Am{a b c:Vs}(h1:a.next b=true)(h2:b.next c=true):a.next c=true:=by
 unfold Vs.next at*
 simp only[OZ,Oh,Ov] at*
 rcases h1 with h1|⟨h1,h3⟩ <;>rcases h2 with h2|⟨h2,h4⟩
 ·exact .inl (mq h1 h2)
 ·rw[<-h2];exact .inl h1
 ·rw[h1];exact .inl h2
 ·exact .inr ⟨h1.trans h2,ae⟩
theorem qU{b:Bk}(h:gq b=true):b.l.Pairwise λu v=>u.next v=true:=by
 refine Gg (r:=λu v:Vs=>u.next v=true) (λx y z h1 h2=>Am h1 h2) λi hi=>?_;unfold gq at h;simp only[Oh] at h;have h:=h.2;unfold cS at h;simp only[OK,O6] at h;have:=h (i+1) hi;unfold jy at this;simp only[Oh,OZ,Ov,Nat.add_sub_cancel] at this;rcases this.1.2 with h|h
 ·omega
 ·exact h
theorem next_ne{u v:Vs}(h:u.next v=true):u.o≠v.o\/u.id≠v.id:=by
 unfold Vs.next at h;simp only[OZ,Oh,Ov] at h;rcases h with h|⟨h1,h2⟩
 ·exact .inl (jG h)
 ·exact .inr ae
theorem qV{n:List UInt8}{v:Vs}{x:Ky}(h:x∈vU n v):x.b=n/\x.o=v.o/\x.ns.head? =some v.id/\x.k≠1:=by
 unfold vU at h;rcases OA.1 h with rfl|h
 ·exact ⟨rfl,rfl,rfl,by simp[kyV]⟩
 ·obtain ⟨k,hk,rfl⟩:=OC.1 h;exact ⟨rfl,rfl,rfl,by simp[kyC]⟩
theorem BT{b:Bk}{x:Ky}(h:x∈vV b):x.b=b.n:=by
 unfold vV at h;rcases OA.1 h with rfl|h
 ·rfl
 ·obtain ⟨l,hl,hx⟩:=Pn.1 h;obtain ⟨v,hv,rfl⟩:=OC.1 hl;exact (qV hx).1
theorem An(n:List UInt8)(v:Vs):(vU n v).Pairwise (· ≠ ·):=by
 unfold vU;refine PA.2 ⟨λx hx=>?_,?_⟩
 ·obtain ⟨k,hk,rfl⟩:=OC.1 hx;simp[kyV,kyC]
 ·refine PX.2 (List.Pairwise.imp (λ{a b} h e=>h ?_) (List.nodup_range:(List.range (dG v.b)).Nodup));have e2:((a:Int))=(b:Int):=by simpa [kyC] using e
  omega
theorem Ao{b:Bk}(h:gq b=true):(vV b).Pairwise (· ≠ ·):=by
 unfold vV;refine PA.2 ⟨λx hx e=>?_,?_⟩
 ·obtain ⟨l,hl,hx⟩:=Pn.1 hx;obtain ⟨v,hv,rfl⟩:=OC.1 hl;have:=(qV hx).2.2.2;rw[<-e] at this;exact this rfl
 ·refine List.pairwise_flatten.2 ⟨λl hl=>?_,?_⟩
  ·obtain ⟨v,hv,rfl⟩:=OC.1 hl;exact An _ _
  ·refine PX.2 (List.Pairwise.imp (λ{u v} hn x hx y hy e=>?_) (qU h));subst e;obtain ⟨-,a2,a3,-⟩:=qV hx;obtain ⟨-,b2,b3,-⟩:=qV hy;rcases next_ne hn with h|h
   ·exact h (a2.symm.trans b2)
   ·exact h (Rh (a3.symm.trans b3))
theorem Ap{m:List Bk}(h:imB m=true):(Aj m).Pairwise (· ≠ ·):=by
 unfold Aj;refine List.pairwise_flatten.2 ⟨λl hl=>?_,?_⟩
 ·obtain ⟨b,hb,rfl⟩:=OC.1 hl;exact Ao (jJ h hb)
 ·refine PX.2 (List.Pairwise.imp (λ{a b} hn x hx y hy e=>?_) (jj h));subst e;exact jG hn ((BT hx).symm.trans (BT hy))
theorem ik{x:Ky}(h:x.ok):dB x=cU x:=by
 unfold dB;have:gr x=0:=by
  unfold gr;have h1:iJ x=true:=by
   unfold iJ mo;simp only[Oh,OK,Ov,OZ,Qv,decide_eq_false_iff_not];refine ⟨⟨λn hn=>(h.r n hn).1,h.n.symm⟩,?_⟩;by_cases hk:x.k=1
   ·exact .inr (h.e hk)
   ·exact .inl hk
  rw[h1,Oi rfl,Oi h.b];split
  ·rfl
  ·exact h.o ‹_›
 rw[Oi this]
theorem gF{m:List Bk}(h:imB m=true):(aZ m).Pairwise λx y=>x.k≠y.k:=by
 have h1:((Aj m).map dB).Pairwise (· ≠ ·):=by
  refine PX.2 ?_;refine QX (λ{a b} ha hb hn e=>hn ?_) (Ap h);rw[ik (mr h a ha),ik (mr h b hb)] at e;exact key_inj (mr h a ha) (mr h b hb) e
 rw[<-sQ] at h1;exact PX.1 h1
theorem DX(s:List UInt8)(k:Nat):(chunk s k).length<=160:=by
 unfold chunk;rw[OY,OV];omega
theorem DY(v:Vs):(jI v).length<=11:=by
 unfold jI cR;split
 ·rw[dN];exact N4 _
 ·simp
theorem Iv(v:Int):(stS v).length<=1:=by unfold stS;split<;>simp
theorem sR{m:List Bk}(h:imB m=true):∀p∈aZ m,shut p.k p.v=false:=by
 intro p hp;have hk:p.k.length<=81:=by
  have:p.k∈(aZ m).map (λp=>p.k):=OC.2 ⟨p,hp,rfl⟩;rw[sQ] at this;obtain ⟨x,hx,e⟩:=OC.1 this;have ho:=mr h x hx;rw[<-e,ik ho];exact oS ho
 have hv:p.v.length<=160:=by
  unfold aZ at hp;obtain ⟨l,hl,hp⟩:=Pn.1 hp;obtain ⟨b,hb,rfl⟩:=OC.1 hl;unfold gD at hp;obtain ⟨c,hc,rfl⟩:=OC.1 hp;obtain ⟨r,hr,hc⟩:=Pn.1 hc;unfold cw at hr;rcases OA.1 hr with rfl|hr
  ·simp only[Oj] at hc;subst hc;have:=Iv b.st;show (stS b.st).length<=160;omega
  ·obtain ⟨v,hv,rfl⟩:=OC.1 hr;unfold cW at hc;rcases OA.1 hc with rfl|hc
   ·have:=DY v;show (jI v).length<=160;omega
   ·obtain ⟨k,hk,rfl⟩:=OC.1 hc;exact DX _ _
 simp only[shut,Bool.or_eq_false_iff,decide_eq_false_iff_not];omega
theorem Gi{l:List Pr}(h:l.Pairwise λx y=>x.k≠y.k):∀x∈l,∀y∈l,x=y\/Op.bytesLess x.k y.k=true\/Op.bytesLess y.k x.k=true:=λx hx y hy=>by
 rcases Batch.fg x.k y.k with h1|h1|h1
 ·exact .inr (.inl h1)
 ·exact .inl (Gh h x hx y hy h1)
 ·exact .inr (.inr h1)
def rdT:List UInt8->Option (List UInt8 × Nat)
 |[]=>none
 |[_]=>none
 |a::b::r=>if a≠0 then (rdT (b::r)).map λx=>(a::x.1,x.2+1) else if b=255 then (rdT r).map λx=>(0::x.1,x.2+2) else if b=1 then some ([],2) else none
def lH(l:List UInt8):List UInt8:=l.set 0 (l.getD 0 0 ^^^ 128)
def rdN(m:UInt8)(b:List UInt8):Int:=i64 (lH (bD m b))
def rdP:List UInt8->Option (Pt × Nat)
 |[]=>none
 |a::r=>if a=2 then (rdT r).map λx=>(⟨1,0,x.1⟩,x.2+1) else if a=3 then (if r.length<8 then none else some (⟨2,rdN 0 (r.take 8),[]⟩,9)) else if a=4 then (if r.length<8 then none else some (⟨3,rdN 255 (r.take 8),[]⟩,9)) else none
theorem vW:∀{s t n},rdT s=some (t,n)->2<=n/\n<=s.length
 |[],_,_,h=>by simp[rdT] at h
 |[_],_,_,h=>by simp[rdT] at h
 |a::b::r,t,n,h=>by
  simp only[rdT] at h;split at h
  ·obtain ⟨⟨t',n'⟩,h1,h2⟩:=Oc.1 h;have:=vW h1;simp only[Ow] at h2;simp only[List.length_cons] at*
   omega
  ·split at h
   ·obtain ⟨⟨t',n'⟩,h1,h2⟩:=Oc.1 h;have:=vW h1;simp only[Ow] at h2;simp only[List.length_cons] at*
    omega
   ·split at h
    ·simp only[Om,Ow] at h;simp only[List.length_cons];omega
    ·cases h
theorem qW{s:List UInt8}{p:Pt}{n:Nat}(h:rdP s=some (p,n)):1<=n/\n<=s.length:=by
 cases s with
 |nil=>simp[rdP] at h
 |cons a r=>
  simp only[rdP] at h;split at h
  ·obtain ⟨⟨t',n'⟩,h1,h2⟩:=Oc.1 h;have:=vW h1;simp only[Ow] at h2;simp only[List.length_cons];omega
  ·split at h
   ·split at h
    ·cases h
    ·simp only[Om,Ow] at h;simp only[List.length_cons];omega
   ·split at h
    ·split at h
     ·cases h
     ·simp only[Om,Ow] at h;simp only[List.length_cons];omega
    ·cases h
def qz:Nat->List UInt8->Option (List Pt)
 |0,s=>if s=[] then some [] else none
 |k+1,s=>if s=[] then some [] else match rdP s with
  |none=>none
  |some (p,n)=>(qz k (s.drop n)).map (p:: ·)
theorem uI:∀{k j:Nat}{s:List UInt8},s.length<=k->s.length<=j->qz k s=qz j s
 |0,0,_,_,_=>rfl
 |0,j+1,s,h,_=>by
  have:s=[]:=List.eq_nil_of_length_eq_zero ae;subst this;simp[qz]
 |k+1,0,s,_,h=>by
  have:s=[]:=List.eq_nil_of_length_eq_zero ae;subst this;simp[qz]
 |k+1,j+1,s,h1,h2=>by
  simp only[qz];split
  ·rfl
  ·cases hp:rdP s with
   |none=>rfl
   |some x=>
    obtain ⟨p,n⟩:=x;have:=qW hp;simp only;rw[uI (k:=k) (j:=j) (by rw[OY];omega) (by rw[OY];omega)]
def oX(s:List UInt8):Option (List Pt):=qz s.length s
theorem xS:oX []=some []:=rfl
theorem kv{s:List UInt8}(h:s≠[]):oX s=match rdP s with|none=>none|some (p,n)=>(oX (s.drop n)).map (p:: ·):=by
 unfold oX;obtain ⟨k,hk⟩:∃k,s.length=k+1:=⟨s.length - 1,by have:=Qn.2 h;omega⟩;rw[hk];simp only[qz,Ob h];cases hp:rdP s with
 |none=>rfl
 |some x=>
  obtain ⟨p,n⟩:=x;have:=qW hp;simp only;rw[uI (k:=k) (j:=(s.drop n).length) (by rw[OY];omega) (N4 _)]
def iQ(s:List UInt8):List Pt:=if 128<s.length then [] else (oX s).getD []
def jR(s:List UInt8):Int:=if 128<s.length then 5 else if (oX s).isSome then 0 else 4
theorem kz(c:UInt8)(l:List UInt8):val (c::l)=c.toNat*256^l.length+val l:=by
 have key:∀(l:List UInt8)(a:Nat),l.foldl (λn c=>n*256+c.toNat) a=a*256^l.length+val l:=by
  intro l;induction l with
  |nil=>intro a;simp[Batch.val]
  |cons c l ih=>
   intro a;rw[List.foldl_cons,ih,List.length_cons];have:val (c::l)=c.toNat*256^l.length+val l:=by
    show (c::l).foldl _ 0=_;rw[List.foldl_cons,ih];simp
   rw[this,Pz,Nat.pow_succ,Rl,Nat.mul_comm 256,Rk]
 have:=key l c.toNat;show (c::l).foldl _ 0=_;rw[List.foldl_cons];simpa using this
theorem KL(a:UInt8):(a ^^^ 128).toNat=if a.toNat<128 then a.toNat+128 else a.toNat - 128:=by
 have h:∀x:BitVec 8,(x ^^^ 128#8).toNat=if x.toNat<128 then x.toNat+128 else x.toNat - 128:=by decide
 exact h a.toBitVec
theorem NW(n:Nat)(h:n<18446744073709551616):lK .u64 (n:Int) 9223372036854775808=((if n<9223372036854775808 then n+9223372036854775808 else n - 9223372036854775808:Nat):Int):=by
 split
 ·exact FQ n ‹_›
 ·have e:=FQ (n - 9223372036854775808) ae;have e1:n - 9223372036854775808+9223372036854775808=n:=by omega
  rw[e1] at e;rw[<-e];unfold lK;change IntKind.u64.wrap (((BitVec.ofInt 64 (IntKind.u64.wrap (((BitVec.ofInt 64 ((n - 9223372036854775808:Nat):Int) ^^^ BitVec.ofInt 64 9223372036854775808).toNat:Nat):Int)) ^^^ BitVec.ofInt 64 9223372036854775808).toNat:Nat):Int)=_;generalize hb:BitVec.ofInt 64 ((n - 9223372036854775808:Nat):Int)=b;have hw:IntKind.u64.wrap (((b ^^^ BitVec.ofInt 64 9223372036854775808).toNat:Nat):Int)=(((b ^^^ BitVec.ofInt 64 9223372036854775808).toNat:Nat):Int):=IntWalk.u64_in _ (by have:=(b ^^^ BitVec.ofInt 64 9223372036854775808).isLt;omega);rw[hw,BitVec.ofInt_natCast,BitVec.ofNat_toNat,BitVec.setWidth_eq,BitVec.xor_assoc,BitVec.xor_self,BitVec.xor_zero,<-hb];rw[BitVec.ofInt_natCast,QU,O7 ae];exact IntWalk.u64_in _ ae
theorem Iw{l:List UInt8}(h:l.length=8):lK .u64 (val l:Int) 9223372036854775808=(val (lH l):Int):=by
 cases l with
 |nil=>simp at h
 |cons a r=>
  simp only[List.length_cons] at h;have hr:r.length=7:=by omega
  have h1:=kz a r;have h2:=eW r;rw[hr] at h1 h2;have e:(256:Nat)^7=72057594037927936:=by decide
  rw[e] at h1 h2;have ha:=a.toNat_lt;have h3:val (lH (a::r))=(a ^^^ 128).toNat*72057594037927936+val r:=by
   have:lH (a::r)=(a ^^^ 128)::r:=rfl;rw[this,kz,hr,e]
  rw[h3,KL,h1,NW _ ae];congr 1;split<;>split<;>omega
theorem sS(v c:Nat)(hv:v<72057594037927936)(hc:c<256):orI .u64 ((v*256:Nat):Int) (c:Int)=((v*256+c:Nat):Int):=by
 unfold orI;change IntKind.u64.wrap (((BitVec.ofInt 64 ((v*256:Nat):Int) ||| BitVec.ofInt 64 (c:Int)).toNat:Nat):Int)=_;rw[BA v c hv hc];exact IntWalk.u64_in _ ae
theorem Gj(b:List UInt8)(hb:b.length=8)(m:UInt8):aI Tryz.prog 199 [.str b,.int .u8 m.toNat] (.int .i64 (rdN m b)):=by
 refine f199.aF ah rfl rfl ?_;unfold Ml zz;have lb:=bm b;have lm:=cJ m b;have vt:=Iw (l:=bD m b) (by rw[lm,hb]);have hv:∀j,j<=8->val ((bD m b).take j)<256^j:=λj hj=>by
  have:=eW ((bD m b).take j)
  rwa [OV,lm,hb,P4 hj] at this
 have hstep:∀j,j<8->val ((bD m b).take (j+1))=val ((bD m b).take j)*256+(b.getD j 0 ^^^ m).toNat:=λj hj=>by
  rw[oL _ _ (by rw[lm,hb];exact hj)];congr 2;simp[bD,List.getD,N5 (show j<b.length by omega)]
 refine rf0 lb ?_;refine Wp.le (s':=⟨tm [(1,.int .u8 m.toNat),(5,.int .u64 0),(9,.sl 1 (aD b) .any),(10,.int .i64 8),(11,.int .i64 0)],H0 0 1⟩) (aM.of (aY ?_) (λa o ho=>by cases ho) (λa ha=>by cases ha) (N4 _) (N4 _)) ?_
 ·have h8:((b.length:Nat):Int)=8:=by omega
  simp only[aQ,go_sem,reduceIte,Nat.reduceEqDiff,Nat.reduceAdd,bx,h8];and_intros<;>first|exact trivial|exact ay.refl _|exact ay.any _|exact ay.cap|(refine ay.int ?_;omega)
 refine Wp.dJ [1,9,10] xA6 (λj:Nat=>[(5,.int .u64 (val ((bD m b).take j))),(11,.int .i64 (j:Nat))]) (λj=>j<=8) (λj=>8 - j) 0 (Ot _) ?_ ?_
 ·exact cM @O9.{0}
 rintro j hj;by_cases hc:j<8
 ·have g1:decide ((j:Int)<8)=true:=N9 ae;have g2:(0:Int)<=(j:Int):=by omega
  have g3:(j:Int)<(b.length:Int):=by omega
  have hat:(aD b).getD j .any=byte (b.getD j 0):=by
   exact jg b j .any ae
  unfold byte at hat;have hvj:=hv j ae;have hpw:(256:Nat)^j<=256^7:=Px ae ae;have e7:(256:Nat)^7=72057594037927936:=by decide
  rw[e7] at hpw;have hs:=hstep j hc;have x0:=FP (b.getD j 0) m;have hc2:=(b.getD j 0 ^^^ m).toNat_lt;generalize val ((bD m b).take j)=v at*
  have e1:IntKind.u64.wrap ((v:Int)*2^(min (Int.toNat 8) 64))=((v*256:Nat):Int):=by
   rw[show min (Int.toNat 8) 64=8 from rfl,IntWalk.u64_in _ ae];omega
  have e2:¬(8:Int)<0:=by omega
  have o1:=sS v _ ae hc2;generalize (b.getD j 0 ^^^ m).toNat=c at*
  have e3:IntKind.u64.wrap (c:Int)=(c:Int):=IntWalk.u64_in _ ae;have e5:IntKind.i64.wrap ((j:Int)+1)=((j+1:Nat):Int):=by rw[IntWalk.i64_in _ ae];omega
  refine rf0 (bf g1 g2 g3 lb hat x0 wY e1 e2 e3 o1 (cj2 @N7 @Ol)) ?_;refine ⟨j+1,ae,ae,?_⟩;rw[hs];exact vj e5
 ·have hj8:j=8:=by omega
  subst hj8;have ht:(bD m b).take 8=bD m b:=O8 (by rw[lm,hb];exact N4 _);have g1:decide (((8:Nat):Int)<8)=false:=rfl;rw[ht];refine rf0 (cj2 g1 vt) ?_;refine aG ?_;exact ay.refl _
def oY:Pt:=⟨0,0,[]⟩
def rdR(s:List UInt8):Pt × Nat:=(rdP s).getD (oY,0)
theorem dS(c:UInt8)(k:Nat)(hk:k<256):decide (((c.toNat:Nat):Int)=(k:Int))=decide (c=UInt8.ofNat k):=by
 rw[Ra];constructor
 ·intro h;apply QZ.1;rw[UInt8.toNat_ofNat',O7 hk];omega
 ·rintro rfl;rw[UInt8.toNat_ofNat',O7 hk]
theorem Aq(l:List UInt8):bD 0 l=l:=by simp[bD]
theorem Ix(b:List UInt8):mix b b.length=bD 255 b:=by
 unfold mix bD;rw[OG,List.drop_length,OR];exact Pb λx _=>(FV x).symm
theorem xU(a:UInt8)(r:List UInt8)(hr:r.length<=1000)(d:Bool)(ha:a=if d then 4 else 3):aI Tryz.prog 163 [.str (a::r)] (.tup [bX (rdR (a::r)).1,.int .i64 (rdR (a::r)).2]):=by
 refine f163.aF ah rfl rfl ?_;unfold H2 zz;have hsl:(a::r).length=r.length+1:=rfl;have l0:(0:Int)<(((a::r).length:Nat):Int):=by omega
 have g0:(a::r).getD 0 0=a:=rfl;have q3:=dS a 3 aq;have q4:=dS a 4 aq;have e3:decide (a=UInt8.ofNat 3)= !d:=by rw[ha];cases d<;>decide
 have e4:decide (a=UInt8.ofNat 4)=d:=by rw[ha];cases d<;>decide
 rw[e3] at q3;rw[e4] at q4;have hbyte:((3:Nat):Int)=3:=rfl;have hbyte4:((4:Nat):Int)=4:=rfl;rw[hbyte] at q3;rw[hbyte4] at q4;by_cases h8:r.length<8
 ·have hR:rdR (a::r)=(oY,0):=by
   unfold rdR rdP;rw[ha];cases d<;>simp[h8]
  have d1:decide ((((a::r).length:Nat):Int)<9)=true:=N9 ae;rw[hR];unfold oY bX;generalize hs0:a::r=s0 at*
  cases d
  ·refine rf0 (fD l0 g0 @byte.eq_1 q3 @q4 d1 Int.toNat_zero @OU @Ol @OB @Oy) ?_;refine aG ?_;exact ay.refl _
  ·refine rf0 (fD l0 g0 @byte.eq_1 q3 @q4 d1 Int.toNat_zero @OU @Ol @OB @Oy) ?_;refine aG ?_;exact ay.refl _
 ·have d1:decide ((((a::r).length:Nat):Int)<9)=false:=N6 ae;have x1:(9:Int)<=(((a::r).length:Nat):Int):=by omega
  have x0:(0:Int)<=1:=by decide
  have x2:(1:Int)<=((9:Nat):Int):=by decide
  have x3:(0:Int)<=9:=by decide
  have t1:Int.toNat 1=1:=rfl;have t9:Int.toNat 9=9:=rfl;have hsub:((a::r).take 9).drop 1=r.take 8:=rfl;have hR:rdR (a::r)=(⟨if d then 3 else 2,rdN (if d then 255 else 0) (r.take 8),[]⟩,9):=by
   unfold rdR rdP;rw[ha];cases d<;>simp[h8]
  rw[hR];have h8':(r.take 8).length=8:=by simp;omega
  generalize hs0:a::r=s0 at*
  generalize hB:r.take 8=b at*
  cases d
  ·have xk:IntKind.i64.wrap (IntKind.i64.wrap ((a.toNat:Nat):Int) - 1)=2:=by rw[ha];rfl
   refine rf0 (fD l0 g0 @byte.eq_1 q3 @q4 d1 Int.toNat_zero @OU @Ol @OB @Oy) ?_;refine Wp.zp ?_;refine aw.op1 af xA1 ?_;simp only[bL];refine aw.op1 af (by simp only[go_sem,reduceIte,Nat.reduceEqDiff,Nat.reduceAdd,bx,x0,x1,x2,x3,t1,t9,hsub,Option.bind_some,Option.map_some];exact rfl) ?_;simp only[bL];refine aw.s2b (l:=b) af (by simp only[go_sem,reduceIte,Nat.reduceEqDiff,hsub]) ae ?_;simp only[bL];refine aw.evF xAc ?_;refine dI ?_;refine Wp.le (s':=⟨tm [(0,.str s0),(2,.ptr 0 0),(4,.bool false),(5,.tsl 1 1 0 b.length none),(6,.int .i64 0)],⟨upd (upd aB 0 (some (.cells [.int .i64 0,.int .i64 0,.str []]))) 1 (some (dx b)),2,[],0⟩⟩) (aM.of (aY ?_) (OLe.bZ _) (λa ha=>ha) (N4 _) (N4 _)) ?_
   ·exact xSb
   refine Wp.cO [0,2,4,5] xA7 (λj:Unit=>[(6,.int .i64 0)]) (λj=>⟨upd (upd aB 0 (some (.cells [.int .i64 0,.int .i64 0,.str []]))) 1 (some (dx b)),2,[],0⟩) (λ_=>True) (λ_=>0) () trivial rfl ?_ ?_
   ·exact xSb
   rintro - -
   have z1:decide ((0:Int)<8)=true:=rfl;have hB0:b.length=8:=h8';have l1:(0:Int)<((b.length:Nat):Int):=by omega
   have xx:=FP (b.getD 0 0) 128;have xy:((128:UInt8).toNat:Int)=128:=rfl;rw[xy] at xx;have htop:lH (bD 0 b)=b.set 0 (b.getD 0 0 ^^^ 128):=by rw[Aq];rfl
   have hlt:(b.set 0 (b.getD 0 0 ^^^ 128)).length=b.length:=by rw[List.length_set]
   refine rf0 (cj7 z1 l1 Int.toNat_zero @OU @Ol @QN @Nat.add_zero) ?_;refine aw.wZ (l:=b) af av (by simp only[upd,reduceIte]) ae ?_;simp only[bL];refine aw.evF (xAd (cj7 xx l1 Int.toNat_zero @OU @Ol @QN @Nat.add_zero)) ?_;refine aw.rY (b:=b.getD 0 0 ^^^ 128) (l:=b) af av (by simp only[upd,reduceIte]) (by simp only[go_sem,reduceIte,Nat.reduceEqDiff]) ae ?_;try simp only[bL]
   refine aw.nil ?_;have hS:lH (bD 0 b)=b.set 0 (b.getD 0 0 ^^^ 128):=htop;refine Wp.le (aM.Ly _ _ 1 5 (l:=b.set 0 (b.getD 0 0 ^^^ 128)) (c:=none) (by simp only[upd,reduceIte]) (by simp only[go_sem,reduceIte,Nat.reduceEqDiff];rw[hlt])) ?_;rw[<-hS];have hSl:(lH (bD 0 b)).length=8:=by rw[hS,hlt];exact h8'
   have cn:=iU (lH (bD 0 b)) 0 8 ae ae ae;have hN:i64 (((lH (bD 0 b)).drop 0).take 8)=rdN 0 b:=by
    rw[Pw,O8 ae];rfl
   rw[hN] at cn;have z0:((0:Nat):Int)=0:=rfl;have z8:((8:Nat):Int)=8:=rfl;rw[z0,z8] at cn;clear hS htop hlt hB0 hN;generalize lH (bD 0 b)=S at*
   refine Wp.le (s':=⟨tm [(0,.str s0),(2,.ptr 0 0),(5,.sl 1 (aD S) .any)],⟨upd aB 0 (some (.cells [.int .i64 0,.int .i64 0,.str []])),2,[],0⟩⟩) (aM.of (aY ?_) ?_ (λa ha=>ha) (N4 _) (N4 _)) ?_
   ·exact cM (cj3 @unT.eq_1 @decide_false @Oq)
   ·intro j o ho;refine ⟨o,?_,cm.refl _⟩;simp only[upd,aB] at ho |-;split at ho
    ·rename_i e;subst e;simpa using ho
    ·cases ho
   refine rn1 (iw l0 g0 @byte.eq_1 xk @bR @Oz.{0,0} @O2 Int.toNat_zero @OU @Ol) cn ?_;refine aG ?_;exact ay.refl _
  ·have xk:IntKind.i64.wrap (IntKind.i64.wrap ((a.toNat:Nat):Int) - 1)=3:=by rw[ha];rfl
   refine rf0 (fD l0 g0 @byte.eq_1 q3 @q4 d1 Int.toNat_zero @OU @Ol @OB @Oy) ?_;refine Wp.zp ?_;refine aw.op1 af xA1 ?_;simp only[bL];refine aw.op1 af (by simp only[go_sem,reduceIte,Nat.reduceEqDiff,Nat.reduceAdd,bx,x0,x1,x2,x3,t1,t9,hsub,Option.bind_some,Option.map_some];exact rfl) ?_;simp only[bL];refine aw.s2b (l:=b) af (by simp only[go_sem,reduceIte,Nat.reduceEqDiff,hsub]) ae ?_;simp only[bL];refine aw.evF xAc ?_;refine dI ?_;refine Wp.le (s':=⟨tm [(0,.str s0),(2,.ptr 0 0),(4,.bool true),(5,.tsl 1 1 0 b.length none),(6,.int .i64 0)],⟨upd (upd aB 0 (some (.cells [.int .i64 0,.int .i64 0,.str []]))) 1 (some (dx b)),2,[],0⟩⟩) (aM.of (aY ?_) (OLe.bZ _) (λa ha=>ha) (N4 _) (N4 _)) ?_
   ·exact xSb
   refine Wp.cO [0,2,4,5] xA7 (λj:Nat=>[(6,.int .i64 j)]) (λj=>⟨upd (upd aB 0 (some (.cells [.int .i64 0,.int .i64 0,.str []]))) 1 (some (dx (mix b j))),2,[],0⟩) (λj=>j<=b.length) (λj=>b.length - j) 0 (Ot _) (by simp[mix]) ?_ ?_
   ·exact xSb
   rintro j hj;have lm:=nS b j;by_cases hc:j<b.length
   ·obtain ⟨g1,h2,h3,e1⟩:=ixF (j:=j) (n:=b.length) ae ae;have hat:=FY b j hc;have hse:=BN b j hc;have hsu:=FW (b.getD j 0);have z1:decide ((j:Int)<8)=true:=N9 ae;refine rf0 (cj7 z1 h2 h3 @Ol @N7 @O4 @Oo) ?_;refine aw.wZ (l:=mix b j) af av (by simp only[upd,reduceIte]) ae ?_;simp only[bL];refine aw.evF (xAd (cj8 hat hsu h2 h3 @Ol @N7 @O4 @Oo)) ?_;refine aw.rY (b:=255 - b.getD j 0) (l:=mix b j) af av (by simp only[upd,reduceIte]) (by simp only[go_sem,reduceIte,Nat.reduceEqDiff]) ae ?_;try simp only[bL]
    refine aw.nil ?_;refine dI ?_;rw[hse];refine ⟨j+1,ae,ae,?_⟩;refine aM.of (aY ?_) ?_ (λa ha=>ha) (N4 _) (N4 _)
    ·exact cM e1
    ·intro k o ho;refine ⟨o,?_,cm.refl _⟩;simp only[upd,aB] at ho |-;by_cases k1:k=1
     ·simpa [k1] using ho
     ·simpa [k1] using ho
   ·have hj2:j=b.length:=by omega
    subst hj2;have e8:decide (((b.length:Nat):Int)<8)=false:=N6 ae;rw[Ix] at*
    have hm8:(bD 255 b).length=b.length:=cJ 255 b;generalize hBB:bD 255 b=BB at*
    have l1:(0:Int)<((b.length:Nat):Int):=by omega
    have xx:=FP (BB.getD 0 0) 128;have xy:((128:UInt8).toNat:Int)=128:=rfl;rw[xy] at xx;refine rf0 (cj7 e8 l1 Int.toNat_zero @OU @Ol @QN @Nat.add_zero) ?_;refine aw.wZ (l:=BB) af av (by simp only[upd,reduceIte]) ae ?_;simp only[bL];refine aw.evF (xAd (cj7 xx l1 Int.toNat_zero @OU @Ol @QN @Nat.add_zero)) ?_;refine aw.rY (b:=BB.getD 0 0 ^^^ 128) (l:=BB) af av (by simp only[upd,reduceIte]) (by simp only[go_sem,reduceIte,Nat.reduceEqDiff]) ae ?_;try simp only[bL]
    refine aw.nil ?_;have hS:lH BB=BB.set 0 (BB.getD 0 0 ^^^ 128):=rfl;have hlt:(BB.set 0 (BB.getD 0 0 ^^^ 128)).length=b.length:=by rw[List.length_set];exact hm8
    refine Wp.le (aM.Ly _ _ 1 5 (l:=BB.set 0 (BB.getD 0 0 ^^^ 128)) (c:=none) (by simp only[upd,reduceIte]) (by simp only[go_sem,reduceIte,Nat.reduceEqDiff];rw[hlt])) ?_;rw[<-hS];have hSl:(lH BB).length=8:=by rw[hS,hlt];exact h8'
    have cn:=iU (lH BB) 0 8 ae ae ae;have hN:i64 (((lH BB).drop 0).take 8)=rdN 255 b:=by
     rw[Pw,O8 ae,<-hBB];rfl
    rw[hN] at cn;have z0:((0:Nat):Int)=0:=rfl;have z8:((8:Nat):Int)=8:=rfl;rw[z0,z8] at cn;clear hS hlt hN;generalize lH BB=S at*
    refine Wp.le (s':=⟨tm [(0,.str s0),(2,.ptr 0 0),(5,.sl 1 (aD S) .any)],⟨upd aB 0 (some (.cells [.int .i64 0,.int .i64 0,.str []])),2,[],0⟩⟩) (aM.of (aY ?_) ?_ (λa ha=>ha) (N4 _) (N4 _)) ?_
    ·exact cM (cj3 @unT.eq_1 @decide_false @Oq)
    ·intro j o ho;refine ⟨o,?_,cm.refl _⟩;simp only[upd,aB] at ho |-;split at ho
     ·rename_i e;subst e;simpa using ho
     ·cases ho
    refine rn1 (iw l0 g0 @byte.eq_1 xk @bR @Oz.{0,0} @O2 Int.toNat_zero @OU @Ol) cn ?_;refine aG ?_;exact ay.refl _
theorem vX(a:UInt8)(l:List UInt8)(h:a≠0):rdT (a::l)=(rdT l).map λx=>(a::x.1,x.2+1):=by
 cases l with
 |nil=>rfl
 |cons b r=>simp[rdT,h]
theorem dh(s:List UInt8)(j:Nat)(h:j<s.length):s.drop j=s.getD j 0::s.drop (j+1):=by
 rw[P7 h];congr 1;simp[List.getD,N5 h]
theorem Gk(a:UInt8)(r:List UInt8)(hr:r.length<=1000)(ha:a=2):aI Tryz.prog 163 [.str (a::r)] (.tup [bX (rdR (a::r)).1,.int .i64 (rdR (a::r)).2]):=by
 refine f163.aF ah rfl rfl ?_;unfold H2 zz;have hsl:(a::r).length=r.length+1:=rfl;have l0:(0:Int)<(((a::r).length:Nat):Int):=by omega
 have g0:(a::r).getD 0 0=a:=rfl;have q3:=dS a 3 aq;have q4:=dS a 4 aq;have q2:=dS a 2 aq;have e3:decide (a=UInt8.ofNat 3)=false:=by rw[ha];decide
 have e4:decide (a=UInt8.ofNat 4)=false:=by rw[ha];decide
 have e2:decide (a=UInt8.ofNat 2)=true:=by rw[ha];decide
 rw[e3] at q3;rw[e4] at q4;rw[e2] at q2;have hbyte:((3:Nat):Int)=3:=rfl;have hbyte4:((4:Nat):Int)=4:=rfl;have hbyte2:((2:Nat):Int)=2:=rfl;rw[hbyte] at q3;rw[hbyte4] at q4;rw[hbyte2] at q2;have hR:rdR (a::r)=((rdT ((a::r).drop 1)).map λx=>((⟨1,0,x.1⟩:Pt),x.2+1)).getD (oY,0):=by
  unfold rdR rdP;rw[ha];simp
 generalize hs0:a::r=s at*
 generalize rdR s=R at*
 refine rf0 (fD l0 g0 @byte.eq_1 q3 @q4 @q2 Int.toNat_zero @OU @Ol @OB @Oy) ?_;refine Wp.cO [0,2] xA7 (λj:Nat × List UInt8 × Option Nat × Nat=>[(7,.sl 1 (aD j.2.1) (jv j.2.1.length j.2.2.1)),(8,.int .i64 (j.1:Nat))]) (λj=>⟨upd aB 0 (some (.cells [.int .i64 0,.int .i64 0,.str []])),1,mi j.2.2.1,j.2.2.2⟩) (λj=>1<=j.1/\j.1<=s.length/\j.2.1.length<=j.1/\rdT (s.drop 1)=(rdT (s.drop j.1)).map (λx=>(j.2.1++x.1,x.2+(j.1 - 1)))) (λj=>s.length - j.1) (1,[],none,0) ⟨ae,ae,by simp,by simp⟩ rfl ?_ ?_
 ·exact cM (cj4 @jv.eq_1 @aD.eq_1 @OQ.{0,0} @Oa.{0})
 rintro ⟨j,acc,o,m'⟩ ⟨h1,hj,hacc,hinv⟩;simp only at h1 hj hacc hinv;rw[hinv] at hR;have lb:=bm acc;by_cases hc:j<s.length
 ·obtain ⟨g1,h2,h3,e1⟩:=ixF (j:=j) (n:=s.length) ae ae;have hda:=dh s j hc;have e3:acc.length+1<=140737488355328:=by omega
  have e4:acc.length+1<4611686018427387904:=by omega
  by_cases hz:s.getD j 0=0
  ·have z0:((0:UInt8).toNat:Int)=0:=rfl;have zd:decide ((0:Int)=0)=true:=rfl;by_cases hn:j+1<s.length
   ·have hdb:=dh s (j+1) hn;have y1:decide (((j+1:Nat):Int)=(s.length:Int))=false:=N6 ae;have y2:(0:Int)<=((j+1:Nat):Int):=by omega
    have y3:((j+1:Nat):Int)<(s.length:Int):=by omega
    have p1:=dS (s.getD (j+1) 0) 1 aq;have p255:=dS (s.getD (j+1) 0) 255 aq;have n1:((1:Nat):Int)=1:=rfl;have n255:((255:Nat):Int)=255:=rfl;rw[n1] at p1;rw[n255] at p255;rw[hda,hdb,hz] at hR;by_cases b1:s.getD (j+1) 0=1
    ·rw[b1] at p1 p255;have c1:decide ((1:UInt8)=UInt8.ofNat 1)=true:=by decide
     have c2:decide ((1:UInt8)=UInt8.ofNat 255)=false:=by decide
     rw[c1] at p1;rw[c2] at p255;have hR2:R=(⟨1,0,acc⟩,j+2):=by
      rw[hR,b1];have:rdT ((0:UInt8)::1::s.drop (j+1+1))=some ([],2):=by simp[rdT]
      rw[this];simp;omega
     subst hR2;have w2:IntKind.i64.wrap ((j:Int)+2)=((j+2:Nat):Int):=by rw[IntWalk.i64_in _ ae];omega
     refine rf0 (bf g1 h2 h3 @Ol @N7 @byte.eq_1 hz z0 zd e1 y1 (cj9 y2 y3 b1 p1 p255 @bR @Oz.{0,0} @O2 w2)) ?_;refine aG ?_;exact ay.refl _
    ·have c1:decide (s.getD (j+1) 0=UInt8.ofNat 1)=false:=N6 b1;rw[c1] at p1;by_cases b2:s.getD (j+1) 0=255
     ·have c2:decide (s.getD (j+1) 0=UInt8.ofNat 255)=true:=N9 b2;rw[c2] at p255;have hR2:rdT (s.drop 1)=(rdT (s.drop (j+1+1))).map (λx=>(acc++[0]++x.1,x.2+(j+1+1 - 1))):=by
       rw[hinv,hda,hdb,hz,b2];have:rdT ((0:UInt8)::255::s.drop (j+1+1))=(rdT (s.drop (j+1+1))).map λx=>(0::x.1,x.2+2):=by simp[rdT]
       rw[this,Option.map_map];congr 1;funext x;simp;omega
      have w2:IntKind.i64.wrap (((j+1:Nat):Int)+1)=((j+1+1:Nat):Int):=by rw[IntWalk.i64_in _ ae];omega
      have hl2:(acc++[0]).length<=j+1+1:=by simp only[Og,List.length_cons,List.length_nil];omega
      cases o with
      |none=>
       refine rf0 (bf g1 h2 h3 @N7 @byte.eq_1 hz z0 zd e1 y1 y2 (bf y3 p1 p255 w2 @mi.eq_1 @jv.eq_1 lb e3 e4 @O4 @Po (cj9 @PC @Ol @ne_eq.{1} @OE @N8.{0} @Oa.{0} @Oo @O2 @Oj.{0}))) ?_;refine ⟨(j+1+1,acc++[0],some m',m'+1),⟨by simp only;omega,by simp only;omega,hl2,hR2⟩,by simp only;omega,?_⟩;refine aM.tm (by simp only[aQ,go_sem,reduceIte,Nat.reduceEqDiff,Nat.reduceAdd,bx,e1,w2,jv];and_intros<;>first|exact trivial|exact ay.refl _|exact ay.any _|exact ay.of_eq (by simp[aD,byte])|(refine ay.int ?_;omega))
      |some tk=>
       refine rf0 (bf g1 h2 h3 @N7 @byte.eq_1 hz z0 zd e1 y1 y2 (bf y3 p1 p255 w2 @mi.eq_2 @jv.eq_2 lb e3 e4 @O4 @Po (cj9 @PC @Ol @ne_eq.{1} @OE @N8.{0} @Oa.{0} @Oo @O2 @Oj.{0}))) ?_;refine ⟨(j+1+1,acc++[0],some m',m'+1),⟨by simp only;omega,by simp only;omega,hl2,hR2⟩,by simp only;omega,?_⟩;refine aM.tm (by simp only[aQ,go_sem,reduceIte,Nat.reduceEqDiff,Nat.reduceAdd,bx,e1,w2,jv];and_intros<;>first|exact trivial|exact ay.refl _|exact ay.any _|exact ay.of_eq (by simp[aD,byte])|(refine ay.int ?_;omega))
     ·have c2:decide (s.getD (j+1) 0=UInt8.ofNat 255)=false:=N6 b2;rw[c2] at p255;have hR2:R=(oY,0):=by
       rw[hR];have:rdT ((0:UInt8)::s.getD (j+1) 0::s.drop (j+1+1))=none:=by
        generalize s.getD (j+1) 0=y at*
        simp[rdT,b1,b2]
       rw[this];rfl
      subst hR2;unfold oY bX;refine rf0 (bf g1 h2 h3 @Ol @N7 @byte.eq_1 hz z0 zd e1 y1 (cj4 y2 y3 p1 p255)) ?_;refine aG ?_;exact ay.refl _
   ·have hdn:s.drop (j+1)=[]:=Pg ae;have y1:decide (((j+1:Nat):Int)=(s.length:Int))=true:=N9 ae;rw[hda,hdn,hz] at hR;have hR2:R=(oY,0):=by rw[hR];rfl
    subst hR2;unfold oY bX;refine rf0 (fD g1 h2 h3 @Ol @N7 @byte.eq_1 hz z0 zd e1 y1) ?_;refine aG ?_;exact ay.refl _
  ·have d3:=sB hz;have hR2:rdT (s.drop 1)=(rdT (s.drop (j+1))).map (λx=>(acc++[s.getD j 0]++x.1,x.2+(j+1 - 1))):=by
    rw[hinv,hda,vX _ _ hz,Option.map_map];congr 1;funext x;simp;omega
   have hl2:(acc++[s.getD j 0]).length<=j+1:=by simp only[Og,List.length_cons,List.length_nil];omega
   cases o with
   |none=>
    refine rf0 (bf g1 h2 h3 @N7 @byte.eq_1 d3 e1 @mi.eq_1 @jv.eq_1 lb e3 (bf e4 @O4 @Po @PC @Ol @ne_eq.{1} @OE @N8.{0} @Oa.{0} @Oo @O2 @Oj.{0})) ?_;refine ⟨(j+1,acc++[s.getD j 0],some m',m'+1),⟨by simp only;omega,by simp only;omega,hl2,hR2⟩,by simp only;omega,?_⟩;refine aM.tm (by simp only[aQ,go_sem,reduceIte,Nat.reduceEqDiff,Nat.reduceAdd,bx,e1,jv];and_intros<;>first|exact trivial|exact ay.refl _|exact ay.any _|exact ay.of_eq (by simp[aD,byte])|(refine ay.int ?_;omega))
   |some tk=>
    refine rf0 (bf g1 h2 h3 @N7 @byte.eq_1 d3 e1 @mi.eq_2 @jv.eq_2 lb e3 (bf e4 @O4 @Po @PC @Ol @ne_eq.{1} @OE @N8.{0} @Oa.{0} @Oo @O2 @Oj.{0})) ?_;refine ⟨(j+1,acc++[s.getD j 0],some m',m'+1),⟨by simp only;omega,by simp only;omega,hl2,hR2⟩,by simp only;omega,?_⟩;refine aM.tm (by simp only[aQ,go_sem,reduceIte,Nat.reduceEqDiff,Nat.reduceAdd,bx,e1,jv];and_intros<;>first|exact trivial|exact ay.refl _|exact ay.any _|exact ay.of_eq (by simp[aD,byte])|(refine ay.int ?_;omega))
 ·have hj2:j=s.length:=by omega
  subst hj2;have g1:=ixE (s.length);have hdn:s.drop s.length=[]:=Pg (N4 _);rw[hdn] at hR;have hR2:R=(oY,0):=by rw[hR];rfl
  subst hR2;unfold oY bX;refine rf0 g1 ?_;refine aG ?_;exact ay.refl _
theorem Gl(a:UInt8)(r:List UInt8)(hr:r.length<=1000)(h2:a≠2)(h3:a≠3)(h4:a≠4):aI Tryz.prog 163 [.str (a::r)] (.tup [bX (rdR (a::r)).1,.int .i64 (rdR (a::r)).2]):=by
 refine f163.aF ah rfl rfl ?_;unfold H2 zz;have hsl:(a::r).length=r.length+1:=rfl;have l0:(0:Int)<(((a::r).length:Nat):Int):=by omega
 have g0:(a::r).getD 0 0=a:=rfl;have q3:=dS a 3 aq;have q4:=dS a 4 aq;have q2:=dS a 2 aq;have e3:decide (a=UInt8.ofNat 3)=false:=N6 h3;have e4:decide (a=UInt8.ofNat 4)=false:=N6 h4;have e2:decide (a=UInt8.ofNat 2)=false:=N6 h2;rw[e3] at q3;rw[e4] at q4;rw[e2] at q2;have hbyte:((3:Nat):Int)=3:=rfl;have hbyte4:((4:Nat):Int)=4:=rfl;have hbyte2:((2:Nat):Int)=2:=rfl;rw[hbyte] at q3;rw[hbyte4] at q4;rw[hbyte2] at q2;have hR:rdR (a::r)=(oY,0):=by
  unfold rdR rdP;simp[h2,h3,h4]
 rw[hR];clear hR;generalize hs0:a::r=s at*
 unfold oY bX;refine rf0 (fD l0 g0 @byte.eq_1 q3 @q4 @q2 Int.toNat_zero @OU @Ol @OB @Oy) ?_;refine aG ?_;exact ay.refl _
theorem Iy(s:List UInt8)(h0:s≠[])(hs:s.length<=1000):aI Tryz.prog 163 [.str s] (.tup [bX (rdR s).1,.int .i64 (rdR s).2]):=by
 cases s with
 |nil=>exact absurd rfl h0
 |cons a r=>
  have hr:r.length<=1000:=by simp only[List.length_cons] at hs;omega
  by_cases h3:a=3
  ·exact xU a r hr false h3
  by_cases h4:a=4
  ·exact xU a r hr true h4
  by_cases h2:a=2
  ·exact Gk a r hr h2
  exact Gl a r hr h2 h3 h4
theorem xV(l:List Pt):aJ (pts l)=true:=Av.bG (λa=>rfl) l
theorem DZ(s:List UInt8)(hs:s.length<=140737488355328):aI Tryz.prog 115 [.str s] (.tup [.sl 3 (pts (iQ s)) .any,.int .i64 (jR s)]):=by
 refine f115.aF ah rfl (by simp[aW,aJ,bA,xV]) ?_;unfold LO zz;by_cases hb:128<s.length
 ·have g0:decide ((128:Int)<((s.length:Nat):Int))=true:=N9 ae;have e1:iQ s=[]:=by unfold iQ;rw[Oi hb]
  have e2:jR s=5:=by unfold jR;rw[Oi hb]
  rw[e1,e2];have hp:pts []=[]:=rfl;rw[hp];refine rf0 g0 ?_;refine aG ?_;exact ay.tup (aA.cons (ay.cap) (aA.cons (ay.refl _) aA.nil))
 have g0:decide ((128:Int)<((s.length:Nat):Int))=false:=N6 ae;have e1:iQ s=(oX s).getD []:=by unfold iQ;rw[Ob hb]
 have e2:jR s=if (oX s).isSome then 0 else 4:=by unfold jR;rw[Ob hb]
 rw[e1,e2];generalize hO:oX s=O at*
 refine rf0 g0 ?_;refine Wp.cO [] xA7 (λj:List UInt8 × List Pt × Option Nat × Nat × Nat=>[(0,.str j.1),(4,.sl 3 (pts j.2.1) (jv j.2.1.length j.2.2.1))]) (λj=>⟨aB,j.2.2.2.1,mi j.2.2.1,j.2.2.2.2⟩) (λj=>O=(oX j.1).map (j.2.1++ ·)/\j.2.1.length+j.1.length<=128) (λj=>j.1.length) (s,[],none,0,0) ⟨by rw[hO];simp,by simp only[List.length_nil];omega⟩ rfl ?_ ?_
 ·exact cM (cj4 @jv.eq_1 @pts.eq_1 @OQ.{0,0} @Oa.{0})
 rintro ⟨r,out,o,n,m⟩ ⟨hinv,hl⟩;simp only at hinv hl;by_cases h0:r=[]
 ·subst h0;have hE:O=some out:=by rw[hinv,xS];simp
  subst hE;refine rf0 @Oa.{0} ?_;refine aG ?_;exact ay.tup (aA.cons (ay.cap) (aA.cons (ay.refl _) aA.nil))
 ·have hst:=kv h0;have hpos:=Qn.2 h0;have g1:decide ((0:Int)<((r.length:Nat):Int))=true:=N9 ae;have c1:=Iy r h0 ae;rw[hst] at hinv;cases hp:rdP r with
  |none=>
   have hR:rdR r=(oY,0):=by unfold rdR;rw[hp];rfl
   rw[hp] at hinv;rw[hR] at c1;unfold oY bX at c1;have hE:O=none:=by rw[hinv];rfl
   subst hE;have hpn:pts []=[]:=rfl;have g2:decide (((0:Nat):Int)=0)=true:=rfl;rw[show (none:Option (List Pt)).getD []=[] from rfl,hpn];refine rn1 g1 c1 ?_;refine aG ?_;exact ay.tup (aA.cons (ay.cap) (aA.cons (ay.refl _) aA.nil))
  |some x=>
   obtain ⟨p,k⟩:=x;have hR:rdR r=(p,k):=by unfold rdR;rw[hp];rfl
   rw[hp] at hinv;rw[hR] at c1;obtain ⟨k1,k2⟩:=qW hp;simp only at hinv;obtain ⟨pk,pn,ps⟩:=p;unfold bX at c1;simp only at c1;have g2:decide (((k:Nat):Int)=0)=false:=N6 ae;have x1:(0:Int)<=(k:Int):=by omega
   have x2:(k:Int)<=(r.length:Int):=by omega
   have lp:=cE out;have e6:(out.length+1)*32<=140737488355328:=by omega
   have e7:out.length+1<4611686018427387904:=by omega
   cases o with
   |none=>
    refine rn1 (cj9 g1 g2 x1 x2 @mi.eq_1 @jv.eq_1 lp e6 e7) c1 ?_;refine ⟨(r.drop k,out++[⟨pk,pn,ps⟩],some m,n+1,m+1),⟨?_,?_⟩,?_,?_⟩
    ·rw[hinv,Option.map_map];congr 1;funext x;simp
    ·simp only[Og,List.length_cons,List.length_nil,OY];omega
    ·simp only[OY];omega
    ·refine aM.of (aY ?_) (λa u hu=>by cases hu) (λa ha=>ha) (N4 _) (N4 _);simp only[aQ,go_sem,reduceIte,Nat.reduceEqDiff,Nat.reduceAdd,bx,Int.toNat_natCast,jv,OG];and_intros<;>first|exact trivial|exact ay.refl _|exact ay.any _|exact ay.of_eq (by rw[fm];rfl)|(refine ay.int ?_;omega)
   |some tk=>
    refine rn1 (cj9 g1 g2 x1 x2 @mi.eq_2 @jv.eq_2 lp e6 e7) c1 ?_;refine ⟨(r.drop k,out++[⟨pk,pn,ps⟩],some m,n+1,m+1),⟨?_,?_⟩,?_,?_⟩
    ·rw[hinv,Option.map_map];congr 1;funext x;simp
    ·simp only[Og,List.length_cons,List.length_nil,OY];omega
    ·simp only[OY];omega
    ·refine aM.of (aY ?_) (λa u hu=>by cases hu) (λa ha=>ha) (N4 _) (N4 _);simp only[aQ,go_sem,reduceIte,Nat.reduceEqDiff,Nat.reduceAdd,bx,Int.toNat_natCast,jv,OG];and_intros<;>first|exact trivial|exact ay.refl _|exact ay.any _|exact ay.of_eq (by rw[fm];rfl)|(refine ay.int ?_;omega)
def stO(s:List UInt8)(out:List Pt)(i:Nat):Option (List Pt):=(oX (s.drop i)).map (out++ ·)
def txO(s:List UInt8)(out:List Pt)(t:List UInt8)(i:Nat):Option (List Pt):=(rdT (s.drop i)).bind λx=>stO s (out++[⟨1,0,t++x.1⟩]) (i+x.2)
theorem Iz(s:List UInt8)(out:List Pt):stO s out s.length=some out:=by
 unfold stO;rw[Pg (N4 _),xS];simp
theorem IA(s:List UInt8)(out:List Pt)(t:List UInt8):txO s out t s.length=none:=by
 unfold txO;rw[Pg (N4 _)];rfl
theorem KM{s:List UInt8}(out:List Pt)(t:List UInt8){i:Nat}(h:i<s.length)(hz:s.getD i 0≠0):txO s out t i=txO s out (t++[s.getD i 0]) (i+1):=by
 unfold txO;rw[dh s i h,vX _ _ hz];cases rdT (s.drop (i+1)) with
 |none=>rfl
 |some x=>
  have e:i+(x.2+1)=i+1+x.2:=by omega
  simp[e]
theorem IB{s:List UInt8}(out:List Pt)(t:List UInt8){i:Nat}(h:i+1=s.length)(hz:s.getD i 0=0):txO s out t i=none:=by
 unfold txO;rw[dh s i ae,Pg ae];rfl
theorem IC{s:List UInt8}(out:List Pt)(t:List UInt8){i:Nat}(h:i+1<s.length)(hz:s.getD i 0=0):txO s out t i=if s.getD (i+1) 0=255 then txO s out (t++[0]) (i+1+1) else if s.getD (i+1) 0=1 then stO s (out++[⟨1,0,t⟩]) (i+1+1) else none:=by
 unfold txO;rw[dh s i ae,dh s (i+1) h,hz];generalize s.getD (i+1) 0=y;have e:rdT ((0:UInt8)::y::s.drop (i+1+1))=if y=255 then (rdT (s.drop (i+1+1))).map λx=>(0::x.1,x.2+2) else if y=1 then some ([],2) else none:=by simp[rdT]
 rw[e];split
 ·cases rdT (s.drop (i+1+1)) with
  |none=>rfl
  |some x=>
   have e:i+(x.2+2)=i+1+1+x.2:=by omega
   simp[e]
 ·split
  ·simp
  ·rfl
theorem Gm{s:List UInt8}(out:List Pt){i:Nat}(h:i<s.length)(h2:s.getD i 0=2):stO s out i=txO s out [] (i+1):=by
 unfold txO stO;rw[kv (by rw[dh s i h];simp),dh s i h,h2];have e:rdP ((2:UInt8)::s.drop (i+1))=(rdT (s.drop (i+1))).map λx=>(⟨1,0,x.1⟩,x.2+1):=by simp[rdP]
 rw[e];cases rdT (s.drop (i+1)) with
 |none=>rfl
 |some x=>
  simp only[Option.map_some,Option.bind_some,Pd,PK,Option.map_map,List.nil_append];congr 1;funext l;simp
theorem ID{s:List UInt8}(out:List Pt){i:Nat}(h:i<s.length)(d:Bool)(h2:s.getD i 0=if d then 4 else 3):stO s out i=if s.length - (i+1)<8 then none else stO s (out++[⟨if d then 3 else 2,rdN (if d then 255 else 0) ((s.drop (i+1)).take 8),[]⟩]) (i+1+8):=by
 unfold stO;rw[kv (by rw[dh s i h];simp),dh s i h,h2];have hl:(s.drop (i+1)).length=s.length - (i+1):=OY;have e:rdP ((if d then (4:UInt8) else 3)::s.drop (i+1))=if s.length - (i+1)<8 then none else some (⟨if d then 3 else 2,rdN (if d then 255 else 0) ((s.drop (i+1)).take 8),[]⟩,9):=by
  rw[<-hl];cases d<;>simp[rdP]
 rw[e];by_cases h8:s.length - (i+1)<8
 ·rw[Oi h8,Oi h8];rfl
 ·rw[Ob h8,Ob h8];simp only[Pd,PK,Option.map_map];congr 1;funext l;simp
theorem IE{s:List UInt8}(out:List Pt){i:Nat}(h:i<s.length)(h2:s.getD i 0≠2)(h3:s.getD i 0≠3)(h4:s.getD i 0≠4):stO s out i=none:=by
 unfold stO;rw[kv (by rw[dh s i h];simp),dh s i h];have e:rdP (s.getD i 0::s.drop (i+1))=none:=by
  generalize s.getD i 0=y at*
  simp[rdP,h2,h3,h4]
 rw[e];rfl
def NX(O:Option (List Pt)):AV:= .tup [.sl 3 (pts (O.getD [])) .any,.int .i64 (if O.isSome then 0 else 4)]
def QDe(O:Option (List Pt)):aO->St->Prop:=λe s'=>jf e/\∃q,je [.tmp 2,.tmp 3] s'.t s'.h=some q/\ay q (NX O)
abbrev QDs(O:Option (List Pt)):aO->St->Prop:=aO.within Tryz.prog 99 oM (QDe O)
theorem fy{N:Nat}{c rest:AC}{l:Nat}{s:St}{Q:aO->St->Prop}(h:fB c l=some (.seq .skip rest))(hw:Wp Tryz.prog N rest s (aO.within Tryz.prog N c Q)):aO.within Tryz.prog N c Q (.goto l) s:=by
 simp only[aO.within,h];exact WpS.step (Wp.seq (Wp.skip hw))
theorem vY{t:Tm}{h:H}:QDs none (.goto 3) ⟨t,h⟩:=by
 refine fy zZ ?_;unfold zY;refine dI ?_;refine Wp.ret (show QDe none .ret _ from ⟨trivial,_,rfl,?_⟩);exact ay.tup (aA.cons ay.cap (aA.cons (ay.refl _) aA.nil))
theorem Ar{t:Tm}{f:Nat->Option Av.Obj}{n m a:Nat}{K:List Nat}{l:List (Nat × AV)}(ha:a∈K)(h:aQ t l):aM ⟨t,⟨f,n,K,m⟩⟩ ⟨tm l,⟨aB,n,[a],m⟩⟩:=
 aM.of (aY h) (λa o ho=>by cases ho) (λx hx=>(Oj.1 hx)▸ha) (N4 _) (N4 _)
set_option maxHeartbeats 4000000 in
theorem Gn(s:List UInt8)(hs:s.length<=128)(i:Nat)(out:List Pt)(a n m:Nat)(d:Bool)(hi:i<s.length)(ho:out.length<=i)(ha:a<m)(h2:s.getD i 0=if d then 4 else 3)
  (ih:∀out' a' m',i+1+8<=s.length->out'.length<=i+1+8->a'<m'->Wp Tryz.prog 99 nO ⟨tm [(0,.str s),(4,.sl 3 (pts out') (.own a')),(6,.int .i64 (i+1+8:Nat))],⟨aB,n,[a'],m'⟩⟩ (QDs (stO s out' (i+1+8)))):
  Wp Tryz.prog 99 vE ⟨tm [(0,.str s),(4,.sl 3 (pts out) (.own a)),(6,.int .i64 (i+1:Nat))],⟨aB,n,[a],m⟩⟩ (QDs (stO s out i)):=by
 rw[ID out hi d h2];unfold vE;have w0:IntKind.i64.wrap (((s.length:Nat):Int) - ((i+1:Nat):Int))=((s.length - (i+1):Nat):Int):=by rw[IntWalk.i64_in _ ae];omega
 by_cases h8:s.length - (i+1)<8
 ·have d1:decide (((s.length - (i+1):Nat):Int)<8)=true:=N9 ae;rw[Oi h8];refine rf0 (cj2 w0 d1) ?_;exact Wp.goto (show QDs none (.goto 3) _ from vY)
 ·have d1:decide (((s.length - (i+1):Nat):Int)<8)=false:=N6 ae;rw[Ob h8];have w2:IntKind.i64.wrap (((i+1:Nat):Int) - 1)=(i:Int):=by rw[IntWalk.i64_in _ ae];omega
  have w3:IntKind.i64.wrap (((i+1:Nat):Int)+8)=((i+1+8:Nat):Int):=by rw[IntWalk.i64_in _ ae];omega
  have x1:(0:Int)<=(i:Int):=by omega
  have x2:(i:Int)<(s.length:Int):=by omega
  have x3:(0:Int)<=((i+1:Nat):Int):=by omega
  have x4:((i+1:Nat):Int)<=((i+1+8:Nat):Int):=by omega
  have x5:((i+1+8:Nat):Int)<=(s.length:Int):=by omega
  have x6:(0:Int)<=((i+1+8:Nat):Int):=by omega
  have hcut:(s.take (i+1+8)).drop (i+1)=(s.drop (i+1)).take 8:=by
   rw[List.drop_take];congr 1;omega
  have q3:=dS (s.getD i 0) 3 aq;have hbyte:((3:Nat):Int)=3:=rfl;rw[hbyte] at q3;have hb:((s.drop (i+1)).take 8).length=8:=by simp;omega
  have lp:=cE out;have e6:(out.length+1)*32<=140737488355328:=by omega
  have e7:out.length+1<4611686018427387904:=by omega
  generalize hbb:(s.drop (i+1)).take 8=b at*
  cases d with
  |false=>
   have c1:=Gj b hb 0;rw[show decide (s.getD i 0=UInt8.ofNat 3)=true from by rw[h2];rfl] at q3;have z:((0:UInt8).toNat:Int)=0:=rfl;rw[z] at c1;refine rf1 (bf w0 d1 w2 w3 x1 x2 x3 x4 x5 x6 @byte.eq_1 (bf q3 hcut lp e6 e7 @N7 @N8.{0} @Oa.{0} @Oo @Oj.{0} @O2 @Ol)) c1 ?_;have W:=ih (out++[⟨2,rdN 0 b,[]⟩]) m (m+1) ae (by simp only[Og,List.length_cons,List.length_nil];omega) ae;refine Wp.goto ?_;refine fy (Q:=QDe _) nP ?_;refine Wp.le (Ar (a:=m) PL ?_) W;simp only[aQ,go_sem,reduceIte,Nat.reduceEqDiff,Nat.reduceAdd,bx];and_intros<;>first|exact trivial|exact ay.refl _|exact ay.any _|exact ay.of_eq (by rw[fm];rfl)|(refine ay.int ?_;omega)
  |true=>
   have c1:=Gj b hb 255;rw[show decide (s.getD i 0=UInt8.ofNat 3)=false from by rw[h2];rfl] at q3;have z:((255:UInt8).toNat:Int)=255:=rfl;rw[z] at c1;refine rf1 (bf w0 d1 w2 w3 x1 x2 x3 x4 x5 x6 @byte.eq_1 (bf q3 hcut lp e6 e7 @N7 @N8.{0} @Oa.{0} @Oo @Oj.{0} @O2 @Ol)) c1 ?_;have W:=ih (out++[⟨3,rdN 255 b,[]⟩]) m (m+1) ae (by simp only[Og,List.length_cons,List.length_nil];omega) ae;refine Wp.goto ?_;refine fy (Q:=QDe _) nP ?_;refine Wp.le (Ar (a:=m) PL ?_) W;simp only[aQ,go_sem,reduceIte,Nat.reduceEqDiff,Nat.reduceAdd,bx];and_intros<;>first|exact trivial|exact ay.refl _|exact ay.any _|exact ay.of_eq (by rw[fm];rfl)|(refine ay.int ?_;omega)
set_option maxHeartbeats 4000000 in
theorem IF(s:List UInt8)(hs:s.length<=128):∀(k:Nat),
  (∀(i:Nat)(out:List Pt)(a n m:Nat),s.length - i<=k->i<=s.length->out.length<=i->a<m->
   Wp Tryz.prog 99 nO ⟨tm [(0,.str s),(4,.sl 3 (pts out) (.own a)),(6,.int .i64 i)],⟨aB,n,[a],m⟩⟩ (QDs (stO s out i)))
  /\(∀(i:Nat)(out:List Pt)(t:List UInt8)(a b n m:Nat),s.length - i<=k->i<=s.length->out.length+1<=i->t.length<=i->a<m->b<m->a≠b->
   Wp Tryz.prog 99 sq ⟨tm [(0,.str s),(4,.sl 3 (pts out) (.own a)),(5,.sl 1 (aD t) (.own b)),(6,.int .i64 i)],⟨aB,n,[b,a],m⟩⟩ (QDs (txO s out t i))):=by
 intro k;induction k with
 |zero=>
  constructor
  ·intro i out a n m hk hi ho ha;have hi2:i=s.length:=by omega
   subst hi2;rw[Iz];unfold nO;have d1:decide (((s.length:Nat):Int)=((s.length:Nat):Int))=true:=N9 rfl;refine rf0 d1 ?_;refine Wp.ret (show QDe (some out) .ret _ from ⟨trivial,_,rfl,?_⟩);exact ay.tup (aA.cons ay.cap (aA.cons (ay.refl _) aA.nil))
  ·intro i out t a b n m hk hi ho ht ha hb hab;have hi2:i=s.length:=by omega
   subst hi2;rw[IA];unfold sq;have d1:decide (((s.length:Nat):Int)=((s.length:Nat):Int))=true:=N9 rfl;refine rf0 d1 ?_;exact Wp.goto (show QDs none (.goto 3) _ from vY)
 |succ k ih=>
  obtain ⟨ih0,ih1⟩:=ih;constructor
  ·intro i out a n m hk hi ho ha;by_cases hc:i<s.length
   ·have d1:decide (((i:Nat):Int)=((s.length:Nat):Int))=false:=N6 ae;have w1:IntKind.i64.wrap ((i:Int)+1)=((i+1:Nat):Int):=by rw[IntWalk.i64_in _ ae];omega
    have w2:IntKind.i64.wrap (((i+1:Nat):Int) - 1)=(i:Int):=by rw[IntWalk.i64_in _ ae];omega
    have x1:(0:Int)<=(i:Int):=by omega
    have x2:(i:Int)<(s.length:Int):=by omega
    have q3:=dS (s.getD i 0) 3 aq;have q4:=dS (s.getD i 0) 4 aq;have q2:=dS (s.getD i 0) 2 aq;have hbyte:((3:Nat):Int)=3:=rfl;have hbyte4:((4:Nat):Int)=4:=rfl;have hbyte2:((2:Nat):Int)=2:=rfl;rw[hbyte] at q3;rw[hbyte4] at q4;rw[hbyte2] at q2;unfold nO;by_cases b2:s.getD i 0=2
    ·rw[Gm out hc b2];rw[show decide (s.getD i 0=UInt8.ofNat 2)=true from N9 b2] at q2;refine rf0 (cj9 d1 w1 w2 x1 x2 @Ol @byte.eq_1 @q2 @N7) ?_;refine Wp.le (aM.tok _ _) ?_;have W:=ih1 (i+1) out [] a m n (m+1) ae ae ae ah ae ae ae;refine Wp.goto ?_;refine fy (Q:=QDe _) nQ ?_;refine Wp.le (aM.of (aY ?_) (OLe.bZ _) (λa ha=>ha) (N4 _) (N4 _)) W;simp only[aQ,go_sem,reduceIte,Nat.reduceEqDiff,Nat.reduceAdd,bx,aD,OQ];and_intros<;>first|exact trivial|exact ay.refl _|exact ay.any _|exact ay.dt rfl|(refine ay.int ?_;omega)
    ·rw[show decide (s.getD i 0=UInt8.ofNat 2)=false from N6 b2] at q2;by_cases b3:s.getD i 0=3
     ·rw[show decide (s.getD i 0=UInt8.ofNat 3)=true from N9 b3] at q3;refine rf0 (iw d1 w1 w2 x1 x2 @Ol @byte.eq_1 @q2 q3 @N7) ?_;have W:=Gn s hs i out a n m false hc ho ha (by simpa using b3) (λout' a' m' h1 h2 h3=>ih0 (i+1+8) out' a' n m' ae h1 h2 h3);refine Wp.goto ?_;refine fy (Q:=QDe _) sr ?_;refine Wp.le (aM.of (aY ?_) (OLe.bZ _) (λa ha=>ha) (N4 _) (N4 _)) W;exact xSb
     ·rw[show decide (s.getD i 0=UInt8.ofNat 3)=false from N6 b3] at q3;by_cases b4:s.getD i 0=4
      ·rw[show decide (s.getD i 0=UInt8.ofNat 4)=true from N9 b4] at q4;refine rf0 (fD d1 w1 w2 x1 x2 @Ol @byte.eq_1 @q2 q3 @q4 @N7) ?_;have W:=Gn s hs i out a n m true hc ho ha (by simpa using b4) (λout' a' m' h1 h2 h3=>ih0 (i+1+8) out' a' n m' ae h1 h2 h3);refine Wp.goto ?_;refine fy (Q:=QDe _) sr ?_;refine Wp.le (aM.of (aY ?_) (OLe.bZ _) (λa ha=>ha) (N4 _) (N4 _)) W;exact xSb
      ·rw[show decide (s.getD i 0=UInt8.ofNat 4)=false from N6 b4] at q4;rw[IE out hc b2 b3 b4];refine rf0 (fD d1 w1 w2 x1 x2 @Ol @byte.eq_1 @q2 q3 @q4 @N7) ?_;exact Wp.goto (show QDs none (.goto 3) _ from vY)
   ·exact ih0 i out a n m ae hi ho ha
  ·intro i out t a b n m hk hi ho ht ha hb hab;have lp:=cE out;have lb:=bm t;have e6:(out.length+1)*32<=140737488355328:=by omega
   have e7:out.length+1<4611686018427387904:=by omega
   have e3:t.length+1<=140737488355328:=by omega
   have e4:t.length+1<4611686018427387904:=by omega
   by_cases hc:i<s.length
   ·have d1:decide (((i:Nat):Int)=((s.length:Nat):Int))=false:=N6 ae;have w1:IntKind.i64.wrap ((i:Int)+1)=((i+1:Nat):Int):=by rw[IntWalk.i64_in _ ae];omega
    have w2:IntKind.i64.wrap (((i+1:Nat):Int) - 1)=(i:Int):=by rw[IntWalk.i64_in _ ae];omega
    have x1:(0:Int)<=(i:Int):=by omega
    have x2:(i:Int)<(s.length:Int):=by omega
    unfold sq;by_cases hz:s.getD i 0=0
    ·have z0:((0:UInt8).toNat:Int)=0:=rfl;have zd:decide ((0:Int)=0)=true:=rfl;by_cases hn:i+1<s.length
     ·have y1:decide (((i+1:Nat):Int)=(s.length:Int))=false:=N6 ae;have y2:(0:Int)<=((i+1:Nat):Int):=by omega
      have y3:((i+1:Nat):Int)<(s.length:Int):=by omega
      have v1:IntKind.i64.wrap (((i+1:Nat):Int)+1)=((i+1+1:Nat):Int):=by rw[IntWalk.i64_in _ ae];omega
      have v2:IntKind.i64.wrap (((i+1+1:Nat):Int) - 1)=((i+1:Nat):Int):=by rw[IntWalk.i64_in _ ae];omega
      have p1:=dS (s.getD (i+1) 0) 1 aq;have p255:=dS (s.getD (i+1) 0) 255 aq;have n1:((1:Nat):Int)=1:=rfl;have n255:((255:Nat):Int)=255:=rfl;rw[n1] at p1;rw[n255] at p255;rw[IC out t hn hz];by_cases b2:s.getD (i+1) 0=255
      ·rw[show decide (s.getD (i+1) 0=UInt8.ofNat 255)=true from N9 b2] at p255;rw[Oi b2];refine rf0 (bf d1 w1 w2 x1 x2 @Ol @byte.eq_1 hz z0 zd y1 (bf y2 y3 v1 v2 p255 lb e3 e4 @N7 @O4 @Po (cj6 @PC @N8.{0} @Oa.{0} @Oo @OA.{0} @O2))) ?_;have W:=ih1 (i+1+1) out (t++[0]) a m n (m+1) ae ae ae (by simp only[Og,List.length_cons,List.length_nil];omega) ae ae ae;refine Wp.goto ?_;refine fy (Q:=QDe _) nQ ?_;refine Wp.le (aM.of (aY ?_) (OLe.bZ _) (λx hx=>?_) (N4 _) (N4 _)) W
       ·simp only[aQ,go_sem,reduceIte,Nat.reduceEqDiff,Nat.reduceAdd,bx];and_intros<;>first|exact trivial|exact ay.refl _|exact ay.any _|exact ay.of_eq (by simp[aD,byte])|(refine ay.int ?_;omega)
       ·have hne:decide (¬a=b)=true:=N9 hab;simpa [hne] using hx
      ·rw[show decide (s.getD (i+1) 0=UInt8.ofNat 255)=false from N6 b2] at p255;rw[Ob b2];by_cases b1:s.getD (i+1) 0=1
       ·rw[show decide (s.getD (i+1) 0=UInt8.ofNat 1)=true from N9 b1] at p1;rw[Oi b1];refine rf0 (bf d1 w1 w2 x1 x2 @Ol @byte.eq_1 hz z0 zd y1 (bf y2 y3 v1 v2 p255 p1 lp e6 e7 @bR @Oz.{0,0} (fD @N7 @O4 @Po @PC @N8.{0} @Oa.{0} @Oo @OA.{0} @Oj.{0} @O2 @or_true))) ?_;have W:=ih0 (i+1+1) (out++[⟨1,0,t⟩]) m n (m+1) ae ae (by simp only[Og,List.length_cons,List.length_nil];omega) ae;refine Wp.goto ?_;refine fy (Q:=QDe _) nP ?_;refine Wp.le (Ar (a:=m) PL ?_) W;simp only[aQ,go_sem,reduceIte,Nat.reduceEqDiff,Nat.reduceAdd,bx];and_intros<;>first|exact trivial|exact ay.refl _|exact ay.any _|exact ay.of_eq (by rw[fm];rfl)|(refine ay.int ?_;omega)
       ·rw[show decide (s.getD (i+1) 0=UInt8.ofNat 1)=false from N6 b1] at p1;rw[Ob b1];refine rf0 (bf d1 w1 w2 x1 x2 @Ol @byte.eq_1 hz z0 zd y1 (cj7 y2 y3 v1 v2 p255 p1 @N7)) ?_;refine Wp.ret (show QDe none .ret _ from ⟨trivial,_,rfl,?_⟩);exact ay.tup (aA.cons ay.cap (aA.cons (ay.refl _) aA.nil))
     ·have y1:decide (((i+1:Nat):Int)=(s.length:Int))=true:=N9 ae;rw[IB out t ae hz];refine rf0 (bf d1 w1 w2 x1 x2 @Ol @byte.eq_1 hz z0 zd y1 @N7) ?_;exact Wp.goto (show QDs none (.goto 3) _ from vY)
    ·have d3:=sB hz;rw[KM out t hc hz];refine rf0 (bf d1 w1 w2 x1 x2 @Ol @byte.eq_1 d3 lb e3 e4 (cj9 @N7 @O4 @Po @PC @N8.{0} @Oa.{0} @Oo @OA.{0} @O2)) ?_;have W:=ih1 (i+1) out (t++[s.getD i 0]) a m n (m+1) ae ae ae (by simp only[Og,List.length_cons,List.length_nil];omega) ae ae ae;refine Wp.goto ?_;refine fy (Q:=QDe _) nQ ?_;refine Wp.le (aM.of (aY ?_) (OLe.bZ _) (λx hx=>?_) (N4 _) (N4 _)) W
     ·simp only[aQ,go_sem,reduceIte,Nat.reduceEqDiff,Nat.reduceAdd,bx];and_intros<;>first|exact trivial|exact ay.refl _|exact ay.any _|exact ay.of_eq (by simp[aD,byte])|(refine ay.int ?_;omega)
     ·have hne:decide (¬a=b)=true:=N9 hab;simpa [hne] using hx
   ·exact ih1 i out t a b n m ae hi ho ht ha hb hab
theorem Gp(s:List UInt8)(hs:s.length<=140737488355328):aI Tryz.prog 156 [.str s] (.tup [.sl 3 (pts (iQ s)) .any,.int .i64 (jR s)]):=by
 refine f156.aF ah rfl (by simp[aW,aJ,bA,xV]) ?_;rw[Ii];by_cases hb:128<s.length
 ·have g0:decide ((128:Int)<((s.length:Nat):Int))=true:=N9 ae;have e1:iQ s=[]:=by unfold iQ;rw[Oi hb]
  have e2:jR s=5:=by unfold jR;rw[Oi hb]
  rw[e1,e2];have hp:pts []=[]:=rfl;rw[hp];refine Wp.bU xA1 al ?_;refine Wp.scope (WpS.step ?_);unfold oM;refine rf0 g0 ?_;refine Wp.ret ⟨trivial,_,rfl,?_⟩;exact ay.tup (aA.cons (ay.cap) (aA.cons (ay.refl _) aA.nil))
 ·have g0:decide ((128:Int)<((s.length:Nat):Int))=false:=N6 ae;have e1:iQ s=(stO s [] 0).getD []:=by unfold iQ stO;rw[Ob hb];simp
  have e2:jR s=if (stO s [] 0).isSome then 0 else 4:=by unfold jR stO;rw[Ob hb];simp
  rw[e1,e2];show Wp Tryz.prog 99 _ _ (QDe (stO s [] 0));refine Wp.bU xA1 al ?_;refine Wp.scope (WpS.step ?_);show Wp Tryz.prog 99 oM _ (QDs (stO s [] 0));have W:=(IF s ae s.length).1 0 [] 0 0 1 ae ae ah ae;unfold oM;generalize nO=R at*
  refine rf0 g0 ?_;refine Wp.le (aM.tok _ _) ?_;refine Wp.le (s':=⟨tm [(0,.str s),(4,.sl 3 (pts []) (.own 0)),(6,.int .i64 (0:Nat))],⟨aB,0,[0],1⟩⟩) (aM.of (aY ?_) (OLe.bZ _) (λa ha=>ha) (N4 _) (N4 _)) W;simp only[aQ,go_sem,reduceIte,Nat.reduceEqDiff,Nat.reduceAdd,bx,pts,OQ];and_intros<;>first|exact trivial|exact ay.refl _|exact ay.any _|exact ay.dt rfl|(refine ay.int ?_;omega)
end Go.Proofs.YtjnoobmaedgooaaGreat.Arch
end
section
set_option maxRecDepth 100000
namespace Go.Proofs.YtjnoobmaedgooaaGreat.Arch
open Go Go.Av Go.Proofs Go.Proofs.YtjnoobmaedgooaaGreat.C Go.Proofs.YtjnoobmaedgooaaGreat.Desk Go.Proofs.YtjnoobmaedgooaaGreat.Batch
def lets:List UInt8:=[98,111,99,117,112,113]
def uJ(s:List UInt8)(c:UInt8):Int:=match (List.range s.length).find? λi=>s.getD i 0 == c with|some i=>(i:Int)|none=> -1
theorem IG(s:List UInt8)(c:UInt8):aI Tryz.prog 219 [.str s,.int .u8 c.toNat] (.int .i64 (uJ s c)):=by
 refine f219.aF ah rfl rfl ?_;unfold Mu zz;have b0:(0:Int)<=((c.toNat:Nat):Int):=by omega
 have b1:((c.toNat:Nat):Int)<256:=by have:=c.toNat_lt;omega
 have b2:UInt8.ofNat c.toNat=c:=UInt8.ofNat_toNat;refine rf0 (cj5 b0 b1 @Ol @N7 b2) ?_;refine aG ?_;exact ay.refl _
theorem Gq(s:List UInt8)(c:UInt8)(hs:1<s.length)(hs2:s.length<=1000000):aI Tryz.prog 200 [.str s,.str [c]] (.int .i64 (uJ s c)):=by
 refine f200.aF ah rfl rfl ?_;unfold Mm zz;have ci:=IG s c;have d1:decide (((1:Nat):Int)=1)=true:=rfl;have d0:decide (((1:Nat):Int)=0)=false:=rfl;have dn:decide ([c]=s)=false:=N6 (by rintro rfl;simp at hs);have x0:(0:Int)<((1:Nat):Int):=by decide
 have l1:[c].length=1:=rfl;have g0:[c].getD 0 0=c:=rfl;refine rf1 (iw l1 d1 d0 dn x0 g0 @byte.eq_1 Int.toNat_zero @OU @Ol) ci ?_;refine aG ?_;exact ay.refl _
theorem IH(s:List UInt8)(c:UInt8)(hs:1<s.length)(hs2:s.length<=1000000):aI Tryz.prog 157 [.str s,.str [c]] (.int .i64 (uJ s c)):=by
 refine f157.aF ah rfl rfl ?_;unfold L4 zz;have ci:=Gq s c hs hs2;refine tA ci ?_;refine aG ?_;exact ay.refl _
def fM(c:UInt8):Int:=uJ lets c+1
theorem xW(c:UInt8):fM c=if c=98 then 1 else if c=111 then 2 else if c=99 then 3 else if c=117 then 4 else if c=112 then 5 else if c=113 then 6 else 0:=by
 by_cases h1:c=98
 ·subst h1;decide
 by_cases h2:c=111
 ·subst h2;decide
 by_cases h3:c=99
 ·subst h3;decide
 by_cases h4:c=117
 ·subst h4;decide
 by_cases h5:c=112
 ·subst h5;decide
 by_cases h6:c=113
 ·subst h6;decide
 rw[Ob h1,Ob h2,Ob h3,Ob h4,Ob h5,Ob h6];have hf:(List.range lets.length).find? (λi=>lets.getD i 0 == c)=none:=by
  rw[List.find?_eq_none];intro i hi;have:i<6:=by simpa [lets] using hi
  obtain rfl|rfl|rfl|rfl|rfl|rfl:i=0\/i=1\/i=2\/i=3\/i=4\/i=5:=by omega
  all_goals simp[lets,Qi]
  ·exact λh=>h1 h.symm
  ·exact λh=>h2 h.symm
  ·exact λh=>h3 h.symm
  ·exact λh=>h4 h.symm
  ·exact λh=>h5 h.symm
  ·exact λh=>h6 h.symm
 unfold fM uJ;rw[hf];rfl
theorem II(n:Int):IntKind.i64.wrap n<9223372036854775808:=by
 rw[IntKind.wrap_i64];omega
theorem Gr(m:UInt8)(b:List UInt8):rdN m b<9223372036854775808:=II _
def BU(p:Pt):Prop:=p.n<9223372036854775808
theorem KN{s:List UInt8}{p:Pt}{n:Nat}(h:rdP s=some (p,n)):BU p:=by
 cases s with
 |nil=>simp[rdP] at h
 |cons a r=>
  simp only[rdP] at h;split at h
  ·obtain ⟨x,hx,he⟩:=Oc.1 h;simp only[Ow] at he;rw[<-he.1];show (0:Int)<_;decide
  ·split at h
   ·split at h
    ·cases h
    ·simp only[Om,Ow] at h;rw[<-h.1];exact Gr _ _
   ·split at h
    ·split at h
     ·cases h
     ·simp only[Om,Ow] at h;rw[<-h.1];exact Gr _ _
    ·cases h
theorem BV:∀{k:Nat}{s:List UInt8}{l:List Pt},qz k s=some l->(∀p∈l,BU p)/\l.length<=s.length
 |0,s,l,h=>by
  simp only[qz] at h;split at h
  ·simp only[Om] at h;subst h;exact ⟨by simp,by simp⟩
  ·cases h
 |k+1,s,l,h=>by
  simp only[qz] at h;split at h
  ·simp only[Om] at h;subst h;exact ⟨by simp,by simp⟩
  ·cases hp:rdP s with
   |none=>rw[hp] at h;cases h
   |some x=>
    obtain ⟨p,n⟩:=x;rw[hp] at h;obtain ⟨l',h1,rfl⟩:=Oc.1 h;obtain ⟨i1,i2⟩:=BV h1;have hn:=qW hp;have hd:(s.drop n).length=s.length - n:=OY;refine ⟨λq hq=>?_,by simp only[List.length_cons];omega⟩;rcases OA.1 hq with rfl|hq
    ·exact KN hp
    ·exact i1 q hq
theorem vZ(s:List UInt8):(∀p∈iQ s,BU p)/\(iQ s).length<=128:=by
 unfold iQ;split
 ·exact ⟨by simp,by simp⟩
 ·unfold oX;cases h:qz s.length s with
  |none=>exact ⟨by simp,by simp⟩
  |some l=>
   obtain ⟨h1,h2⟩:=BV h;exact ⟨h1,by show l.length<=128;omega⟩
def kA:List UInt8->Int
 |[c]=>fM c
 |_=>0
def gG(l:List Pt):Ky:=
 let k:=kA (l.getD 0 default).s
 let r:=l.drop 2
 if k≠1/\r≠[] then ⟨k,(l.getD 1 default).s,(r.getD 0 default).s,(r.drop 1).map Pt.n⟩ else ⟨k,(l.getD 1 default).s,[],r.map Pt.n⟩
theorem sT{l:List Pt}(h:∀p∈l,BU p)(hl:l.length<=128):(gG l).fit:=by
 have key:∀(r:List Pt),(∀p∈r,p∈l)->r.length<=128->(r.map Pt.n).length<=1000000/\∀n∈r.map Pt.n,n<9223372036854775808:=λr hr hl=>by
  refine ⟨by simp;omega,λn hn=>?_⟩;obtain ⟨p,hp,rfl⟩:=OC.1 hn;exact h p (hr p hp)
 unfold gG;simp only;split
 ·exact key ((l.drop 2).drop 1) (λp hp=>Q0 (Q0 hp)) (by simp only[OY];omega)
 ·exact key (l.drop 2) (λp hp=>Q0 hp) (by simp only[OY];omega)
def iK(s:List UInt8)(l:List Pt):Bool:=decide (2<=l.length)&&decide (gr (gG l)=0)&&decide (dB (gG l)=s)
def xX:Ky:=⟨0,[],[],[]⟩
def cF(s:List UInt8):Bool:=decide (jR s=0)&&iK s (iQ s)
def bc(s:List UInt8):Ky:=if cF s then gG (iQ s) else xX
def mu(s:List UInt8):Int:=if cF s then 0 else 4
theorem sU(c:UInt8):0<=fM c/\fM c<=6:=by
 rw[xW]
 repeat' split
 all_goals decide
theorem xY(t:List UInt8):0<=kA t/\kA t<=6:=by
 match t with
 |[]=>exact ⟨by decide,by decide⟩
 |[c]=>exact sU c
 |_::_::_=>exact ⟨OU 0,(by decide:(0:Int)<=6)⟩
theorem pO{x:Ky}(h:x.k=0):gr x=2:=by
 have:iJ x=false:=by
  unfold iJ;have:eB x.k= -1:=by rw[h];rfl
  rw[this];have:decide (((x.ns.length:Nat):Int)= -1)=false:=N6 ae;rw[this];simp
 unfold gr;rw[this];rfl
theorem As(l:List Pt):(gG l).k=kA (l.getD 0 default).s:=by
 unfold gG;simp only;split<;>rfl
theorem D0{s:List UInt8}{l:List Pt}(h:kA (l.getD 0 default).s=0):iK s l=false:=by
 unfold iK;rw[pO (by rw[As,h])];simp
def hdA:AC->AC
 | .seq a _=>a
 |c=>c
def tlA:AC->AC
 | .seq _ b=>b
 |c=>c
def qX:AC:=tlA (tlA (tlA (tlA (tlA (tlA r8)))))
def kyO(k:Int)(b o:List UInt8)(v:AV):Nat->Option Av.Obj:=upd (upd aB 0 (some (.cells [.int .i64 0,.str [],.str [],.sl 1 [] (.exact 0)]))) 1 (some (.cells [.int .i64 k,.str b,.str o,v]))
def QK(s:List UInt8)(x:Ky):aO->St->Prop:=λe s'=>jf e/\∃q,je [.cell 2 (some 4),.tmp 3] s'.t s'.h=some q/\ay q (.tup [di (if (decide (gr x=0)&&decide (dB x=s))=true then x else xX),.int .i64 (if (decide (gr x=0)&&decide (dB x=s))=true then 0 else 4)])
theorem Au(s:List UInt8)(k:Int)(b o:List UInt8)(r:List Pt)(hr:r.length<=128)(hf:(⟨k,b,o,r.map Pt.n⟩:Ky).fit):
  Wp Tryz.prog 88 qX ⟨tm [(0,.str s),(2,.ptr 0 0),(4,.sl 3 (pts r) .any),(6,.ptr 1 0)],⟨kyO k b o (.sl 1 [] (.exact 0)),2,[],0⟩⟩ (QK s ⟨k,b,o,r.map Pt.n⟩):=by
 have lp:=cE r;have ck:=JV _ hf;have hno:di xX= .agg [.int .i64 0,.str [],.str [],.sl 1 [] .any]:=rfl;have hen:di ⟨k,b,o,r.map Pt.n⟩= .agg [.int .i64 k,.str b,.str o,.sl 1 (ints (r.map Pt.n)) .any]:=rfl;unfold QK;rw[hen] at ck;generalize gr ⟨k,b,o,r.map Pt.n⟩=ke at*
 generalize dB ⟨k,b,o,r.map Pt.n⟩=ks at*
 unfold qX r8 kyO zz;simp only[tlA];refine rf0 lp ?_;refine Wp.le (aM.tok _ _) ?_;refine Wp.le (s':=⟨tm [(0,.str s),(2,.ptr 0 0),(6,.ptr 1 0),(60,.sl 3 (pts r) .any),(61,.int .i64 r.length),(62,.int .i64 (0:Nat))],⟨kyO k b o (.sl 1 (ints []) (.own 0)),2,[0],1⟩⟩) (aM.of (aY ?_) (OLe.upd (OLe.bZ _) (aA.cons (ay.refl _) (aA.cons (ay.refl _) (aA.cons (ay.refl _) (aA.cons (ay.dt rfl) aA.nil))))) (λa ha=>ha) (N4 _) (N4 _)) ?_
 ·exact xSb
 refine Wp.cO [0,2,6,60,61] xA7 (λj:Nat × Nat × Nat × Nat=>[(62,.int .i64 (j.1:Nat))]) (λj=>⟨kyO k b o (.sl 1 (ints ((r.take j.1).map Pt.n)) (.own j.2.1)),j.2.2.1,[j.2.1],j.2.2.2⟩) (λj=>j.1<=r.length/\2<=j.2.2.1/\j.2.1<j.2.2.2) (λj=>r.length - j.1) (0,0,2,1) ⟨Ot _,by decide,by decide⟩ rfl ?_ ?_
 ·exact xSb
 rintro ⟨j,tk,n,m⟩ ⟨hj,hn2,htm⟩;simp only at hj hn2 htm;have n0:¬(0=n):=by omega
 have n1:¬(n=0):=by omega
 have n2:¬(1=n):=by omega
 have n3:¬(n=1):=by omega
 by_cases hc:j<r.length
 ·obtain ⟨g1,h2,h3,e1⟩:=ixF (j:=j) (n:=r.length) ae ae;have hat:=dY r j .any hc;have hsn:ints ((r.take (j+1)).map Pt.n)=ints ((r.take j).map Pt.n)++[.int .i64 (r.getD j default).n]:=by
   have e:r.getD j default=r[j]:=by simp[List.getD,N5 hc]
   rw[e,OD hc,Pl];simp only[ints,Pl,OJ,OQ]
  have li:(ints ((r.take j).map Pt.n)).length=j:=by rw[dM];simp;omega
  have e6:(j+1)*8<=140737488355328:=by omega
  have e7:j+1<4611686018427387904:=by omega
  unfold bX at hat;unfold kyO;refine rf0 (bf g1 h2 h3 lp hat n0 n1 n2 n3 li e6 (cj8 e7 @N7 @Ol @N8.{0} @Oa.{0} @Oo @Oj.{0} @O2)) ?_;refine ⟨(j+1,m,n+1,m+1),⟨hc,by simp only;omega,by simp⟩,PB hc (OL _),?_⟩;rw[hsn];refine aM.of (aY ?_) (λa u hu=>⟨u,?_,cm.refl _⟩) (λx hx=>by simpa using hx) (N4 _) (N4 _)
  ·exact cM e1
  ·simp only[upd,aB,kyO] at hu |-;by_cases a1:a=1
   ·subst a1;simpa using hu
   ·by_cases a0:a=0
    ·subst a0;simpa [n0] using hu
    ·simp[a1,a0] at hu
 ·have hj2:j=r.length:=by omega
  subst hj2;have g1:=ixE (r.length);rw[OG];unfold kyO;have hv:ay (.agg [.int .i64 k,.str b,.str o,.sl 1 (ints (r.map Pt.n)) (.own tk)]) (.agg [.int .i64 k,.str b,.str o,.sl 1 (ints (r.map Pt.n)) .any]):=ay.agg (aA.cons (ay.refl _) (aA.cons (ay.refl _) (aA.cons (ay.refl _) (aA.cons ay.cap aA.nil))));have hz:ay (.agg [.int .i64 0,.str [],.str [],.sl 1 [] (.exact 0)]) (.agg [.int .i64 0,.str [],.str [],.sl 1 [] .any]):=ay.agg (aA.cons (ay.refl _) (aA.cons (ay.refl _) (aA.cons (ay.refl _) (aA.cons ay.cap aA.nil))));cases dk:decide (ke=0) with
  |true=>
   cases ds:decide (ks=s) with
   |true=>
    refine rf1 (cj3 g1 dk ds) ck ?_;refine aG ?_;rw[hen];exact ay.tup (aA.cons hv (aA.cons (ay.refl _) aA.nil))
   |false=>
    refine rf1 (cj3 g1 dk ds) ck ?_;refine aG ?_;rw[hno];exact ay.tup (aA.cons hz (aA.cons (ay.refl _) aA.nil))
  |false=>
   refine rf1 (cj2 g1 dk) ck ?_;refine aG ?_;rw[Ob ah,Ob ah,hno];exact ay.tup (aA.cons hz (aA.cons (ay.refl _) aA.nil))
theorem Gs:r8= .seq (hdA r8) (.seq (hdA (tlA r8)) (.seq (hdA (tlA (tlA r8))) (.seq (hdA (tlA (tlA (tlA r8)))) (.seq (hdA (tlA (tlA (tlA (tlA r8))))) (.seq (hdA (tlA (tlA (tlA (tlA (tlA r8)))))) qX))))):=rfl
theorem xZ(l:List Pt)(k:Nat):(pts l).drop k=pts (l.drop k):=by simp[pts]
theorem IJ(s:List UInt8)(hs:s.length<=140737488355328):aI Tryz.prog 110 [.str s] (.tup [di (bc s),.int .i64 (mu s)]):=by
 refine f110.aF ah rfl (by simp[aW,aJ,eM]) ?_;rw[Gs];have PR:=Au s;generalize qX=R at*
 unfold r8 zz;simp only[hdA,tlA];have cd:=Gp s hs;obtain ⟨hin,hl⟩:=vZ s;have hP:cF s=(decide (jR s=0)&&iK s (iQ s)):=rfl;have hO:bc s=if cF s then gG (iQ s) else xX:=rfl
 have hE:mu s=if cF s then 0 else 4:=rfl
 rw[hO,hE];rw[hP];clear hO hE hP;generalize iQ s=l at*
 have lp:=cE l;have i3:ints []=[]:=rfl;have hno:di xX= .agg [.int .i64 0,.str [],.str [],.sl 1 [] .any]:=rfl;by_cases he:jR s=0
 ·have d1:decide (jR s=0)=true:=N9 he;by_cases h2:2<=l.length
  ·have x0:(0:Int)<((l.length:Nat):Int):=by omega
   have x1:(1:Int)<((l.length:Nat):Int):=by omega
   have d2:decide (((l.length:Nat):Int)<2)=false:=N6 ae;have a0:=dY l 0 .any ae;have a1:=dY l 1 .any ae;unfold bX at a0 a1;by_cases h1:(l.getD 0 default).s.length=1
   ·obtain ⟨c,hc⟩:∃c,(l.getD 0 default).s=[c]:=by
     generalize (l.getD 0 default).s=t at*
     match t with
     |[]=>simp at h1
     |[c]=>exact ⟨c,rfl⟩
     |_::_::_=>simp at h1
    have l1:([c].length:Nat)=1:=rfl;have d3:decide (((1:Nat):Int)=1)=true:=rfl;have cx:aI Tryz.prog 157 [.str [98,111,99,117,112,113],.str [c]] (.int .i64 (fM c - 1)):=by
     have:=IH lets c aq aq;have e:fM c - 1=uJ lets c:=by unfold fM;omega
     rw[e];exact this
    obtain ⟨r1,r2⟩:=sU c;have w1:IntKind.i64.wrap (fM c - 1+1)=fM c:=by rw[IntWalk.i64_in _ ae];omega
    have hck:=As l;have hkc:kA (l.getD 0 default).s=fM c:=by rw[hc];rfl
    rw[hc] at a0;have t1:Int.toNat 1=1:=rfl;have t2:Int.toNat 2=2:=rfl;have x2:(0:Int)<=1:=by decide
    have x3:(0:Int)<=2:=by decide
    have x4:(2:Int)<=((l.length:Nat):Int):=by omega
    have hcut:((pts l).take l.length).drop 2=pts (l.drop 2):=by rw[<-lp,OG,xZ]
    have hgd:iK s l=(decide (gr (gG l)=0)&&decide (dB (gG l)=s)):=by
     unfold iK;rw[N9 h2,OM]
    rw[hgd,d1,OM];have hfit:=sT hin hl;have hl2:(l.drop 2).length=l.length - 2:=OY;have lr:=cE (l.drop 2);by_cases hk1:fM c=1
    ·have hC:gG l=⟨fM c,(l.getD 1 default).s,[],(l.drop 2).map Pt.n⟩:=by
      unfold gG;simp only[hkc,hk1,ne_eq,not_true,false_and,Od]
     rw[hC] at hfit |-;have dk:decide (fM c=1)=true:=N9 hk1;have W:=PR (fM c) (l.getD 1 default).s [] (l.drop 2) ae hfit;refine rn2 (bf d1 d2 d3 x0 x1 x2 x3 x4 t1 t2 l1 (iw a0 a1 lp w1 dk hcut Int.toNat_zero @OU @Ol @N7)) cd cx ?_;show Wp Tryz.prog 88 R _ _;refine Wp.le (aM.of (aY ?_) (λa u hu=>⟨u,?_,cm.refl _⟩) (λx hx=>hx) (N4 _) (N4 _)) W
     ·exact cM hcut
     ·simp only[upd,aB,kyO] at hu |-;by_cases a1:a=1
      ·subst a1;simpa using hu
      ·by_cases a0:a=0
       ·subst a0;simpa using hu
       ·simp[a1,a0] at hu
    ·have dk:decide (fM c=1)=false:=N6 hk1;by_cases hr0:l.drop 2=[]
     ·have hC:gG l=⟨fM c,(l.getD 1 default).s,[],(l.drop 2).map Pt.n⟩:=by
       unfold gG;simp only[hkc,hr0,ne_eq,not_true,and_false,Od]
      rw[hC] at hfit |-;have W:=PR (fM c) (l.getD 1 default).s [] (l.drop 2) ae hfit;have hl0:(l.drop 2).length=0:=by rw[hr0];rfl
      have z0:decide ((0:Int)<(((l.drop 2).length:Nat):Int))=false:=N6 ae;refine rn2 (bf d1 d2 d3 x0 x1 x2 x3 x4 t1 t2 l1 (bf a0 a1 lp w1 dk hcut lr z0 Int.toNat_zero @OU @Ol @N7)) cd cx ?_;show Wp Tryz.prog 88 R _ _;refine Wp.le (aM.of (aY ?_) (λa u hu=>⟨u,?_,cm.refl _⟩) (λx hx=>hx) (N4 _) (N4 _)) W
      ·exact cM hcut
      ·simp only[upd,aB,kyO] at hu |-;by_cases a1:a=1
       ·subst a1;simpa using hu
       ·by_cases a0:a=0
        ·subst a0;simpa using hu
        ·simp[a1,a0] at hu
     ·have hC:gG l=⟨fM c,(l.getD 1 default).s,((l.drop 2).getD 0 default).s,((l.drop 2).drop 1).map Pt.n⟩:=by
       unfold gG;simp only[hkc,hr0,hk1,ne_eq,not_false_eq_true,Qk,Of]
      rw[hC] at hfit |-;have hpos:=Qn.2 hr0;have W:=PR (fM c) (l.getD 1 default).s ((l.drop 2).getD 0 default).s ((l.drop 2).drop 1) (by rw[OY];omega) hfit;have z0:decide ((0:Int)<(((l.drop 2).length:Nat):Int))=true:=N9 ae;have x5:(0:Int)<(((l.drop 2).length:Nat):Int):=by omega
      have x6:(1:Int)<=(((l.drop 2).length:Nat):Int):=by omega
      have a2:=dY (l.drop 2) 0 .any hpos;unfold bX at a2;have hcut2:((pts (l.drop 2)).take (l.drop 2).length).drop 1=pts ((l.drop 2).drop 1):=by rw[<-lr,OG,xZ]
      generalize l.drop 2=r at*
      refine rn2 (bf d1 d2 d3 x0 x1 x2 x3 x4 x5 x6 t1 (bf t2 l1 a0 a1 a2 lp w1 dk hcut hcut2 lr (cj5 z0 Int.toNat_zero @OU @Ol @N7))) cd cx ?_;show Wp Tryz.prog 88 R _ _;refine Wp.le (aM.of (aY ?_) (λa u hu=>⟨u,?_,cm.refl _⟩) (λx hx=>hx) (N4 _) (N4 _)) W
      ·exact cM hcut2
      ·simp only[upd,aB,kyO] at hu |-;by_cases a1:a=1
       ·subst a1;simpa using hu
       ·by_cases a0:a=0
        ·subst a0;simpa using hu
        ·simp[a1,a0] at hu
   ·have d3:decide ((((l.getD 0 default).s.length:Nat):Int)=1)=false:=N6 ae;have hk:kA (l.getD 0 default).s=0:=by
     generalize (l.getD 0 default).s=t at*
     match t with
     |[]=>rfl
     |[c]=>simp at h1
     |_::_::_=>rfl
    have hg:iK s l=false:=D0 hk;rw[hg,Qd,Ob ah,Ob ah,hno];refine rf1 (cj9 d1 d2 d3 x0 a0 lp Int.toNat_zero @OU @Ol) cd ?_;refine aG ?_;exact ay.tup (aA.cons (ay.agg (aA.cons (ay.refl _) (aA.cons (ay.refl _) (aA.cons (ay.refl _) (aA.cons ay.cap aA.nil))))) (aA.cons (ay.refl _) aA.nil))
  ·have d2:decide (((l.length:Nat):Int)<2)=true:=N9 ae;have hg:iK s l=false:=by unfold iK;rw[N6 h2];rfl
   rw[hg,Qd,Ob ah,Ob ah,hno];refine rf1 (cj3 d1 d2 lp) cd ?_;refine aG ?_;exact ay.tup (aA.cons (ay.agg (aA.cons (ay.refl _) (aA.cons (ay.refl _) (aA.cons (ay.refl _) (aA.cons ay.cap aA.nil))))) (aA.cons (ay.refl _) aA.nil))
 ·have d1:decide (jR s=0)=false:=N6 he;rw[d1,Pv,Ob ah,Ob ah,hno];refine rf1 d1 cd ?_;refine aG ?_;exact ay.tup (aA.cons (ay.agg (aA.cons (ay.refl _) (aA.cons (ay.refl _) (aA.cons (ay.refl _) (aA.cons ay.cap aA.nil))))) (aA.cons (ay.refl _) aA.nil))
def v8:AC:=tlA (tlA (tlA (tlA (tlA (tlA (tlA (tlA c66)))))))
theorem ya(s:List UInt8)(k:Int)(b o:List UInt8)(l:List Pt)(i:Nat)(hi:i<=l.length)(hl:l.length<=128)(hf:(⟨k,b,o,(l.drop i).map Pt.n⟩:Ky).fit):
  Wp Tryz.prog 89 v8 ⟨tm [(0,.str s),(2,.ptr 0 0),(4,.sl 3 (pts l) .any),(6,.ptr 1 0),(8,.int .i64 (i:Nat))],⟨kyO k b o (.sl 1 [] (.exact 0)),2,[],0⟩⟩ (QK s ⟨k,b,o,(l.drop i).map Pt.n⟩):=by
 have hrl:(l.drop i).length=l.length - i:=OY;have lp:=cE l;have ck:=F7 _ hf;have hno:di xX= .agg [.int .i64 0,.str [],.str [],.sl 1 [] .any]:=rfl;have hen:di ⟨k,b,o,(l.drop i).map Pt.n⟩= .agg [.int .i64 k,.str b,.str o,.sl 1 (ints ((l.drop i).map Pt.n)) .any]:=rfl;unfold QK;rw[hen] at ck;have hra:∀j,j<(l.drop i).length->l.getD (i+j) default=(l.drop i).getD j default:=λj hj=>by
  simp[List.getD,Qm]
 generalize hR:l.drop i=r at*
 generalize gr ⟨k,b,o,r.map Pt.n⟩=ke at*
 generalize dB ⟨k,b,o,r.map Pt.n⟩=ks at*
 unfold v8 c66 kyO zz;simp only[tlA];refine rf0 lp ?_;refine Wp.le (aM.tok _ _) ?_;refine Wp.le (s':=⟨tm [(0,.str s),(2,.ptr 0 0),(4,.sl 3 (pts l) .any),(6,.ptr 1 0),(9,.int .i64 ((i+0:Nat)))],⟨kyO k b o (.sl 1 (ints []) (.own 0)),2,[0],1⟩⟩) (aM.of (aY ?_) (OLe.upd (OLe.bZ _) (aA.cons (ay.refl _) (aA.cons (ay.refl _) (aA.cons (ay.refl _) (aA.cons (ay.dt rfl) aA.nil))))) (λa ha=>ha) (N4 _) (N4 _)) ?_
 ·exact xSb
 refine Wp.cO [0,2,4,6] xA7 (λj:Nat × Nat × Nat × Nat=>[(9,.int .i64 ((i+j.1:Nat)))]) (λj=>⟨kyO k b o (.sl 1 (ints ((r.take j.1).map Pt.n)) (.own j.2.1)),j.2.2.1,[j.2.1],j.2.2.2⟩) (λj=>j.1<=r.length/\2<=j.2.2.1/\j.2.1<j.2.2.2) (λj=>r.length - j.1) (0,0,2,1) ⟨Ot _,by decide,by decide⟩ rfl ?_ ?_
 ·exact xSb
 rintro ⟨j,tk,n,m⟩ ⟨hj,hn2,htm⟩;simp only at hj hn2 htm;by_cases hc:j<r.length
 ·have g1:decide (((i+j:Nat):Int)<((l.length:Nat):Int))=true:=N9 ae;have h2:(0:Int)<=((i+j:Nat):Int):=by omega
  have h3:((i+j:Nat):Int)<((l.length:Nat):Int):=by omega
  have e1:IntKind.i64.wrap (((i+j:Nat):Int)+1)=((i+(j+1):Nat):Int):=by rw[IntWalk.i64_in _ ae];omega
  have hat:=dY l (i+j) .any ae;rw[hra j hc] at hat;have hsn:ints ((r.take (j+1)).map Pt.n)=ints ((r.take j).map Pt.n)++[.int .i64 (r.getD j default).n]:=by
   have e:r.getD j default=r[j]:=by simp[List.getD,N5 hc]
   rw[e,OD hc,Pl];simp only[ints,Pl,OJ,OQ]
  have li:(ints ((r.take j).map Pt.n)).length=j:=by rw[dM];simp;omega
  have e6:(j+1)*8<=140737488355328:=by omega
  have e7:j+1<4611686018427387904:=by omega
  unfold bX at hat;unfold kyO;refine rn0 (bf g1 h2 h3 lp hat li e6 e7 @N7 @Ol @N8.{0} (cj4 @Oa.{0} @Oo @Oj.{0} @O2)) ?_;refine ⟨(j+1,m,n,m+1),⟨hc,by simp only;omega,by simp⟩,PB hc (OL _),?_⟩;rw[hsn];refine aM.of (aY ?_) (λa u hu=>⟨u,?_,cm.refl _⟩) (λx hx=>by simpa using hx) (N4 _) (N4 _)
  ·exact cM e1
  ·simp only[upd,aB,kyO] at hu |-;by_cases a1:a=1
   ·subst a1;simpa using hu
   ·by_cases a0:a=0
    ·subst a0;simpa using hu
    ·simp[a1,a0] at hu
 ·have hj2:j=r.length:=by omega
  subst hj2;have g1:decide (((i+r.length:Nat):Int)<((l.length:Nat):Int))=false:=N6 ae;rw[OG];unfold kyO;have hv:ay (.agg [.int .i64 k,.str b,.str o,.sl 1 (ints (r.map Pt.n)) (.own tk)]) (.agg [.int .i64 k,.str b,.str o,.sl 1 (ints (r.map Pt.n)) .any]):=ay.agg (aA.cons (ay.refl _) (aA.cons (ay.refl _) (aA.cons (ay.refl _) (aA.cons ay.cap aA.nil))));have hz:ay (.agg [.int .i64 0,.str [],.str [],.sl 1 [] (.exact 0)]) (.agg [.int .i64 0,.str [],.str [],.sl 1 [] .any]):=ay.agg (aA.cons (ay.refl _) (aA.cons (ay.refl _) (aA.cons (ay.refl _) (aA.cons ay.cap aA.nil))));cases dk:decide (ke=0) with
  |true=>
   cases ds:decide (ks=s) with
   |true=>
    refine rf1 (cj4 g1 lp dk ds) ck ?_;refine aG ?_;rw[hen];exact ay.tup (aA.cons hv (aA.cons (ay.refl _) aA.nil))
   |false=>
    refine rf1 (cj4 g1 lp dk ds) ck ?_;refine aG ?_;rw[hno];exact ay.tup (aA.cons hz (aA.cons (ay.refl _) aA.nil))
  |false=>
   refine rf1 (cj3 g1 lp dk) ck ?_;refine aG ?_;rw[Ob ah,Ob ah,hno];exact ay.tup (aA.cons hz (aA.cons (ay.refl _) aA.nil))
def kR(t:List UInt8):Nat->Int
 |0=>0
 |j+1=>if t=[lets.getD j 0] then ((j+1:Nat):Int) else kR t j
theorem KO(t:List UInt8):kR t 6=kA t:=by
 match t with
 |[]=>rfl
 |[c]=>
  have e:kA [c]=fM c:=rfl;rw[e,xW];simp only[kR,lets,Pf,Qk,OP,Ph];by_cases h1:c=98
  ·subst h1;rfl
  by_cases h2:c=111
  ·subst h2;rfl
  by_cases h3:c=99
  ·subst h3;rfl
  by_cases h4:c=117
  ·subst h4;rfl
  by_cases h5:c=112
  ·subst h5;rfl
  by_cases h6:c=113
  ·subst h6;rfl
  simp[h1,h2,h3,h4,h5,h6]
 |a::b::r=>
  simp[kR,lets,kA]
theorem Gt:∀j,j<6->(([98,111,99,117,112,113]:List UInt8).take (j+1)).drop j=[lets.getD j 0]:=by decide
theorem IK:c66= .seq (hdA c66) (.seq (hdA (tlA c66)) (.seq (hdA (tlA (tlA c66))) (.seq (hdA (tlA (tlA (tlA c66)))) (.seq (hdA (tlA (tlA (tlA (tlA c66))))) (.seq (hdA (tlA (tlA (tlA (tlA (tlA c66)))))) (.seq (hdA (tlA (tlA (tlA (tlA (tlA (tlA c66))))))) (.seq (hdA (tlA (tlA (tlA (tlA (tlA (tlA (tlA c66)))))))) v8))))))):=rfl
theorem yb(s:List UInt8)(hs:s.length<=140737488355328):aI Tryz.prog 66 [.str s] (.tup [di (bc s),.int .i64 (mu s)]):=by
 refine f66.aF ah rfl (by simp[aW,aJ,eM]) ?_;rw[IK];have PR:=ya s;generalize v8=R at*
 unfold c66 zz;simp only[hdA,tlA];have cd:=DZ s hs;obtain ⟨hin,hl⟩:=vZ s;have hP:cF s=(decide (jR s=0)&&iK s (iQ s)):=rfl;have hO:bc s=if cF s then gG (iQ s) else xX:=rfl
 have hE:mu s=if cF s then 0 else 4:=rfl
 rw[hO,hE];rw[hP];clear hO hE hP;generalize iQ s=l at*
 have lp:=cE l;have hno:di xX= .agg [.int .i64 0,.str [],.str [],.sl 1 [] .any]:=rfl;have hz:ay (.agg [.int .i64 0,.str [],.str [],.sl 1 [] (.exact 0)]) (.agg [.int .i64 0,.str [],.str [],.sl 1 [] .any]):=ay.agg (aA.cons (ay.refl _) (aA.cons (ay.refl _) (aA.cons (ay.refl _) (aA.cons ay.cap aA.nil))));by_cases he:jR s=0
 ·have d1:decide (jR s=0)=true:=N9 he;by_cases h2:2<=l.length
  ·have x0:(0:Int)<((l.length:Nat):Int):=by omega
   have x1:(1:Int)<((l.length:Nat):Int):=by omega
   have d2:decide (((l.length:Nat):Int)<2)=false:=N6 ae;have a0:=dY l 0 .any ae;have a1:=dY l 1 .any ae;unfold bX at a0 a1;have hgd:iK s l=(decide (gr (gG l)=0)&&decide (dB (gG l)=s)):=by
    unfold iK;rw[N9 h2,OM]
   rw[hgd,d1,OM];have hfit:=sT hin hl;have hck:=As l;have hk6:=KO (l.getD 0 default).s;obtain ⟨r1,r2⟩:=xY (l.getD 0 default).s;refine rf1 (cj3 d1 d2 lp) cd ?_;refine Wp.le (s':=⟨tm [(0,.str s),(2,.ptr 0 0),(4,.sl 3 (pts l) .any),(6,.ptr 1 0),(7,.int .i64 ((0:Nat)+1:Nat))],⟨kyO (kR (l.getD 0 default).s 0) [] [] (.sl 1 [] (.exact 0)),2,[],0⟩⟩) (aM.of (aY ?_) (OLe.bZ _) (λa ha=>ha) (N4 _) (N4 _)) ?_
   ·exact xSb
   refine Wp.cO [0,2,4,6] xA7 (λj:Nat=>[(7,.int .i64 ((j+1:Nat)))]) (λj=>⟨kyO (kR (l.getD 0 default).s j) [] [] (.sl 1 [] (.exact 0)),2,[],0⟩) (λj=>j<=6) (λj=>6 - j) 0 (Ot _) rfl ?_ ?_
   ·exact xSb
   rintro j hj;by_cases hc:j<6
   ·have g1:decide (((j+1:Nat):Int)<=6)=true:=N9 ae;have w1:IntKind.i64.wrap (((j+1:Nat):Int) - 1)=(j:Int):=by rw[IntWalk.i64_in _ ae];omega
    have w2:IntKind.i64.wrap (((j+1:Nat):Int)+1)=((j+1+1:Nat):Int):=by rw[IntWalk.i64_in _ ae];omega
    have y1:(0:Int)<=(j:Int):=by omega
    have y2:(j:Int)<=((j+1:Nat):Int):=by omega
    have y3:((j+1:Nat):Int)<=((6:Nat):Int):=by omega
    have y4:(0:Int)<=((j+1:Nat):Int):=by omega
    have hcut:List.drop j ((98:UInt8)::List.take j [111,99,117,112,113])=[lets.getD j 0]:=Gt j hc;have hL:(([98,111,99,117,112,113]:List UInt8).length:Nat)=6:=rfl;have hkj:kR (l.getD 0 default).s (j+1)=if (l.getD 0 default).s=[lets.getD j 0] then ((j+1:Nat):Int) else kR (l.getD 0 default).s j:=rfl
    unfold kyO;by_cases hq:(l.getD 0 default).s=[lets.getD j 0]
    ·have dq:decide ((l.getD 0 default).s=[lets.getD j 0])=true:=N9 hq;refine rn0 (bf g1 w1 y1 y2 y3 y4 x0 a0 hcut hL dq (cj5 lp Int.toNat_zero @N7 @OU @Ol)) ?_;refine ⟨j+1,ae,ae,?_⟩;rw[hkj,Oi hq];refine aM.of (aY ?_) (λa u hu=>⟨u,?_,cm.refl _⟩) (λx hx=>hx) (N4 _) (N4 _)
     ·exact cM w2
     ·simp only[upd,aB,kyO] at hu |-;by_cases a1:a=1
      ·subst a1;simpa using hu
      ·by_cases a0:a=0
       ·subst a0;simpa using hu
       ·simp[a1,a0] at hu
    ·have dq:decide ((l.getD 0 default).s=[lets.getD j 0])=false:=N6 hq;refine rn0 (bf g1 w1 y1 y2 y3 y4 x0 a0 hcut hL dq (cj5 lp Int.toNat_zero @N7 @OU @Ol)) ?_;refine ⟨j+1,ae,ae,?_⟩;rw[hkj,Ob hq];refine aM.of (aY ?_) (λa u hu=>⟨u,?_,cm.refl _⟩) (λx hx=>hx) (N4 _) (N4 _)
     ·exact cM w2
     ·simp only[upd,aB,kyO] at hu |-;by_cases a1:a=1
      ·subst a1;simpa using hu
      ·by_cases a0:a=0
       ·subst a0;simpa using hu
       ·simp[a1,a0] at hu
   ·have hj6:j=6:=by omega
    subst hj6;rw[hk6];have g1:decide (((6+1:Nat):Int)<=6)=false:=by decide
    have t1:Int.toNat 1=1:=rfl;have t2:Int.toNat 2=2:=rfl;have x2:(0:Int)<=1:=by decide
    have x3:(0:Int)<=2:=by decide
    unfold kyO;generalize hkk:kA (l.getD 0 default).s=kk at*
    by_cases hc3:1<kk/\2<l.length
    ·have z1:decide ((1:Int)<kk)=true:=N9 hc3.1;have z2:decide ((2:Int)<((l.length:Nat):Int))=true:=N9 ae;have x4:(2:Int)<((l.length:Nat):Int):=by omega
     have a2:=dY l 2 .any hc3.2;unfold bX at a2;have hr0:l.drop 2≠[]:=by intro h;have:=Pj List.length h;simp only[OY,List.length_nil] at this;omega
     have hd0:(l.drop 2).getD 0 default=l.getD 2 default:=by simp[List.getD,Qm]
     have hd1:(l.drop 2).drop 1=l.drop 3:=by rw[PK]
     have hC:gG l=⟨kk,(l.getD 1 default).s,(l.getD 2 default).s,(l.drop 3).map Pt.n⟩:=by
      unfold gG;simp only;rw[hkk,Oi ⟨ae,hr0⟩,hd0,hd1]
     rw[hC] at hfit |-;have W:=PR kk (l.getD 1 default).s (l.getD 2 default).s l 3 ae hl hfit;refine rf0 (bf g1 x0 x1 x2 x3 x4 t1 t2 a0 a1 a2 (cj6 z1 z2 lp Int.toNat_zero @OU @Ol)) ?_;show Wp Tryz.prog 89 R _ _;refine Wp.le (aM.of (aY ?_) (λa u hu=>⟨u,?_,cm.refl _⟩) (λx hx=>hx) (N4 _) (N4 _)) W
     ·exact xSb
     ·simp only[upd,aB,kyO] at hu |-;by_cases a1:a=1
      ·subst a1;simpa using hu
      ·by_cases a0:a=0
       ·subst a0;simpa using hu
       ·simp[a1,a0] at hu
    ·by_cases z0:1<kk
     ·have z1:decide ((1:Int)<kk)=true:=N9 z0;have z2:decide ((2:Int)<((l.length:Nat):Int))=false:=N6 ae;have hr0:l.drop 2=[]:=Pg ae;have hC:gG l=⟨kk,(l.getD 1 default).s,[],(l.drop 2).map Pt.n⟩:=by
       unfold gG;simp only;rw[hkk,Ob (λh=>h.2 hr0)]
      rw[hC] at hfit |-;have W:=PR kk (l.getD 1 default).s [] l 2 ae hl hfit;refine rf0 (bf g1 x0 x1 x2 x3 t1 t2 a0 a1 z1 z2 (cj4 lp Int.toNat_zero @OU @Ol)) ?_;show Wp Tryz.prog 89 R _ _;refine Wp.le (aM.of (aY ?_) (λa u hu=>⟨u,?_,cm.refl _⟩) (λx hx=>hx) (N4 _) (N4 _)) W
      ·exact xSb
      ·simp only[upd,aB,kyO] at hu |-;by_cases a1:a=1
       ·subst a1;simpa using hu
       ·by_cases a0:a=0
        ·subst a0;simpa using hu
        ·simp[a1,a0] at hu
     ·have z1:decide ((1:Int)<kk)=false:=N6 z0;by_cases k1:kk=1
      ·have hC:gG l=⟨kk,(l.getD 1 default).s,[],(l.drop 2).map Pt.n⟩:=by
        unfold gG;simp only;rw[hkk,Ob (λh=>h.1 k1)]
       rw[hC] at hfit |-;have W:=PR kk (l.getD 1 default).s [] l 2 ae hl hfit;refine rf0 (bf g1 x0 x1 x2 x3 t1 t2 a0 a1 z1 lp (cj3 Int.toNat_zero @OU @Ol)) ?_;show Wp Tryz.prog 89 R _ _;refine Wp.le (aM.of (aY ?_) (λa u hu=>⟨u,?_,cm.refl _⟩) (λx hx=>hx) (N4 _) (N4 _)) W
       ·exact xSb
       ·simp only[upd,aB,kyO] at hu |-;by_cases a1:a=1
        ·subst a1;simpa using hu
        ·by_cases a0:a=0
         ·subst a0;simpa using hu
         ·simp[a1,a0] at hu
      ·have k0:kk=0:=by omega
       have hE1:gr (gG l)=2:=pO (by rw[hck,k0]);have hE2:gr ⟨kk,(l.getD 1 default).s,[],(l.drop 2).map Pt.n⟩=2:=pO k0;have W:=PR kk (l.getD 1 default).s [] l 2 ae hl (by
        refine ⟨by simp;omega,λn hn=>?_⟩;obtain ⟨p,hp,rfl⟩:=OC.1 hn;exact hin p (Q0 hp))
       unfold QK at W;rw[hE2] at W;rw[hE1];have b0:decide ((2:Int)=0)=false:=rfl;rw[b0,Pv] at W |-;rw[Ob ah,Ob ah] at W |-;refine rf0 (bf g1 x0 x1 x2 x3 t1 t2 a0 a1 z1 lp (cj3 Int.toNat_zero @OU @Ol)) ?_;show Wp Tryz.prog 89 R _ _;refine Wp.le (aM.of (aY ?_) (λa u hu=>⟨u,?_,cm.refl _⟩) (λx hx=>hx) (N4 _) (N4 _)) W
       ·exact xSb
       ·simp only[upd,aB,kyO] at hu |-;by_cases a1:a=1
        ·subst a1;simpa using hu
        ·by_cases a0:a=0
         ·subst a0;simpa using hu
         ·simp[a1,a0] at hu
  ·have d2:decide (((l.length:Nat):Int)<2)=true:=N9 ae;have hg:iK s l=false:=by unfold iK;rw[N6 h2];rfl
   rw[hg,Qd,Ob ah,Ob ah,hno];refine rf1 (cj3 d1 d2 lp) cd ?_;refine aG ?_;exact ay.tup (aA.cons hz (aA.cons (ay.refl _) aA.nil))
 ·have d1:decide (jR s=0)=false:=N6 he;rw[d1,Pv,Ob ah,Ob ah,hno];refine rf1 d1 cd ?_;refine aG ?_;exact ay.tup (aA.cons hz (aA.cons (ay.refl _) aA.nil))
def nV(s:List UInt8):Bool:=decide (s.length=1)&&(decide (48<=(s.getD 0 0).toNat)&&decide ((s.getD 0 0).toNat<=50))
def stV(s:List UInt8):Int:=if nV s then (((s.getD 0 0).toNat - 48:Nat):Int) else 0
def stR(s:List UInt8):Int:=if nV s then 0 else 4
theorem yd(s:List UInt8):aI Tryz.prog 111 [.str s] (.tup [.int .i64 (stV s),.int .i64 (stR s)]):=by
 refine f111.aF ah rfl rfl ?_;unfold LL stV stR zz;by_cases h1:s.length=1
 ·have d1:decide (((s.length:Nat):Int)=1)=true:=N9 ae;have l0:(0:Int)<((s.length:Nat):Int):=by omega
  have hi:nV s=(decide (48<=(s.getD 0 0).toNat)&&decide ((s.getD 0 0).toNat<=50)):=by unfold nV;rw[N9 h1,OM]
  rw[hi];obtain ⟨c,hg⟩:∃c,s.getD 0 0=c:=⟨_,rfl⟩;rw[hg];have hc:=c.toNat_lt;by_cases h2:48<=c.toNat
  ·have d2:decide (((c.toNat:Nat):Int)<48)=false:=N6 ae;by_cases h3:c.toNat<=50
   ·have d3:decide ((50:Int)<((c.toNat:Nat):Int))=false:=N6 ae;have w1:IntKind.u8.wrap (((c.toNat:Nat):Int) - 48)=((c.toNat - 48:Nat):Int):=by rw[IntWalk.u8_in _ ae];omega
    have w2:IntKind.i64.wrap ((c.toNat - 48:Nat):Int)=((c.toNat - 48:Nat):Int):=IntWalk.i64_in _ ae;rw[N9 h2,N9 h3];refine rf0 (fD d1 l0 hg d2 d3 w1 w2 @byte.eq_1 Int.toNat_zero @OU @Ol) ?_;refine aG ?_;exact ay.refl _
   ·have d3:decide ((50:Int)<((c.toNat:Nat):Int))=true:=N9 ae;rw[N9 h2,N6 h3];refine rf0 (cj9 d1 l0 hg d2 d3 @byte.eq_1 Int.toNat_zero @OU @Ol) ?_;refine aG ?_;exact ay.refl _
  ·have d2:decide (((c.toNat:Nat):Int)<48)=true:=N9 ae;rw[N6 h2];refine rf0 (cj8 d1 l0 hg d2 @byte.eq_1 Int.toNat_zero @OU @Ol) ?_;refine aG ?_;exact ay.refl _
 ·have d1:decide (((s.length:Nat):Int)=1)=false:=N6 ae;have hi:nV s=false:=by unfold nV;rw[N6 h1];rfl
  rw[hi];refine rf0 d1 ?_;refine aG ?_;exact ay.refl _
theorem we(s:List UInt8):aI Tryz.prog 67 [.str s] (.tup [.int .i64 (stV s),.int .i64 (stR s)]):=by
 refine f67.aF ah rfl rfl ?_;unfold c67 stV stR zz;by_cases h1:s.length=1
 ·have d1:decide (((s.length:Nat):Int)=1)=true:=N9 ae;have l0:(0:Int)<((s.length:Nat):Int):=by omega
  have hi:nV s=(decide (48<=(s.getD 0 0).toNat)&&decide ((s.getD 0 0).toNat<=50)):=by unfold nV;rw[N9 h1,OM]
  rw[hi];obtain ⟨c,hg⟩:∃c,s.getD 0 0=c:=⟨_,rfl⟩;rw[hg];have hc:=c.toNat_lt;by_cases h2:48<=c.toNat
  ·have d2:decide (((c.toNat:Nat):Int)<48)=false:=N6 ae;by_cases h3:c.toNat<=50
   ·have d3:decide ((50:Int)<((c.toNat:Nat):Int))=false:=N6 ae;have w1:IntKind.u8.wrap (((c.toNat:Nat):Int) - 48)=((c.toNat - 48:Nat):Int):=by rw[IntWalk.u8_in _ ae];omega
    have w2:IntKind.i64.wrap ((c.toNat - 48:Nat):Int)=((c.toNat - 48:Nat):Int):=IntWalk.i64_in _ ae;rw[N9 h2,N9 h3];refine rf0 (fD d1 l0 hg d2 d3 w1 w2 @byte.eq_1 Int.toNat_zero @OU @Ol) ?_;refine aG ?_;exact ay.refl _
   ·have d3:decide ((50:Int)<((c.toNat:Nat):Int))=true:=N9 ae;rw[N9 h2,N6 h3];refine rf0 (cj9 d1 l0 hg d2 d3 @byte.eq_1 Int.toNat_zero @OU @Ol) ?_;refine aG ?_;exact ay.refl _
  ·have d2:decide (((c.toNat:Nat):Int)<48)=true:=N9 ae;rw[N6 h2];refine rf0 (cj8 d1 l0 hg d2 @byte.eq_1 Int.toNat_zero @OU @Ol) ?_;refine aG ?_;exact ay.refl _
 ·have d1:decide (((s.length:Nat):Int)=1)=false:=N6 ae;have hi:nV s=false:=by unfold nV;rw[N6 h1];rfl
  rw[hi];refine rf0 d1 ?_;refine aG ?_;exact ay.refl _
structure Hd where
 sz:Int
 re:Int
 im:Int
 g:Bool
 u:Bool
def D1:Hd:=⟨0,0,0,false,false⟩
def ni(h:Hd):AV:=ez h.sz h.re h.im h.g h.u
def hdC(s:List UInt8):Hd:=⟨(val ((s.drop 1).take 2):Nat),(val ((s.drop 3).take 4):Nat),(val ((s.drop 7).take 4):Nat),decide ((s.getD 0 0).toNat%2=1),decide ((s.getD 0 0).toNat/2%2=1)⟩
def hdB(s:List UInt8):Bool:=decide (s.length=11)&&(cX (hdC s).sz (hdC s).re (hdC s).im (hdC s).g&&decide (dK (hdC s).sz.toNat (hdC s).re.toNat (hdC s).im.toNat (hdC s).g (hdC s).u=s))
def hdO(s:List UInt8):Hd:=if hdB s then hdC s else D1
def hdE(s:List UInt8):Int:=if hdB s then 0 else 4
theorem uK{l:List UInt8}(h:l.length<=7):i64 l=((val l:Nat):Int):=by
 have h1:=eW l;have h2:(256:Nat)^l.length<=256^7:=Px ae h;have e:(256:Nat)^7=72057594037927936:=by decide
 unfold i64;exact IntWalk.i64_in _ ae
theorem qx(s:List UInt8)(hs:s.length<=140737488355328):aI Tryz.prog 62 [.str s] (.tup [ni (hdO s),.int .i64 (hdE s)]):=by
 refine f62.aF ah rfl rfl ?_;unfold c62 hdO hdE zz;by_cases h1:s.length=11
 ·have d1:decide (((s.length:Nat):Int)=11)=true:=N9 ae;have hi:hdB s=(cX (hdC s).sz (hdC s).re (hdC s).im (hdC s).g&&decide (dK (hdC s).sz.toNat (hdC s).re.toNat (hdC s).im.toNat (hdC s).g (hdC s).u=s)):=by unfold hdB;rw[N9 h1,OM]
  rw[hi];have l0:(0:Int)<((s.length:Nat):Int):=by omega
  have n1:=iU s 1 2 ae ae ae;have n2:=iU s 3 4 ae ae ae;have n3:=iU s 7 4 ae ae ae;rw[uK ar] at n1 n2 n3;have hC:hdC s=⟨(val ((s.drop 1).take 2):Nat),(val ((s.drop 3).take 4):Nat),(val ((s.drop 7).take 4):Nat),decide ((s.getD 0 0).toNat%2=1),decide ((s.getD 0 0).toNat/2%2=1)⟩:=rfl;rw[hC];simp only;obtain ⟨c,hg⟩:∃c,s.getD 0 0=c:=⟨_,rfl⟩;rw[hg];have b1:val ((s.drop 1).take 2)<65536:=by have:=eW ((s.drop 1).take 2);rw[OV,OY,h1] at this;exact this
  have b2:val ((s.drop 3).take 4)<4294967296:=by have:=eW ((s.drop 3).take 4);rw[OV,OY,h1] at this;exact this
  have b3:val ((s.drop 7).take 4)<4294967296:=by have:=eW ((s.drop 7).take 4);rw[OV,OY,h1] at this;exact this
  have i1:((1:Nat):Int)=1:=rfl;have i2:((2:Nat):Int)=2:=rfl;have i3:((3:Nat):Int)=3:=rfl;have i4:((4:Nat):Int)=4:=rfl;have i7:((7:Nat):Int)=7:=rfl;rw[i1,i2] at n1;rw[i3,i4] at n2;rw[i7,i4] at n3;generalize val ((s.drop 1).take 2)=v1 at*
  generalize val ((s.drop 3).take 4)=v2 at*
  generalize val ((s.drop 7).take 4)=v3 at*
  have hc:=c.toNat_lt;have m1:((c.toNat:Nat):Int).tmod 2=((c.toNat%2:Nat):Int):=rfl;have m2:((c.toNat:Nat):Int).tdiv 2=((c.toNat/2:Nat):Int):=rfl;have m3:IntKind.u8.wrap ((c.toNat/2:Nat):Int)=((c.toNat/2:Nat):Int):=IntWalk.u8_in _ ae;have m4:((c.toNat/2:Nat):Int).tmod 2=((c.toNat/2%2:Nat):Int):=rfl;have t1:decide (((c.toNat:Nat):Int).tmod 2=1)=decide (c.toNat%2=1):=by
   rw[m1,Ra];omega
  have t2:decide ((IntKind.u8.wrap (((c.toNat:Nat):Int).tdiv 2)).tmod 2=1)=decide (c.toNat/2%2=1):=by
   rw[m2,m3,m4,Ra];omega
  generalize decide (c.toNat%2=1)=g at*
  generalize decide (c.toNat/2%2=1)=u at*
  clear m1 m2 m3 m4;have cr:=lh v1 v2 v3 g u;have ch:=BI v1 v2 v3 b1 b2 b3 g u;have tn:∀v:Nat,((v:Nat):Int).toNat=v:=λv=>Int.toNat_natCast v;rw[tn,tn,tn];unfold ez at cr ch;unfold ni ez D1;cases dr:cX v1 v2 v3 g with
  |false=>
   rw[dr] at cr;rw[Pv,Ob ah,Ob ah];refine rn8 (cj9 d1 l0 hg @byte.eq_1 t1 t2 Int.toNat_zero @OU @Ol) n1 n2 n3 cr ch ch ch ch ?_;refine aG ?_;exact ay.refl _
  |true=>
   rw[dr] at cr;rw[OM];cases de:decide (dK v1 v2 v3 g u=s) with
   |false=>
    rw[Ob ah,Ob ah];refine rn8 (iw d1 l0 hg @byte.eq_1 t1 t2 de Int.toNat_zero @OU @Ol) n1 n2 n3 cr ch ch ch ch ?_;refine aG ?_;exact ay.refl _
   |true=>
    rw[Oi rfl,Oi rfl];refine rn8 (iw d1 l0 hg @byte.eq_1 t1 t2 de Int.toNat_zero @OU @Ol) n1 n2 n3 cr ch ch ch ch ?_;refine aG ?_;exact ay.refl _
 ·have d1:decide (((s.length:Nat):Int)=11)=false:=N6 ae;have hi:hdB s=false:=by unfold hdB;rw[N6 h1];rfl
  rw[hi];unfold ni ez D1;refine rf0 d1 ?_;refine aG ?_;exact ay.refl _
theorem filter_lt{T:List Nat}{m t:Nat}(h:∀x∈T,x<m)(ht:m<=t):List.filter (λx=>decide (¬x=t)) T=T:=by
 refine List.filter_eq_self.2 λx hx=>?_;have:=h x hx;simp;omega
def HOk(h:H):Prop:=(∀j,h.n<=j->h.objs j=none)/\∀t∈h.toks,t<h.m
set_option maxHeartbeats 4000000 in
theorem Gu(b:Bk)(hb:gq b=true)(hl:b.l.length<=1000000)(id:Nat)(Inv:Nat->H->Prop)(E:H->Prop)
  (hbd:∀i h,Inv i h->HOk h)
  (hup:∀i h n m,Inv i h->h.n<=n->h.m<=m->Inv i {h with n:=n,m:=m})
  (hY:∀i h t m,i<(cw b).length->Inv i h->h.m<=t->t<m->kY Tryz.prog id [.sl 3 (chs ((cw b).getD i [])) (.own t)] {h with toks:=t::h.toks,m:=m} λr h'=>(r= .bool true/\Inv (i+1) h')\/(r= .bool false/\E h'))
  (h0:H) (hi:Inv 0 h0):fE Tryz.prog 91 [.yld id,.ref [.str b.n,.int .i64 b.st,.sl 8 (vss b.l) .any]] h0 λr h'=>r= .tup []/\(Inv (cw b).length h'\/E h'):=by
 refine f91.iF ah ?_;unfold c91 zz;have hroom:=vR hb;have c1:=BG b.st;have c2:=sI (kyB b) (vN b) (stS b.st);have hL0:(cw b).getD 0 []=[vM b]:=rfl;have hB1:vM b=⟨dB (kyB b),stS b.st,false⟩:=rfl;have hLs:∀j,j<b.l.length->(cw b).getD (j+1) []=cW b.n (b.l.getD j default):=λj hj=>by
  simp[cw,OF,N5 hj]
 have hLl:(cw b).length=b.l.length+1:=by simp[cw]
 have hch:chs ((cw b).getD 0 [])=[.agg [.str (dB (kyB b)),.str (stS b.st),.bool false]]:=rfl;have hY0:=hY 0 h0 h0.m (h0.m+1) ae hi (N4 _) (OL _);rw[hch] at hY0;have hE:di (kyB b)= .agg [.int .i64 1,.str b.n,.str [],.sl 1 [] .any]:=rfl;rw[hE] at c2;generalize dB (kyB b)=k0 at*
 clear hB1 hch hL0;have hY1:=λj h t m (hj:j<b.l.length)=>hY (j+1) h t m ae;clear hY;rw[hLl];clear hE hLl;generalize cw b=R at*
 obtain ⟨nm,st,l⟩:=b;simp only at*
 have len:=dF l;generalize stS st=s0 at*
 refine Wp.le (aM.tok _ _) ?_;repeat (first
  |refine aw.nil ?_
  |((first|apply Wp.aH|apply Wp.cA|((first
    |(refine aw.bO ?_ ?_ (c1) ?_;(· simp only[go_sem,reduceIte,Nat.reduceEqDiff,Nat.reduceAdd,bx]);(· simp only[go_sem,reduceIte,Nat.reduceEqDiff,Nat.reduceAdd,bx,List.map,ax,Of,Od,Nat.reduceMul,Nat.reduceLeDiff];first|exact aA.refl _|(repeat (first|exact aA.nil|refine aA.cons xA5 ?_))))
    |(refine aw.bO ?_ ?_ (c2) ?_;(· simp only[go_sem,reduceIte,Nat.reduceEqDiff,Nat.reduceAdd,bx]);(· simp only[go_sem,reduceIte,Nat.reduceEqDiff,Nat.reduceAdd,bx,List.map,ax,Of,Od,Nat.reduceMul,Nat.reduceLeDiff];exact aA.cons (ay.agg (aA.cons (ay.refl _) (aA.cons (ay.refl _) (aA.cons (ay.refl _) (aA.cons ay.cap aA.nil))))) (aA.refl _))));apply aw.evF));(· simp only[go_sem,reduceIte,Nat.reduceEqDiff,Nat.reduceAdd,bx,ax,Of,Od,Nat.reduceMul,Nat.reduceLeDiff];exact rfl))
  |(apply Wp.cy;(· simp only[go_sem,reduceIte,Nat.reduceEqDiff,Nat.reduceAdd,bx,ax,Of,Od,Nat.reduceMul,Nat.reduceLeDiff];exact rfl);(· rfl))
  |refine Wp.skip ?_
  |refine Wp.label ?_
  |refine Wp.block ?_
  |refine Wp.exit ?_
  |refine Wp.seq ?_)
 refine aw.yield af (by simp only[go_sem,reduceIte,Nat.reduceEqDiff]) (by simp only[go_sem,reduceIte,Nat.reduceEqDiff,List.map];exact aA.cons (ay.dt rfl) aA.nil) hY0 λr h1 hq hn hm=>?_;rcases hq with ⟨rfl,hi1⟩|⟨rfl,hE1⟩
 case inr=>
  refine aw.evF xAc ?_;refine rf0 @OB ?_;refine Wp.ret ⟨trivial,_,rfl,?_,.inr hE1⟩;simp only[go_sem]
 clear hY0 hn hm hi h0;refine aw.evF xAc ?_;refine rf0 (cj2 @Oy @len) ?_;refine Wp.le (s':=⟨tm [(0,.yld id),(1,.ref [.str nm,.int .i64 st,.sl 8 (vss l) .any]),(30,.sl 8 (vss l) .any),(31,.int .i64 l.length),(32,.int .i64 0)],h1⟩) (aM.tm ?_) ?_
 ·exact xSb
 refine Wp.cO [0,1,30,31] xA7 (λb:Nat × H=>[(32,.int .i64 (b.1:Nat))]) (λb=>b.2) (λb=>b.1<=l.length/\Inv (b.1+1) b.2) (λb=>l.length - b.1) (0,h1) ⟨Ot _,hi1⟩ rfl ?_ ?_
 ·exact xSb
 clear hi1 h1;rintro ⟨j,h⟩ ⟨hj,hI⟩;simp only at hj hI;by_cases hc:j<l.length
 ·obtain ⟨g1,g2,g3,e1⟩:=dZ hc (OI hl aq);have hat:=gB l j .any hc;have hrm:=hroom j hc;have hY2:=λh t m=>hY1 j h t m hc;rw[hLs j hc] at hY2;obtain ⟨hz1,hz2⟩:=hbd _ _ hI;generalize l.getD j default=v at*
  have c3:=qS v.sz v.re v.im v.g v.u;have c4:=sI (kyV nm v) (vO nm hrm) (cR v.sz v.re v.im v.g v.u);have c5:=M8 v.b hrm.2;have c6:=λk hk=>sI (kyC nm v k) (vP nm hrm k hk) (chunk v.b k);have h16:=lu hrm.2;have hP0:iy nm v 0=[⟨dB (kyV nm v),cR v.sz v.re v.im v.g v.u,false⟩]:=rfl;have hPs:=sK nm v;have hPl:=uF nm v;have hT:cW nm v=iy nm v (dG v.b):=rfl;have hch:=uG v.b (dG v.b);have hsl:=sM (chunks v.b (dG v.b));have hcl:=ie v.b (dG v.b);have hsl2:=iP (chunks v.b (dG v.b));rw[hcl] at hsl2 hsl;rw[hT] at hY2;generalize dG v.b=cn at*
  generalize chunks v.b cn=cks at*
  have hE1:di (kyV nm v)= .agg [.int .i64 2,.str nm,.str v.o,.sl 1 [.int .i64 v.id] .any]:=rfl;have hE2:∀k:Nat,di (kyC nm v k)= .agg [.int .i64 3,.str nm,.str v.o,.sl 1 [.int .i64 v.id,.int .i64 k] .any]:=λ_=>rfl;rw[hE1] at c4;simp only[hE2] at c6;unfold ez at c3;unfold cz at hat;generalize dB (kyV nm v)=k1 at*
  generalize cR v.sz v.re v.im v.g v.u=hh at*
  repeat (first
   |refine aw.nil ?_
   |((first|apply Wp.aH|apply Wp.cA|((first
     |(refine aw.bO ?_ ?_ (c3) ?_;(· simp only[go_sem,reduceIte,Nat.reduceEqDiff,Nat.reduceAdd,bx]);(· simp only[go_sem,reduceIte,Nat.reduceEqDiff,Nat.reduceAdd,bx,List.map,ax,Of,Od,Nat.reduceMul,Nat.reduceLeDiff,g1,g2,g3,len,hat,Int.toNat_natCast];first|exact aA.refl _|(repeat (first|exact aA.nil|refine aA.cons xA5 ?_))))
     |(refine aw.bO ?_ ?_ (c4) ?_;(· simp only[go_sem,reduceIte,Nat.reduceEqDiff,Nat.reduceAdd,bx]);(· simp only[go_sem,reduceIte,Nat.reduceEqDiff,Nat.reduceAdd,bx,List.map,ax,Of,Od,Nat.reduceMul,Nat.reduceLeDiff,g1,g2,g3,len,hat,Int.toNat_natCast];exact aA.cons (ay.agg (aA.cons (ay.refl _) (aA.cons (ay.refl _) (aA.cons (ay.refl _) (aA.cons ay.cap aA.nil))))) (aA.refl _)))
     |(refine aw.bO ?_ ?_ (c5) ?_;(· simp only[go_sem,reduceIte,Nat.reduceEqDiff,Nat.reduceAdd,bx]);(· simp only[go_sem,reduceIte,Nat.reduceEqDiff,Nat.reduceAdd,bx,List.map,ax,Of,Od,Nat.reduceMul,Nat.reduceLeDiff,g1,g2,g3,len,hat,Int.toNat_natCast];first|exact aA.refl _|(repeat (first|exact aA.nil|refine aA.cons xA5 ?_)))));apply aw.evF));(· simp only[go_sem,reduceIte,Nat.reduceEqDiff,Nat.reduceAdd,bx,ax,Of,Od,Nat.reduceMul,Nat.reduceLeDiff,g1,g2,g3,len,hat,Int.toNat_natCast];exact rfl))
   |(apply Wp.cy;(· simp only[go_sem,reduceIte,Nat.reduceEqDiff,Nat.reduceAdd,bx,ax,Of,Od,Nat.reduceMul,Nat.reduceLeDiff,g1,g2,g3,len,hat,Int.toNat_natCast];exact rfl);(· rfl))
   |refine Wp.skip ?_
   |refine Wp.label ?_
   |refine Wp.block ?_
   |refine Wp.exit ?_
   |refine Wp.seq ?_)
  refine Wp.le (aM.tok _ _) ?_;refine Wp.le (s':=⟨tm [(0,.yld id),(1,.ref [.str nm,.int .i64 st,.sl 8 (vss l) .any]),(30,.sl 8 (vss l) .any),(31,.int .i64 l.length),(32,.int .i64 j),(6,.ptr h.n 0),(9,.sl 3 (chs (iy nm v 0)) (.own h.m)),(59,.sl 1 (ku cks) .any),(60,.int .i64 cn),(61,.int .i64 0)],
   ⟨upd h.objs h.n (some (.cells [.str v.o,.int .i64 v.id,.int .i64 v.sz,.int .i64 v.re,.int .i64 v.im,.bool v.g,.bool v.u,.str v.b])),h.n+1,h.m::h.toks,h.m+1⟩⟩) (aM.of (aY ?_) Gd (λa ha=>ha) (N4 _) (N4 _)) ?_
  ·rw[hP0];simp only[aQ,go_sem,reduceIte,Nat.reduceEqDiff,Nat.reduceAdd,bx,hsl2];and_intros<;>first|exact trivial|exact ay.refl _|exact ay.any _|exact ay.dt rfl|(refine ay.int ?_;omega)
  refine Wp.cO [0,1,30,31,32,6,59,60] xA7 (λb:Nat × Nat × Nat=>[(9,.sl 3 (chs (iy nm v b.1)) (.own b.2.1)),(61,.int .i64 (b.1:Nat))])
   (λb=>⟨upd h.objs h.n (some (.cells [.str v.o,.int .i64 v.id,.int .i64 v.sz,.int .i64 v.re,.int .i64 v.im,.bool v.g,.bool v.u,.str v.b])),h.n+1,b.2.1::h.toks,b.2.2⟩)
   (λb=>b.1<=cn/\h.m<=b.2.1/\b.2.1<b.2.2) (λb=>cn - b.1) (0,h.m,h.m+1) ⟨Ot _,N4 _,by simp⟩ rfl ?_ ?_
  ·exact xSb
  rintro ⟨k,t2,m2⟩ ⟨hk,hm1,hm2⟩;simp only at hk hm1 hm2;by_cases hck:k<cn
  ·obtain ⟨kg,k2,k3,ke,e8,e9⟩:=xM hck (OI h16 aq);have c7:=c6 k (OI hk (OI h16 aq));have hx:=hsl k .any hck;rw[hch k hck] at hx;have hPk:=hPs k;have hlk:=hPl k;have hfl:List.filter (λx=> !decide (x=t2)) h.toks=h.toks:=by
    have:=filter_lt hz2 hm1;simpa using this
   generalize chs (iy nm v k)=row at*
   generalize dB (kyC nm v k)=kk at*
   generalize chunk v.b k=ck at*
   repeat (first
    |refine aw.nil ?_
    |((first|apply Wp.aH|apply Wp.cA|((first
      |(refine aw.bO ?_ ?_ (c7) ?_;(· simp only[go_sem,reduceIte,Nat.reduceEqDiff,Nat.reduceAdd,bx]);(· simp only[go_sem,reduceIte,Nat.reduceEqDiff,Nat.reduceAdd,bx,List.map,ax,Of,Od,Nat.reduceMul,Nat.reduceLeDiff,kg,k2,k3,hsl2,hx,hlk,e8,e9,O4,Po,List.length_cons,List.length_nil,Oo,OA,O2,Ol,Int.toNat_natCast];exact aA.cons (ay.agg (aA.cons (ay.refl _) (aA.cons (ay.refl _) (aA.cons (ay.refl _) (aA.cons ay.cap aA.nil))))) (aA.refl _))));apply aw.evF));(· simp only[go_sem,reduceIte,Nat.reduceEqDiff,Nat.reduceAdd,bx,ax,Of,Od,Nat.reduceMul,Nat.reduceLeDiff,kg,k2,k3,hsl2,hx,hlk,e8,e9,O4,Po,List.length_cons,List.length_nil,Oo,OA,O2,Ol,Int.toNat_natCast];exact rfl))
    |(apply Wp.cy;(· simp only[go_sem,reduceIte,Nat.reduceEqDiff,Nat.reduceAdd,bx,ax,Of,Od,Nat.reduceMul,Nat.reduceLeDiff,kg,k2,k3,hsl2,hx,hlk,e8,e9,O4,Po,List.length_cons,List.length_nil,Oo,OA,O2,Ol,Int.toNat_natCast];exact rfl);(· rfl))
    |refine Wp.skip ?_
    |refine Wp.label ?_
    |refine Wp.block ?_
    |refine Wp.exit ?_
    |refine Wp.seq ?_)
   refine ⟨(k+1,m2,m2+1),⟨hck,OI hm1 (Nat.le_of_lt hm2),OL _⟩,PB hck (OL _),?_⟩;rw[hPk];refine aM.of (aY ?_) (OLe.bZ _) (λa ha=>?_) (N4 _) (N4 _)
   ·exact cM ke
   ·simpa [hfl] using ha
  ·have hk2:k=cn:=by omega
   subst hk2;have kg:=fX k;refine Wp.le (s':=⟨tm [(0,.yld id),(1,.ref [.str nm,.int .i64 st,.sl 8 (vss l) .any]),(30,.sl 8 (vss l) .any),(31,.int .i64 l.length),(32,.int .i64 j),(9,.sl 3 (chs (iy nm v k)) (.own t2)),(60,.int .i64 k),(61,.int .i64 k)],
    ⟨h.objs,h.n+1,t2::h.toks,m2⟩⟩) (aM.of (aY ?_) (OLe.skip (hz1 _ (N4 _))) (λa ha=>ha) (N4 _) (N4 _)) ?_
   ·exact xSb
   have hY3:=hY2 {h with n:=h.n+1,m:=h.m} t2 m2 (hup _ _ _ _ hI (Nat.le_succ _) (N4 _)) hm1 hm2;refine rf0 kg ?_;refine aw.yield af (by simp only[go_sem,reduceIte,Nat.reduceEqDiff]) xA4 hY3 λr h1 hq hn hm=>?_;rcases hq with ⟨rfl,hi1⟩|⟨rfl,hE1⟩
   case inr=>
    refine aw.evF xAc ?_;refine rf0 @OB ?_;refine Wp.ret ⟨trivial,_,rfl,?_,.inr hE1⟩;simp only[go_sem]
   refine aw.evF xAc ?_;refine rf0 @Oy ?_;refine ⟨(j+1,h1),⟨hc,hi1⟩,PB hc (OL _),?_⟩;refine aM.tm ?_;exact cM e1
 ·have hj2:j=l.length:=by omega
  subst hj2;have g1:=fX l.length;refine rf0 g1 ?_;refine ⟨trivial,_,rfl,?_,.inl hI⟩;simp only[go_sem]
def rdX(b:List UInt8)(p:Nat)(e:Int):Av.Obj:= .cells [.bool true,.sl 1 (aD b) .any,.int .i64 p,.int .i64 e]
theorem IL(b:List UInt8)(p:Nat)(e:Int)(id:Nat)(f:Nat->Option Av.Obj)(n m:Nat)(K:List Nat)(ho:f id=some (rdX b p e)):
  fE Tryz.prog 223 [.ptr id 0] ⟨f,n,K,m⟩ λr h'=>r= .bool (decide (e=0))/\h'=⟨f,n,K,m⟩:=by
 refine f223.iF ah ?_;unfold Mv zz;unfold rdX at ho;refine rf0 ho ?_;refine Wp.ret ⟨trivial,_,rfl,?_,rfl⟩;simp only[go_sem,reduceIte,Nat.reduceEqDiff]
theorem M9(b:List UInt8)(p:Nat)(e:Int)(id:Nat)(f:Nat->Option Av.Obj)(n m:Nat)(K:List Nat)(ho:f id=some (rdX b p e)):
  fE Tryz.prog 204 [.ptr id 0] ⟨f,n,K,m⟩ λr h'=>r= .int .i64 e/\h'=⟨f,n,K,m⟩:=by
 refine f204.iF ah ?_;unfold Mp zz;unfold rdX at ho;refine rf0 ho ?_;refine Wp.ret ⟨trivial,_,rfl,?_,rfl⟩;simp only[go_sem,reduceIte,Nat.reduceEqDiff]
def kB(b:List UInt8)(p w:Nat):List UInt8:=(b.drop p).take w
theorem Gv(b:List UInt8)(hb:b.length<=140737488355328)(p:Nat)(hp:p<=b.length)(e:Int)(w:Nat)(hw:w<=4)(id:Nat)(f:Nat->Option Av.Obj)(n m:Nat)(K:List Nat)(ho:f id=some (rdX b p e)):
  fE Tryz.prog 224 [.ptr id 0,.int .i64 p,.int .i64 w] ⟨f,n,K,m⟩ λr h'=>r= .tup [.int .u64 (if p+w<=b.length then (val (kB b p w):Nat) else 0),.bool (decide (p+w<=b.length))]/\h'=⟨f,n,K,m⟩:=by
 refine f224.iF ah ?_;unfold Mw zz;unfold rdX at ho;have lb:=bm b;have g1:IntKind.i64.wrap ((b.length:Int) - (p:Int))=((b.length - p:Nat):Int):=by rw[IntWalk.i64_in _ ae];omega
 by_cases hc:p+w<=b.length
 ·have g2:decide (((b.length - p:Nat):Int)<(w:Int))=false:=N6 ae;have g3:IntKind.i64.wrap ((p:Int)+(w:Int))=((p+w:Nat):Int):=by rw[IntWalk.i64_in _ ae];omega
  have x1:(0:Int)<=(p:Int):=by omega
  have x2:(p:Int)<=((p+w:Nat):Int):=by omega
  have x3:((p+w:Nat):Int)<=(b.length:Int):=by omega
  have x4:(0:Int)<=((p+w:Nat):Int):=by omega
  rw[Oi hc,N9 hc];have lp:((aD b).take (p+w)).drop p=aD (kB b p w):=by
   unfold kB;simp only[aD,<-List.map_take,<-List.map_drop];rw[List.drop_take];congr 2;omega
  have lc:(kB b p w).length=w:=by unfold kB;simp;omega
  have lbc:=bm (kB b p w);have hv:∀j,j<=w->val ((kB b p w).take j)<256^j:=λj hj=>by
   have:=eW ((kB b p w).take j)
   rwa [OV,lc,P4 hj] at this
  generalize kB b p w=s at*
  refine rf0 (bf ho lb g1 g2 g3 x1 x2 x3 x4 @ite_self.{1} lp (cj4 lbc lc @N7 @Ol)) ?_;refine Wp.cO [28,29] xA7 (λj:Nat=>[(8,.int .u64 (val (s.take j))),(30,.int .i64 j)]) (λj=>⟨f,n,K,m⟩) (λj=>j<=w) (λj=>w - j) 0 (Ot _) rfl ?_ ?_
  ·exact cM @O9.{0}
  rintro j hj;by_cases hlt:j<w
  ·have d1:decide ((j:Int)<(w:Int))=true:=N9 ae;have h1:(0:Int)<=(j:Int):=by omega
   have h2:(j:Int)<(w:Int):=by omega
   have h2':(j:Int)<(s.length:Int):=by omega
   have h3:j<s.length:=by omega
   have hvj:=hv j hj;have hpw:(256:Nat)^j<=256^3:=Px ae ae;have e7:(256:Nat)^3=16777216:=by decide
   rw[e7] at hpw;have hc:=(s.getD j 0).toNat_lt;have hat:=jg s j .any h3;unfold byte at hat;have hs:=oL s j h3;have o1:=sS (val (s.take j)) _ ae hc;generalize val (s.take j)=v at*
   have e1:IntKind.u64.wrap ((v:Int)*2^(min (Int.toNat 8) 64))=((v*256:Nat):Int):=by
    rw[show min (Int.toNat 8) 64=8 from rfl,IntWalk.u64_in _ ae];omega
   have e2:¬(8:Int)<0:=by omega
   generalize (s.getD j 0).toNat=c at*
   have e3:IntKind.u64.wrap (c:Int)=(c:Int):=IntWalk.u64_in _ ae;have e5:IntKind.i64.wrap ((j:Int)+1)=((j+1:Nat):Int):=by rw[IntWalk.i64_in _ ae];omega
   refine rf0 (bf d1 h1 h2 h2' lbc lc hat wY e1 e2 e3 (cj3 o1 @N7 @Ol)) ?_;refine ⟨j+1,ae,ae,?_⟩;rw[hs];refine aM.of (aY ?_) (OLe.bZ _) (λa ha=>ha) (N4 _) (N4 _);exact cM e5
  ·obtain rfl:j=w:=by omega
   have d1:decide ((j:Int)<(j:Int))=false:=N6 ae;have hPt:s.take j=s:=O8 ae;rw[hPt];refine rf0 d1 ?_;refine Wp.ret ⟨trivial,_,rfl,?_,rfl⟩;simp only[go_sem,reduceIte,Nat.reduceEqDiff]
 ·have g2:decide (((b.length - p:Nat):Int)<(w:Int))=true:=N9 ae;rw[Ob hc,N6 hc];refine rf0 (cj4 ho lb g1 g2) ?_;refine Wp.ret ⟨trivial,_,rfl,?_,rfl⟩;simp only[go_sem,reduceIte,Nat.reduceEqDiff]
def jS(b:List UInt8)(p:Nat)(e:Int)(w:Nat):Int:=if e=0/\p+w<=b.length then ((val (kB b p w):Nat):Int) else 0
def bK(b:List UInt8)(p:Nat)(e:Int)(w:Nat):Nat:=if e=0/\p+w<=b.length then p+w else p
def bH(b:List UInt8)(p:Nat)(e:Int)(w:Nat):Int:=if e=0 then (if p+w<=b.length then 0 else 3) else e
theorem KP{f:Nat->Option Av.Obj}{id:Nat}{o:Av.Obj}(h:f id=some o):upd f id (some o)=f:=by
 funext j;simp only[upd];split
 ·rename_i e;rw[e,h]
 ·rfl
theorem Gw(v:Nat):aI Tryz.prog 203 [.int .u64 v] (.int .i64 (IntKind.i64.wrap (v:Int))):=by
 refine f203.aF ah rfl rfl ?_;unfold Mo zz;refine dI ?_;refine aG ?_;exact ay.refl _
theorem Aw(b:List UInt8)(hb:b.length<=140737488355328)(p:Nat)(hp:p<=b.length)(e:Int)(w:Nat)(hw:w<=4)(id:Nat)(f:Nat->Option Av.Obj)(n m:Nat)(K:List Nat)(ho:f id=some (rdX b p e)):
  fE Tryz.prog 202 [.ptr id 0,.int .i64 w,.clo (.func 203) [] []] ⟨f,n,K,m⟩ λr h'=>r= .int .i64 (jS b p e w)/\h'=⟨upd f id (some (rdX b (bK b p e w) (bH b p e w))),n,K,m⟩:=by
 refine f202.iF ah ?_;unfold Mn zz;have hr:=IL b p e id f n m K ho;have hn:=Gv b hb p hp e w hw id f n m K ho;by_cases he:e=0
 ·have de:decide (e=0)=true:=N9 he;rw[de] at hr;refine dI ?_;refine aw.cI af xA4 hr λr h' hq _ _=>?_;obtain ⟨rfl,rfl⟩:=hq;have ho2:=ho;unfold rdX at ho2;refine aw.evF xAc ?_;refine rf0 (cj2 ho2 @Oy) ?_;refine aw.cI af xA4 hn λr h' hq _ _=>?_;obtain ⟨rfl,rfl⟩:=hq;by_cases hc:p+w<=b.length
  ·have hv:jS b p e w=((val (kB b p w):Nat):Int):=by unfold jS;rw[Oi ⟨he,hc⟩]
   have hpx:bK b p e w=p+w:=by unfold bK;rw[Oi ⟨he,hc⟩]
   have hex:bH b p e w=0:=by unfold bH;rw[Oi he,Oi hc]
   rw[hv,hpx,hex,Oi hc,N9 hc];have g3:IntKind.i64.wrap ((p:Int)+(w:Int))=((p+w:Nat):Int):=by rw[IntWalk.i64_in _ ae];omega
   have hvl:val (kB b p w)<4294967296:=by
    have h1:=eW (kB b p w);have h2:(256:Nat)^(kB b p w).length<=256^4:=Px ae (by unfold kB;simp;omega);have e4:(256:Nat)^4=4294967296:=by decide
    omega
   have cp:=Gw (val (kB b p w));rw[IntWalk.i64_in _ ae] at cp;generalize val (kB b p w)=v at*
   refine aw.evF xAc ?_;refine aw.nil ?_;refine rn0 (cj3 ho2 g3 @Oy) ?_;refine az.u0 (by simp only[go_sem,reduceIte,Nat.reduceEqDiff]) av Tryz.func203 rfl (Ox (by kernel_rfl)) xA4 cp ?_;refine az.eval xA1 ?_;refine az.nil ⟨by trivial,?_⟩;refine Wp.ret ⟨trivial,_,rfl,?_,?_⟩
   ·simp only[go_sem,reduceIte,Nat.reduceEqDiff]
   ·unfold rdX;rw[he]
  ·have hv:jS b p e w=0:=by unfold jS;rw[Ob (λh=>hc h.2)]
   have hpx:bK b p e w=p:=by unfold bK;rw[Ob (λh=>hc h.2)]
   have hex:bH b p e w=3:=by unfold bH;rw[Oi he,Ob hc]
   rw[hv,hpx,hex,Ob hc,N6 hc];refine aw.evF xAc ?_;refine rf0 (cj2 ho2 @OB) ?_;refine Wp.ret ⟨trivial,_,rfl,?_,rfl⟩;simp only[go_sem,reduceIte,Nat.reduceEqDiff]
 ·have de:decide (e=0)=false:=N6 he;rw[de] at hr;have hv:jS b p e w=0:=by unfold jS;rw[Ob (λh=>he h.1)]
  have hpx:bK b p e w=p:=by unfold bK;rw[Ob (λh=>he h.1)]
  have hex:bH b p e w=e:=by unfold bH;rw[Ob he]
  rw[hv,hpx,hex];refine dI ?_;refine aw.cI af xA4 hr λr h' hq _ _=>?_;obtain ⟨rfl,rfl⟩:=hq;refine aw.evF xAc ?_;refine rf0 @OB ?_;refine Wp.ret ⟨trivial,_,rfl,?_,?_⟩
  ·simp only[go_sem,reduceIte,Nat.reduceEqDiff]
  ·rw[KP ho]
theorem NY(b:List UInt8)(hb:b.length<=140737488355328)(p:Nat)(hp:p<=b.length)(e:Int)(id:Nat)(f:Nat->Option Av.Obj)(n m:Nat)(K:List Nat)(ho:f id=some (rdX b p e)):
  fE Tryz.prog 159 [.ptr id 0] ⟨f,n,K,m⟩ λr h'=>r= .int .i64 (jS b p e 1)/\h'=⟨upd f id (some (rdX b (bK b p e 1) (bH b p e 1))),n,K,m⟩:=by
 refine f159.iF ah ?_;unfold L6 zz;have hc:=Aw b hb p hp e 1 aq id f n m K ho;have hw:((1:Nat):Int)=1:=rfl;rw[hw] at hc;refine dI ?_;refine aw.cI af xA4 hc λr h' hq _ _=>?_;obtain ⟨rfl,rfl⟩:=hq;refine aw.evF xAc ?_;refine aw.nil ?_;refine Wp.ret ⟨trivial,_,rfl,?_,rfl⟩;simp only[go_sem,reduceIte,Nat.reduceEqDiff]
theorem Na(b:List UInt8)(hb:b.length<=140737488355328)(p:Nat)(hp:p<=b.length)(e:Int)(id:Nat)(f:Nat->Option Av.Obj)(n m:Nat)(K:List Nat)(ho:f id=some (rdX b p e)):
  fE Tryz.prog 160 [.ptr id 0] ⟨f,n,K,m⟩ λr h'=>r= .int .i64 (jS b p e 2)/\h'=⟨upd f id (some (rdX b (bK b p e 2) (bH b p e 2))),n,K,m⟩:=by
 refine f160.iF ah ?_;unfold L7 zz;have hc:=Aw b hb p hp e 2 aq id f n m K ho;have hw:((2:Nat):Int)=2:=rfl;rw[hw] at hc;refine dI ?_;refine aw.cI af xA4 hc λr h' hq _ _=>?_;obtain ⟨rfl,rfl⟩:=hq;refine aw.evF xAc ?_;refine aw.nil ?_;refine Wp.ret ⟨trivial,_,rfl,?_,rfl⟩;simp only[go_sem,reduceIte,Nat.reduceEqDiff]
theorem JW(b:List UInt8)(hb:b.length<=140737488355328)(p:Nat)(hp:p<=b.length)(e:Int)(id:Nat)(f:Nat->Option Av.Obj)(n m:Nat)(K:List Nat)(ho:f id=some (rdX b p e)):
  fE Tryz.prog 161 [.ptr id 0] ⟨f,n,K,m⟩ λr h'=>r= .int .i64 (jS b p e 4)/\h'=⟨upd f id (some (rdX b (bK b p e 4) (bH b p e 4))),n,K,m⟩:=by
 refine f161.iF ah ?_;unfold L8 zz;have hc:=Aw b hb p hp e 4 aq id f n m K ho;have hw:((4:Nat):Int)=4:=rfl;rw[hw] at hc;refine dI ?_;refine aw.cI af xA4 hc λr h' hq _ _=>?_;obtain ⟨rfl,rfl⟩:=hq;refine aw.evF xAc ?_;refine aw.nil ?_;refine Wp.ret ⟨trivial,_,rfl,?_,rfl⟩;simp only[go_sem,reduceIte,Nat.reduceEqDiff]
def pP(b:List UInt8)(p:Nat)(e:Int):Int:=if e=0 then (if p<b.length then 5 else 0) else e
theorem Nb(b:List UInt8)(hb:b.length<=140737488355328)(p:Nat)(hp:p<=b.length)(e:Int)(id:Nat)(f:Nat->Option Av.Obj)(n m:Nat)(K:List Nat)(ho:f id=some (rdX b p e)):
  fE Tryz.prog 162 [.ptr id 0] ⟨f,n,K,m⟩ λr h'=>r= .int .i64 (pP b p e)/\h'=⟨f,n,K,m⟩:=by
 refine f162.iF ah ?_;unfold L9 pP zz;have hc:=M9 b p e id f n m K ho;have lb:=bm b;unfold rdX at ho;refine dI ?_;refine aw.cI af xA4 hc λr h' hq _ _=>?_;obtain ⟨rfl,rfl⟩:=hq;refine aw.evF xAc ?_;refine aw.nil ?_;by_cases he:e=0
 ·have de:decide (e=0)=true:=N9 he;rw[Oi he];by_cases hl:p<b.length
  ·have d1:decide ((p:Int)<(b.length:Int))=true:=N9 ae;rw[Oi hl];refine rn0 (cj4 ho de lb d1) ?_;refine Wp.ret ⟨trivial,_,rfl,?_,rfl⟩;simp only[go_sem,reduceIte,Nat.reduceEqDiff]
  ·have d1:decide ((p:Int)<(b.length:Int))=false:=N6 ae;rw[Ob hl];refine rn0 (cj4 ho de lb d1) ?_;refine Wp.ret ⟨trivial,_,rfl,?_,rfl⟩;simp only[go_sem,reduceIte,Nat.reduceEqDiff]
 ·have de:decide (e=0)=false:=N6 he;rw[Ob he];refine rn0 (cj2 ho de) ?_;refine Wp.ret ⟨trivial,_,rfl,?_,rfl⟩;simp only[go_sem,reduceIte,Nat.reduceEqDiff]
theorem ye(b:List UInt8)(hb:b.length<=140737488355328)(f:Nat->Option Av.Obj)(n m:Nat)(K:List Nat)(hf:f n=none):
  fE Tryz.prog 158 [.sl 1 (aD b) .any] ⟨f,n,K,m⟩ λr h'=>r= .ptr n 0/\h'=⟨upd f n (some (rdX b 0 0)),n+1,K,m⟩:=by
 refine f158.iF ah ?_;unfold L5 rdX zz;have cc:aI Tryz.prog 201 [.sl 1 (aD b) .any] (.sl 1 (aD b) .any):=Db f201 _ (nG b) (by rw[bm];omega) (by rw[bm];omega);refine rn1 hf cc ?_;refine Wp.ret ⟨trivial,_,rfl,?_,rfl⟩;simp only[go_sem,reduceIte,Nat.reduceEqDiff]
theorem qY{b:List UInt8}{p:Nat}{e:Int}{w:Nat}(h:p<=b.length):bK b p e w<=b.length:=by
 unfold bK;split
 ·rename_i h;exact h.2
 ·exact h
theorem jK{b:List UInt8}{p w:Nat}(h:p+w<=b.length):bK b p 0 w=p+w/\bH b p 0 w=0/\jS b p 0 w=((val (kB b p w):Nat):Int):=by
 refine ⟨?_,?_,?_⟩
 ·unfold bK;rw[Oi ⟨rfl,h⟩]
 ·unfold bH;rw[Oi rfl,Oi h]
 ·unfold jS;rw[Oi ⟨rfl,h⟩]
theorem oZ{b:List UInt8}{p w:Nat}(h:¬p+w<=b.length):bH b p 0 w=3:=by
 unfold bH;rw[Oi rfl,Ob h]
theorem kC{b:List UInt8}{p w:Nat}{e:Int}(h:e≠0):bH b p e w=e:=by
 unfold bH;rw[Ob h]
def yf(s:List UInt8):Int:=
 let p1:=bK s 0 0 1;let e1:=bH s 0 0 1
 let p2:=bK s p1 e1 2;let e2:=bH s p1 e1 2
 let p3:=bK s p2 e2 4;let e3:=bH s p2 e2 4
 pP s (bK s p3 e3 4) (bH s p3 e3 4)
theorem Gx{s:List UInt8}(h:s.length≠11):yf s≠0:=by
 unfold yf;simp only;by_cases h1:0+1<=s.length
 ·obtain ⟨a1,a2,-⟩:=jK h1;rw[a1,a2];by_cases h2:0+1+2<=s.length
  ·obtain ⟨a1,a2,-⟩:=jK h2;rw[a1,a2];by_cases h3:0+1+2+4<=s.length
   ·obtain ⟨a1,a2,-⟩:=jK h3;rw[a1,a2];by_cases h4:0+1+2+4+4<=s.length
    ·obtain ⟨a1,a2,-⟩:=jK h4;rw[a1,a2];unfold pP;rw[Oi rfl,Oi ae];decide
    ·rw[oZ h4];unfold pP;rw[Ob aq];decide
   ·rw[oZ h3,kC aq];unfold pP;rw[Ob aq];decide
  ·rw[oZ h2,kC aq,kC aq];unfold pP;rw[Ob aq];decide
 ·rw[oZ h1,kC aq,kC aq,kC aq];unfold pP;rw[Ob aq];decide
def qZ:AC:=tlA (tlA (tlA (tlA vp)))
theorem Gy:vp= .seq (hdA vp) (.seq (hdA (tlA vp)) (.seq (hdA (tlA (tlA vp))) (.seq (hdA (tlA (tlA (tlA vp)))) qZ))):=rfl
def zHd:Av.Obj:= .cells [.int .i64 0,.int .i64 0,.int .i64 0,.bool false,.bool false]
def Ax(s:List UInt8)(P:Nat)(E:Int)(h:Hd):Bool:=decide (pP s P E=0)&&(decide (mn h.sz h.re h.im h.g=0)&&decide (cR h.sz h.re h.im h.g h.u=s))
def QH(s:List UInt8)(P:Nat)(E:Int)(h:Hd):aO->St->Prop:=λe s'=>jf e/\∃q,je [.cell 2 (some 5),.tmp 3] s'.t s'.h=some q/\ay q (.tup [ni (if Ax s P E h=true then h else D1),.int .i64 (if Ax s P E h=true then 0 else 4)])
theorem D2(s:List UInt8)(hs:s.length<=140737488355328)(P:Nat)(hP:P<=s.length)(E:Int)(h:Hd)(m:Nat):
  Wp Tryz.prog 46 qZ ⟨tm [(0,.str s),(2,.ptr 0 0),(4,.ptr 1 0),(6,.ptr 2 0)],⟨upd (upd (upd aB 0 (some zHd)) 1 (some (rdX s P E))) 2 (some (.cells [.int .i64 h.sz,.int .i64 h.re,.int .i64 h.im,.bool h.g,.bool h.u])),3,[],m⟩⟩ (QH s P E h):=by
 obtain ⟨a,b,c,g,u⟩:=h;have ch:=qS a b c g u;unfold QH Ax;simp only;unfold qZ vp zHd zz;simp only[tlA];have ce:=λf n m K ho=>Nb s hs P hP E 1 f n m K ho;unfold ez at ch;unfold ni ez D1;have n10:¬(1=0):=by decide
 refine dI ?_;refine aw.cI af xA4 (ce _ _ _ _ (by simp only[upd,reduceIte,Nat.reduceEqDiff])) λr h' hq _ _=>?_;obtain ⟨rfl,rfl⟩:=hq;refine aw.evF xAc ?_;refine aw.nil ?_;cases d1:decide (pP s P E=0) with
 |false=>
  rw[Pv,Ob ah,Ob ah];refine rf0 d1 ?_;refine aG ?_;exact ay.refl _
 |true=>
  rw[OM];cases d2:decide (mn a b c g=0) with
  |false=>
   rw[Pv,Ob ah,Ob ah];refine rf1 (cj2 d1 d2) ch ?_;refine aG ?_;exact ay.refl _
  |true=>
   rw[OM];cases d3:decide (cR a b c g u=s) with
   |false=>
    rw[Ob ah,Ob ah];refine rf1 (cj3 d1 d2 d3) ch ?_;refine aG ?_;exact ay.refl _
   |true=>
    rw[Oi rfl,Oi rfl];refine rf1 (cj3 d1 d2 d3) ch ?_;refine aG ?_;exact ay.refl _
theorem NZ:∀c,c<256->(!decide (nZ .i64 ((c:Nat):Int) 1=0))=decide (c%2=1):=by decide
theorem N0:∀c,c<256->(!decide (nZ .i64 ((c:Nat):Int) 2=0))=decide (c/2%2=1):=by decide
theorem val_one(c:UInt8):val [c]=c.toNat:=by simp[Batch.val]
theorem IM{s:List UInt8}(h:s.length=11):jS s 0 0 1=(((s.getD 0 0).toNat:Nat):Int)/\jS s (bK s 0 0 1) (bH s 0 0 1) 2=(hdC s).sz
  /\jS s (bK s (bK s 0 0 1) (bH s 0 0 1) 2) (bH s (bK s 0 0 1) (bH s 0 0 1) 2) 4=(hdC s).re
  /\jS s (bK s (bK s (bK s 0 0 1) (bH s 0 0 1) 2) (bH s (bK s 0 0 1) (bH s 0 0 1) 2) 4) (bH s (bK s (bK s 0 0 1) (bH s 0 0 1) 2) (bH s (bK s 0 0 1) (bH s 0 0 1) 2) 4) 4=(hdC s).im
  /\yf s=0:=by
 obtain ⟨a1,a2,a3⟩:=jK (b:=s) (p:=0) (w:=1) ae;obtain ⟨b1,b2,b3⟩:=jK (b:=s) (p:=0+1) (w:=2) ae;obtain ⟨c1,c2,c3⟩:=jK (b:=s) (p:=0+1+2) (w:=4) ae;obtain ⟨d1,d2,d3⟩:=jK (b:=s) (p:=0+1+2+4) (w:=4) ae;have hend:yf s=pP s (bK s (bK s (bK s (bK s 0 0 1) (bH s 0 0 1) 2) (bH s (bK s 0 0 1) (bH s 0 0 1) 2) 4) (bH s (bK s (bK s 0 0 1) (bH s 0 0 1) 2) (bH s (bK s 0 0 1) (bH s 0 0 1) 2) 4) 4) (bH s (bK s (bK s (bK s 0 0 1) (bH s 0 0 1) 2) (bH s (bK s 0 0 1) (bH s 0 0 1) 2) 4) (bH s (bK s (bK s 0 0 1) (bH s 0 0 1) 2) (bH s (bK s 0 0 1) (bH s 0 0 1) 2) 4) 4):=rfl;rw[hend,a1,a2,b1,b2,c1,c2,d1,d2,a3,b3,c3,d3];refine ⟨?_,rfl,rfl,rfl,?_⟩
 ·have:kB s 0 1=[s.getD 0 0]:=by
   unfold kB;rw[Pw];match s,h with
   |a::r,_=>rfl
  rw[this,val_one]
 ·unfold pP;rw[Oi rfl,Ob ae]
theorem IP{s:List UInt8}(h:s.length=11){P:Nat}{E:Int}(he:pP s P E=0):Ax s P E (hdC s)=hdB s:=by
 unfold Ax hdB;rw[N9 he,N9 h,OM,OM];unfold mn cR;cases cX (hdC s).sz (hdC s).re (hdC s).im (hdC s).g<;>rfl
theorem sV(s:List UInt8)(hs:s.length<=140737488355328):aI Tryz.prog 112 [.str s] (.tup [ni (hdO s),.int .i64 (hdE s)]):=by
 refine f112.aF ah rfl rfl ?_;have hO:hdO s=if hdB s then hdC s else D1:=rfl
 have hE:hdE s=if hdB s then 0 else 4:=rfl
 have HR:=D2 s hs;rw[Gy];generalize qZ=R at*
 unfold vp zz;simp only[hdA,tlA];have c0:=ye s hs;have n10:¬(1=0):=by decide
 have n01:¬(0=1):=by decide
 refine dI ?_;refine aw.cI af (by simp only[go_sem,reduceIte,Nat.reduceEqDiff,List.map];exact aA.cons ay.cap aA.nil) (c0 _ _ _ _ (by simp only[upd,aB];rfl)) λr h' hq _ _=>?_;obtain ⟨rfl,rfl⟩:=hq;refine aw.evF (xAd (cj2 n10 @n01)) ?_;refine aw.nil ?_;refine dI ?_;refine aw.cI af xA4 (NY s hs 0 (Ot _) 0 1 _ _ _ _ (by simp only[upd,reduceIte])) λr h' hq _ _=>?_;obtain ⟨rfl,rfl⟩:=hq;refine aw.evF (xAd (cj2 n10 @n01)) ?_;refine aw.nil ?_;have p1:bK s 0 0 1<=s.length:=qY (Ot _);have p2:bK s (bK s 0 0 1) (bH s 0 0 1) 2<=s.length:=qY p1;have p3:bK s (bK s (bK s 0 0 1) (bH s 0 0 1) 2) (bH s (bK s 0 0 1) (bH s 0 0 1) 2) 4<=s.length:=qY p2;have p4:bK s (bK s (bK s (bK s 0 0 1) (bH s 0 0 1) 2) (bH s (bK s 0 0 1) (bH s 0 0 1) 2) 4) (bH s (bK s (bK s 0 0 1) (bH s 0 0 1) 2) (bH s (bK s 0 0 1) (bH s 0 0 1) 2) 4) 4<=s.length:=qY p3;refine dI ?_;refine aw.cI af xA4 (Na s hs _ p1 (bH s 0 0 1) 1 _ _ _ _ (by simp only[upd,reduceIte])) λr h' hq _ _=>?_;obtain ⟨rfl,rfl⟩:=hq;refine aw.evF (xAd (cj2 n10 @n01)) ?_;refine aw.cI af xA4 (JW s hs _ p2 (bH s (bK s 0 0 1) (bH s 0 0 1) 2) 1 _ _ _ _ (by simp only[upd,reduceIte])) λr h' hq _ _=>?_;obtain ⟨rfl,rfl⟩:=hq;refine aw.evF (xAd (cj2 n10 @n01)) ?_;refine aw.cI af xA4 (JW s hs _ p3 (bH s (bK s (bK s 0 0 1) (bH s 0 0 1) 2) (bH s (bK s 0 0 1) (bH s 0 0 1) 2) 4) 1 _ _ _ _ (by simp only[upd,reduceIte])) λr h' hq _ _=>?_;obtain ⟨rfl,rfl⟩:=hq;refine aw.evF (xAd (cj2 n10 @n01)) ?_;refine aw.nil ?_;show Wp Tryz.prog 46 R _ _;by_cases h11:s.length=11
 ·obtain ⟨v0,v1,v2,v3,v4⟩:=IM h11;have hc:=(s.getD 0 0).toNat_lt;have g1:=NZ _ hc;have g2:=N0 _ hc;have hsm:=IP h11 v4;have W:=HR _ p4 (bH s (bK s (bK s (bK s 0 0 1) (bH s 0 0 1) 2) (bH s (bK s 0 0 1) (bH s 0 0 1) 2) 4) (bH s (bK s (bK s 0 0 1) (bH s 0 0 1) 2) (bH s (bK s 0 0 1) (bH s 0 0 1) 2) 4) 4) (hdC s);unfold QH at W;rw[hsm,<-hO,<-hE] at W;have e1:decide ((s.getD 0 0).toNat%2=1)=(hdC s).g:=rfl;have e2:decide ((s.getD 0 0).toNat/2%2=1)=(hdC s).u:=rfl;rw[v1,v2,v3,v0,g1,g2,e1,e2];refine Wp.le ?_ (W 1);refine aM.of (aY ?_) (λa u hu=>⟨u,?_,cm.refl _⟩) (λx hx=>by simp at hx) (N4 _) (N4 _)
  ·exact xSb
  ·simp only[upd,aB,zHd] at hu |-;by_cases a2:a=2
   ·subst a2;simpa using hu
   ·by_cases a1:a=1
    ·subst a1;simpa using hu
    ·by_cases a0:a=0
     ·subst a0;simpa using hu
     ·simp[a2,a1,a0] at hu
 ·have hne:hdB s=false:=by unfold hdB;rw[N6 h11];rfl
  have hen:=Gx h11;have W:=λh=>HR _ p4 (bH s (bK s (bK s (bK s 0 0 1) (bH s 0 0 1) 2) (bH s (bK s 0 0 1) (bH s 0 0 1) 2) 4) (bH s (bK s (bK s 0 0 1) (bH s 0 0 1) 2) (bH s (bK s 0 0 1) (bH s 0 0 1) 2) 4) 4) h;have hno:∀h,Ax s (bK s (bK s (bK s (bK s 0 0 1) (bH s 0 0 1) 2) (bH s (bK s 0 0 1) (bH s 0 0 1) 2) 4) (bH s (bK s (bK s 0 0 1) (bH s 0 0 1) 2) (bH s (bK s 0 0 1) (bH s 0 0 1) 2) 4) 4) (bH s (bK s (bK s (bK s 0 0 1) (bH s 0 0 1) 2) (bH s (bK s 0 0 1) (bH s 0 0 1) 2) 4) (bH s (bK s (bK s 0 0 1) (bH s 0 0 1) 2) (bH s (bK s 0 0 1) (bH s 0 0 1) 2) 4) 4) h=false:=λh=>by
   unfold Ax;show (decide (yf s=0)&&_)=false;rw[N6 hen];rfl
  unfold QH at W;simp only[hno] at W;rw[hO,hE,hne];refine Wp.le ?_ (W ⟨jS s (bK s 0 0 1) (bH s 0 0 1) 2,jS s (bK s (bK s 0 0 1) (bH s 0 0 1) 2) (bH s (bK s 0 0 1) (bH s 0 0 1) 2) 4,jS s (bK s (bK s (bK s 0 0 1) (bH s 0 0 1) 2) (bH s (bK s 0 0 1) (bH s 0 0 1) 2) 4) (bH s (bK s (bK s 0 0 1) (bH s 0 0 1) 2) (bH s (bK s 0 0 1) (bH s 0 0 1) 2) 4) 4,!decide (nZ IntKind.i64 (jS s 0 0 1) 1=0),!decide (nZ IntKind.i64 (jS s 0 0 1) 2=0)⟩ 1);refine aM.of (aY ?_) (λa u hu=>⟨u,?_,cm.refl _⟩) (λx hx=>by simp at hx) (N4 _) (N4 _)
  ·exact xSb
  ·simp only[upd,aB,zHd] at hu |-;by_cases a2:a=2
   ·subst a2;simpa using hu
   ·by_cases a1:a=1
    ·subst a1;simpa using hu
    ·by_cases a0:a=0
     ·subst a0;simpa using hu
     ·simp[a2,a1,a0] at hu
def mv(l:List Pr)(nm o:List UInt8)(id:Int):Nat->Nat->List UInt8->List UInt8
 |0,_,s=>s
 |n+1,k,s=>if pA l (dB ⟨3,nm,o,[id,k]⟩)=0 then mv l nm o id n (k+1) (s++sk l (dB ⟨3,nm,o,[id,k]⟩)) else s
def o5(l:List Pr)(nm o:List UInt8)(id:Int):List UInt8:=mv l nm o id 16 0 []
theorem IQ{l:List Pr}{B:Nat}(h:∀p∈l,p.v.length<=B)(k:List UInt8):(sk l k).length<=B:=by
 unfold sk;cases hf:l.find? (mW k) with
 |none=>simp
 |some p=>exact h p (List.mem_of_find?_eq_some hf)
theorem KQ(l:List Pr)(hl:l.length<=1000000)(hv:∀p∈l,p.v.length<=140737488355328)(nm:List UInt8)(v:Vs)(hid:v.id<9223372036854775808):aI Tryz.prog 68 [.sl 2 (prs l) .any,.str nm,cz v] (.str (o5 l nm v.o v.id)):=by
 refine f68.aF (by simp[cz]) (by simp[aJ,aW,bA,dX,z7]) rfl ?_;unfold c68 zz;have cg:=λk=>M0 l ae k;have ck:∀k:Nat,k<=16->aI Tryz.prog 98 [.int .i64 3,.str nm,.str v.o,.sl 1 [.int .i64 v.id,.int .i64 k] .any] (.str (dB ⟨3,nm,v.o,[v.id,k]⟩)):=λk hk=>by
  refine vQ ⟨3,nm,v.o,[v.id,k]⟩ ⟨by simp,λn hn=>?_⟩;simp only[OA,List.not_mem_nil,or_false] at hn;rcases hn with rfl|rfl
  ·exact hid
  ·omega
 have hE:cz v= .agg [.str v.o,.int .i64 v.id,.int .i64 v.sz,.int .i64 v.re,.int .i64 v.im,.bool v.g,.bool v.u,.str v.b]:=rfl;rw[hE];obtain ⟨oo,id,sz,re,im,g,u,b⟩:=v;simp only at*
 have hB:o5 l nm oo id=mv l nm oo id 16 0 []:=rfl;refine dI ?_;refine Wp.cO [0,1,5] xA7 (λj:Nat × List UInt8=>[(7,.str j.2),(8,.int .i64 (j.1:Nat))]) (λj=>⟨upd aB 0 (some (.cells [.str oo,.int .i64 id,.int .i64 sz,.int .i64 re,.int .i64 im,.bool g,.bool u,.str b])),1,[],0⟩) (λj=>j.1<=16/\j.2.length<=j.1*140737488355328/\o5 l nm oo id=mv l nm oo id (16 - j.1) j.1 j.2) (λj=>16 - j.1) (0,[]) ⟨ae,by simp,hB⟩ rfl ?_ ?_
 ·exact xSb
 rintro ⟨j,s⟩ ⟨hj,hsl,hinv⟩;simp only at hj hsl hinv;by_cases hc:j<16
 ·have g1:decide ((j:Int)<16)=true:=N9 ae;have e1:IntKind.i64.wrap ((j:Int)+1)=((j+1:Nat):Int):=by rw[IntWalk.i64_in _ ae];omega
  have hs:16 - j=(16 - (j+1))+1:=by omega
  rw[hs] at hinv;have c1:=ck j ae;have hgl:=IQ hv (dB ⟨3,nm,oo,[id,j]⟩);have c2:=cg (dB ⟨3,nm,oo,[id,j]⟩);have hG:mv l nm oo id (16 - (j+1)+1) j s=if pA l (dB ⟨3,nm,oo,[id,j]⟩)=0 then mv l nm oo id (16 - (j+1)) (j+1) (s++sk l (dB ⟨3,nm,oo,[id,j]⟩)) else s:=rfl
  rw[hG] at hinv;generalize dB ⟨3,nm,oo,[id,j]⟩=kk at*
  by_cases hg:pA l kk=0
  ·have dg:decide (((pA l kk:Nat):Int)=0)=true:=N9 ae;rw[Oi hg] at hinv;refine rf2 g1 c1 c2 ?_;have hadd:s.length+(sk l kk).length<9223372036854775808:=by omega
   refine rf0 (cj2 dg hadd) ?_;refine ⟨(j+1,s++sk l kk),⟨by simp only;omega,by simp only[Og];omega,hinv⟩,by simp only;omega,?_⟩;refine aM.of (aY ?_) (OLe.bZ _) (λa ha=>ha) (N4 _) (N4 _);exact cM e1
  ·have dg:decide (((pA l kk:Nat):Int)=0)=false:=N6 ae;rw[Ob hg] at hinv;rw[hinv];refine rf2 g1 c1 c2 ?_;refine rf0 dg ?_;refine aG ?_;exact ay.refl _
 ·have hj2:j=16:=by omega
  subst hj2;have g1:decide (((16:Nat):Int)<16)=false:=by decide
  have hG:mv l nm oo id (16 - 16) 16 s=s:=rfl;rw[hinv,hG];refine rf0 g1 ?_;refine aG ?_;exact ay.refl _
theorem BW:∀(s x:List UInt8),(∀b∈s,b≠0)->rdT (s++0::1::x)=some (s,s.length+2)
 |[],x,_=>by simp[rdT]
 |a::s,x,h=>by
  rw[List.cons_append,vX _ _ (h a ah),BW s x (λb hb=>h b (by simp[hb]))];simp
theorem D3(m:UInt8)(l:List UInt8):bD m (bD m l)=l:=by
 unfold bD;rw[Qr]
 conv=>rhs;rw[<-List.map_id l]
 refine Pb λx _=>?_;simp[Function.comp,UInt8.xor_assoc]
theorem IS(l:List UInt8):lH (lH l)=l:=by
 cases l with
 |nil=>rfl
 |cons a r=>
  show ((a ^^^ 128) ^^^ 128)::r=a::r;rw[UInt8.xor_assoc];simp
theorem iR:∀(w v:Nat),val (be w v)=v%256^w
 |0,v=>by simp[be,Batch.val,Nat.mod_one]
 |w+1,v=>by
  have e:be (w+1) v=UInt8.ofNat (v/256^w)::be w v:=rfl;rw[e,kz,iR w v,aS,Nat.pow_succ,Nat.mod_mul];have:(UInt8.ofNat (v/256^w)).toNat=v/256^w%256:=by simp
  rw[this,Nat.mul_comm,Nat.add_comm]
theorem Gz(m:UInt8)(n:Nat)(h:n<9223372036854775808):rdN m (bD m (upB n))=n:=by
 unfold rdN;rw[D3];have e:upB n=lH (be 8 n):=(FX n h).symm;rw[e,IS];unfold i64;have e8:(256:Nat)^8=18446744073709551616:=by decide
 rw[iR,e8,O7 ae];exact IntWalk.i64_in _ ae
theorem KR{p:Pt}(hp:p.ok)(x:List UInt8):rdP (ptB p++x)=some (p,(ptB p).length):=by
 obtain ⟨pk,pn,ps⟩:=p;rcases hp.k with hk|hk|hk
 ·simp only at hk;subst hk;obtain ⟨hn,hz,hl⟩:=hp.t rfl;simp only at hn hz hl;subst hn;have hB:ptB ⟨1,0,ps⟩=2::(ps++[0,1]):=rfl;have hA:ptB ⟨1,0,ps⟩++x=2::(ps++0::1::x):=by rw[hB];simp
  rw[hA,hB];have:rdP (2::(ps++0::1::x))=(rdT (ps++0::1::x)).map λx=>(⟨1,0,x.1⟩,x.2+1):=by simp[rdP]
  rw[this,BW _ _ hz];simp
 ·simp only at hk;subst hk;obtain ⟨hs,h0,h1⟩:=hp.u ah;simp only at hs h0 h1;subst hs;have hB:ptB ⟨2,pn,[]⟩=3::bD 0 (upB pn.toNat):=rfl;have hl:(bD 0 (upB pn.toNat)).length=8:=by rw[cJ];simp[upB,aS]
  rw[hB,List.cons_append];have ht:(bD 0 (upB pn.toNat)++x).take 8=bD 0 (upB pn.toNat):=by rw[Qy ae,O8 ae]
  have:rdP (3::(bD 0 (upB pn.toNat)++x))=some (⟨2,rdN 0 ((bD 0 (upB pn.toNat)++x).take 8),[]⟩,9):=by
   have hn:¬(bD 0 (upB pn.toNat)++x).length<8:=by rw[Og];omega
   simp only[rdP];rw[Ob aq,Oi trivial,Ob hn]
  rw[this,ht,Gz 0 pn.toNat ae,List.length_cons,hl];congr 2;congr 1;omega
 ·simp only at hk;subst hk;obtain ⟨hs,h0,h1⟩:=hp.u ah;simp only at hs h0 h1;subst hs;have hB:ptB ⟨3,pn,[]⟩=4::bD 255 (upB pn.toNat):=rfl;have hl:(bD 255 (upB pn.toNat)).length=8:=by rw[cJ];simp[upB,aS]
  rw[hB,List.cons_append];have ht:(bD 255 (upB pn.toNat)++x).take 8=bD 255 (upB pn.toNat):=by rw[Qy ae,O8 ae]
  have:rdP (4::(bD 255 (upB pn.toNat)++x))=some (⟨3,rdN 255 ((bD 255 (upB pn.toNat)++x).take 8),[]⟩,9):=by
   have hn:¬(bD 255 (upB pn.toNat)++x).length<8:=by rw[Og];omega
   simp only[rdP];rw[Ob aq,Ob aq,Oi trivial,Ob hn]
  rw[this,ht,Gz 255 pn.toNat ae,List.length_cons,hl];congr 2;congr 1;omega
theorem BX:∀(l:List Pt),(∀p∈l,p.ok)->oX (cY l)=some l
 |[],_=>rfl
 |p::l,h=>by
  have hB:cY (p::l)=ptB p++cY l:=rfl;have hne:cY (p::l)≠[]:=by rw[hB];intro h;exact Ag p (List.append_eq_nil_iff.1 h).1
  rw[kv hne,hB,KR (h p ah)];simp only[List.drop_left];rw[BX l (λq hq=>h q (by simp[hq]))];rfl
theorem yg{k:Int}(h:1<=k/\k<=6):kA [du k]=k:=by
 obtain ⟨h1,h2⟩:=h;obtain rfl|rfl|rfl|rfl|rfl|rfl:k=1\/k=2\/k=3\/k=4\/k=5\/k=6:=by omega
 all_goals decide
theorem yh(k:Int)(ns:List Int):(ns.map (bY k)).map Pt.n=ns:=by
 rw[Qr]
 conv=>rhs;rw[<-List.map_id ns]
 exact Pb λx _=>rfl
def JX(k:Int)(b:List UInt8)(r:List Pt):Ky:=if k≠1/\r≠[] then ⟨k,b,(r.getD 0 default).s,(r.drop 1).map Pt.n⟩ else ⟨k,b,[],r.map Pt.n⟩
theorem GA{k:Ky}(h:k.ok):gG (eX k)=k:=by
 have hC:gG (eX k)=JX (kA [du k.k]) k.b ((if k.o=[] then [] else [txt k.o])++k.ns.map (bY k.k)):=rfl;rw[hC,yg h.k];obtain ⟨kk,b,o,ns⟩:=k;simp only at*
 unfold JX;by_cases hk1:kk=1
 ·have ho:=h.e hk1;simp only at ho;subst ho;rw[Ob (λx=>x.1 hk1),Oi rfl,List.nil_append,yh]
 ·have ho:=eL (h.o hk1);simp only at ho;have ho0:o≠[]:=by rintro rfl;simp at ho
  rw[Ob ho0];rw[Oi ⟨hk1,by simp⟩];have e:([txt o]++ns.map (bY kk)).drop 1=ns.map (bY kk):=rfl;rw[e,yh];rfl
theorem eU{k:Ky}(h:k.ok):cF (cU k)=true/\bc (cU k)=k:=by
 have hl:=oS h;have hd:=BX (eX k) (ji h);have hd2:oX (cU k)=some (eX k):=hd;have hO:iQ (cU k)=eX k:=by unfold iQ;rw[Ob ae,hd2];rfl
 have hE:jR (cU k)=0:=by unfold jR;rw[Ob ae,hd2];rfl
 have hc:=GA h;have hke:gr k=0:=by
  have ha:iJ k=true:=by
   unfold iJ;have a1:mo k.ns=true:=OK.2 λn hn=>N9 (h.r n hn).1;rw[a1,N9 h.n.symm];by_cases hk:k.k=1
   ·rw[h.e hk];simp
   ·simp[hk]
  unfold gr;rw[Oi ha,Oi h.b];by_cases hk:k.k=1
  ·rw[Oi hk]
  ·rw[Ob hk,h.o hk]
 have hks:dB k=cU k:=by unfold dB;rw[Oi hke]
 have hB:cF (cU k)=true:=by
  unfold cF iK;rw[hE,hO,hc,hke,hks];simp[eX]
 exact ⟨hB,by unfold bc;rw[Oi hB,hO,hc]⟩
theorem sW{s:List UInt8}(h:cF s=true):(bc s).ok/\cU (bc s)=s:=by
 have hO:bc s=gG (iQ s):=by unfold bc;rw[Oi h]
 unfold cF iK at h;simp only[Oh,Ov] at h;obtain ⟨h1,⟨h2,h3⟩,h4⟩:=h;obtain ⟨hin,hl⟩:=vZ s;have hok:=pI (sT hin hl) h3;rw[hO];refine ⟨hok,?_⟩;unfold dB at h4;rw[Oi h3] at h4;exact h4
theorem bM(c:UInt8)(a b:List UInt8):Op.bytesLess (c::a) (c::b)=Op.bytesLess a b:=by
 have:¬(c<c):=λh=>by have:=Qx.1 h;omega
 simp[Op.bytesLess,this]
theorem nW{c d:UInt8}(h:c.toNat<d.toNat)(a b:List UInt8):Op.bytesLess (c::a) (d::b)=true:=by
 have:c<d:=Qx.2 h;simp[Op.bytesLess,this]
theorem pQ:∀{s s':List UInt8}(x y:List UInt8),(∀b∈s,b≠0)->(∀b∈s',b≠0)->Op.bytesLess s s'=true->Op.bytesLess (s++0::1::x) (s'++0::1::y)=true
 |[],[],x,y,_,_,h=>by simp[Op.bytesLess] at h
 |[],b::s',x,y,_,h2,_=>by
  have hb:=h2 b ah;refine nW ?_ _ _;have:b.toNat≠0:=λe=>hb (QZ.1 (by simpa using e));simp;omega
 |a::s,[],x,y,_,_,h=>by simp[Op.bytesLess] at h
 |a::s,b::s',x,y,h1,h2,h=>by
  simp only[Op.bytesLess,OZ,Oh,Ov,Qi] at h;simp only[List.cons_append,Op.bytesLess,OZ,Oh,Ov,Qi];rcases h with h|⟨h,h'⟩
  ·exact .inl h
  ·exact .inr ⟨h,pQ x y (λc hc=>h1 c (by simp[hc])) (λc hc=>h2 c (by simp[hc])) h'⟩
theorem o6(k:List UInt8):∀a b:List UInt8,Op.bytesLess (k++a) (k++b)=Op.bytesLess a b:=by
 induction k with
 |nil=>intro a b;rfl
 |cons c k ih=>intro a b;rw[List.cons_append,List.cons_append,bM,ih]
theorem uL:∀{a b:List UInt8},a.length=b.length->Op.bytesLess a b=true->Batch.val a<Batch.val b
 |[],[],_,h=>by simp[Op.bytesLess] at h
 |[],_::_,h,_=>by simp at h
 |_::_,[],h,_=>by simp at h
 |c::a,d::b,hl,h=>by
  simp only[List.length_cons,Nat.add_right_cancel_iff] at hl;rw[Arch.kz,Arch.kz,hl];simp only[Op.bytesLess,OZ,Oh,Ov,Qi] at h;rcases h with h|⟨h,h'⟩
  ·have h1:=Batch.eW a;have h2:c.toNat+1<=d.toNat:=Qx.1 h;rw[hl] at h1;have h3:=PD (256^b.length) h2;rw[Pz,Po] at h3;omega
  ·subst h;have:=uL hl h';omega
theorem yi{a b:List UInt8}(hl:a.length=b.length)(h:Batch.val a<Batch.val b):Op.bytesLess a b=true:=by
 rcases Batch.fg a b with h1|h1|h1
 ·exact h1
 ·subst h1;omega
 ·have:=uL hl.symm h1;omega
theorem IT{w a b:Nat}(h:a<b)(hb:b<256^w):Op.bytesLess (be w a) (be w b)=true:=
 yi (by simp[aS]) (by rw[iR,iR,O7 ae,O7 hb];exact h)
theorem GB(a:UInt8):(a ^^^ 255).toNat=255 - a.toNat:=by
 rw[UInt8.toNat_xor];have h:∀n:Fin 256,n.val ^^^ (255:UInt8).toNat=255 - n.val:=by decide
 exact h ⟨a.toNat,a.toNat_lt⟩
theorem D4(l:List UInt8):bD 0 l=l:=by simp[bD]
theorem uM:∀{a b:List UInt8},a.length=b.length->Op.bytesLess a b=true->Op.bytesLess (bD 255 b) (bD 255 a)=true
 |[],[],_,h=>by simp[Op.bytesLess] at h
 |[],_::_,h,_=>by simp at h
 |_::_,[],h,_=>by simp at h
 |c::a,d::b,hl,h=>by
  simp only[List.length_cons,Nat.add_right_cancel_iff] at hl;simp only[Op.bytesLess,OZ,Oh,Ov,Qi] at h;have e1:bD 255 (d::b)=(d ^^^ 255)::bD 255 b:=rfl;have e2:bD 255 (c::a)=(c ^^^ 255)::bD 255 a:=rfl;rw[e1,e2];rcases h with h|⟨h,h'⟩
  ·refine nW ?_ _ _;have h2:=Qx.1 h;have:=GB c;have:=GB d;have:=c.toNat_lt;have:=d.toNat_lt;omega
  ·subst h;rw[bM];exact uM hl h'
theorem BY{a b:Nat}(h:a<b)(hb:b<9223372036854775808):Op.bytesLess (upB a) (upB b)=true:=by
 have e:(256:Nat)^8=18446744073709551616:=by decide
 exact IT ae (by rw[e];omega)
theorem sX(x:Ky):cU x=2::du x.k::0::1::2::(x.b++0::1::cY ((if x.o=[] then [] else [txt x.o])++x.ns.map (bY x.k))):=by
 simp[cU,eX,cY,ptB,txt]
theorem wg{x:Ky}(h:x.o≠[]):cU x=2::du x.k::0::1::2::(x.b++0::1::2::(x.o++0::1::cY (x.ns.map (bY x.k)))):=by
 rw[sX,Ob h];simp[cY,ptB,txt]
theorem sY{x y:Ky}(h:(du x.k).toNat<(du y.k).toNat):Op.bytesLess (cU x) (cU y)=true:=by
 rw[sX,sX,bM];exact nW h _ _
theorem Nc{x:Ky}(h:x.ok):∀b∈x.b,b≠0:=λb hb=>by
 have:=(fx h.b).2.2 b hb;exact BO (n:=0) ae
theorem Nd{x:Ky}(h:x.ok)(hk:x.k≠1):∀b∈x.o,b≠0:=λb hb=>by
 have:=(eL (h.o hk)).2.2 b hb;exact BO (n:=0) ae
theorem IU{x:Ky}(h:x.ok)(hk:x.k≠1):x.o≠[]:=λe=>by
 have:=(eL (h.o hk)).1;rw[e] at this;simp at this
theorem yj{x y:Ky}(hx:x.ok)(hy:y.ok)(hk:x.k=y.k)(h:Op.bytesLess x.b y.b=true):Op.bytesLess (cU x) (cU y)=true:=by
 rw[sX,sX,hk,bM,bM,bM,bM,bM];exact pQ _ _ (Nc hx) (Nc hy) h
theorem IV{x y:Ky}(hx:x.ok)(hy:y.ok)(h1:x.k≠1)(hk:x.k=y.k)(hb:x.b=y.b)(h:Op.bytesLess x.o y.o=true):Op.bytesLess (cU x) (cU y)=true:=by
 rw[wg (IU hx h1),wg (IU hy (hk▸h1)),hk,hb,bM,bM,bM,bM,bM,o6,bM,bM,bM];exact pQ _ _ (Nd hx h1) (Nd hy (hk▸h1)) h
theorem BZ{x y:Ky}(hx:x.ok)(hy:y.ok)(h1:x.k≠1)(hk:x.k=y.k)(hb:x.b=y.b)(ho:x.o=y.o)(h:Op.bytesLess (cY (x.ns.map (bY x.k))) (cY (y.ns.map (bY y.k)))=true):Op.bytesLess (cU x) (cU y)=true:=by
 rw[wg (IU hx h1),wg (IU hy (hk▸h1)),hk,hb,ho,bM,bM,bM,bM,bM,o6,bM,bM,bM,o6,bM,bM];rw[hk] at h;exact h
theorem Nf{n:Int}(h:0<=n)(k:Int)(hk:k≠2):ptB (bY k n)=3::upB n.toNat:=by
 simp[bY,hk,ptB,D4]
theorem Ng{n:Int}(h:0<=n):ptB (bY 2 n)=4::bD 255 (upB n.toNat):=by
 simp[bY,ptB]
theorem IW(n:Nat):(upB n).length=8:=by simp[upB,aS]
theorem IX{n o:List UInt8}{i j:Int}(hx:(⟨2,n,o,[i]⟩:Ky).ok)(hy:(⟨2,n,o,[j]⟩:Ky).ok)(h:j<i):Op.bytesLess (cU ⟨2,n,o,[i]⟩) (cU ⟨2,n,o,[j]⟩)=true:=by
 have ri:=hx.r i ah;have rj:=hy.r j ah;refine BZ hx hy ah rfl rfl rfl ?_;simp only[OJ,OQ,cY,List.flatten_cons,List.flatten_nil,OR];rw[Ng ri.1,Ng rj.1,bM];exact uM (by simp[IW]) (BY ae ae)
theorem IY{n o:List UInt8}{i:Int}{a b:Nat}(hx:(⟨3,n,o,[i,a]⟩:Ky).ok)(hy:(⟨3,n,o,[i,b]⟩:Ky).ok)(h:a<b):Op.bytesLess (cU ⟨3,n,o,[i,a]⟩) (cU ⟨3,n,o,[i,b]⟩)=true:=by
 have ra:=hx.r a ah;have rb:=hy.r b ah;refine BZ hx hy ah rfl rfl rfl ?_;simp only[OJ,OQ,cY,List.flatten_cons,List.flatten_nil,OR];rw[o6,Nf ra.1 3 aq,Nf rb.1 3 aq,bM];exact BY ae ae
theorem kD:∀{a b:List Pr},(a.Pairwise λx y=>Op.bytesLess x.k y.k=true)->(b.Pairwise λx y=>Op.bytesLess x.k y.k=true)->(∀p,p∈a↔p∈b)->a=b
 |[],[],_,_,_=>rfl
 |[],y::b,_,_,h=>by have:=(h y).2 ah;simp at this
 |x::a,[],_,_,h=>by have:=(h x).1 ah;simp at this
 |x::a,y::b,ha,hb,h=>by
  have ha':=PA.1 ha;have hb':=PA.1 hb;have ir:∀{u:List UInt8},¬Op.bytesLess u u=true:=λ{u} e=>by rw[Batch.cq] at e;cases e
  have hxy:x=y:=by
   rcases OA.1 ((h x).1 ah) with e|hx
   ·exact e
   ·rcases OA.1 ((h y).2 ah) with e|hy
    ·exact e.symm
    ·exact absurd (mq (hb'.1 x hx) (ha'.1 y hy)) ir
  subst hxy;congr 1;refine kD ha'.2 hb'.2 λp=>⟨λhp=>?_,λhp=>?_⟩
  ·rcases OA.1 ((h p).1 (by simp[hp])) with e|h1
   ·subst e;exact absurd (ha'.1 p hp) ir
   ·exact h1
  ·rcases OA.1 ((h p).2 (by simp[hp])) with e|h1
   ·subst e;exact absurd (hb'.1 p hp) ir
   ·exact h1
theorem wh{α β:Type}{f:α->β}:∀{l:List α},(l.Pairwise λa b=>f a≠f b)->∀a∈l,∀b∈l,f a=f b->a=b
 |[],_,a,ha,_,_,_=>by cases ha
 |x::l,h,a,ha,b,hb,e=>by
  obtain ⟨h1,h2⟩:=PA.1 h;rcases OA.1 ha with ha1|ha1
  ·rcases OA.1 hb with hb1|hb1
   ·rw[ha1,hb1]
   ·exact absurd (ha1▸e) (h1 b hb1)
  ·rcases OA.1 hb with hb1|hb1
   ·exact absurd (hb1▸e.symm) (h1 a ha1)
   ·exact wh h2 a ha1 b hb1 e
section
variable{m:List Bk}(h:imB m=true)
include h
theorem Ay{b:Bk}(hb:b∈m):(kyB b).ok:=mr h _ (Pn.2 ⟨_,OC.2 ⟨b,hb,rfl⟩,by simp[vV]⟩)
theorem tD{b:Bk}(hb:b∈m){v:Vs}(hv:v∈b.l):(kyV b.n v).ok:=
 mr h _ (Pn.2 ⟨_,OC.2 ⟨b,hb,rfl⟩,OA.2 (.inr (Pn.2 ⟨_,OC.2 ⟨v,hv,rfl⟩,by simp[vU]⟩))⟩)
theorem wj{b:Bk}(hb:b∈m){v:Vs}(hv:v∈b.l){k:Nat}(hk:k<dG v.b):(kyC b.n v k).ok:=
 mr h _ (Pn.2 ⟨_,OC.2 ⟨b,hb,rfl⟩,OA.2 (.inr (Pn.2 ⟨_,OC.2 ⟨v,hv,rfl⟩,OA.2 (.inr (OC.2 ⟨k,O6.2 hk,rfl⟩))⟩))⟩)
theorem GC(p:Pr):p∈aZ m↔(∃b∈m,p=⟨cU (kyB b),stS b.st⟩)\/(∃b∈m,∃v∈b.l,p=⟨cU (kyV b.n v),jI v⟩)\/(∃b∈m,∃v∈b.l,∃k,k<dG v.b/\p=⟨cU (kyC b.n v k),chunk v.b k⟩):=by
 unfold aZ;rw[Pn];constructor
 ·rintro ⟨l,hl,hp⟩;obtain ⟨b,hb,rfl⟩:=OC.1 hl;unfold gD at hp;obtain ⟨c,hc,rfl⟩:=OC.1 hp;obtain ⟨r,hr,hc⟩:=Pn.1 hc;unfold cw at hr;rcases OA.1 hr with rfl|hr
  ·simp only[Oj] at hc;subst hc;exact .inl ⟨b,hb,by simp[dy,vM,ik (Ay h hb)]⟩
  ·obtain ⟨v,hv,rfl⟩:=OC.1 hr;unfold cW at hc;rcases OA.1 hc with rfl|hc
   ·exact .inr (.inl ⟨b,hb,v,hv,by simp[dy,chV,ik (tD h hb hv)]⟩)
   ·obtain ⟨k,hk,rfl⟩:=OC.1 hc;have hk:=O6.1 hk;exact .inr (.inr ⟨b,hb,v,hv,k,hk,by simp[dy,chC,ik (wj h hb hv hk)]⟩)
 ·rintro (⟨b,hb,rfl⟩|⟨b,hb,v,hv,rfl⟩|⟨b,hb,v,hv,k,hk,rfl⟩)
  ·refine ⟨gD b,OC.2 ⟨b,hb,rfl⟩,?_⟩;exact OC.2 ⟨vM b,Pn.2 ⟨[vM b],by simp[cw],by simp⟩,by simp[dy,vM,ik (Ay h hb)]⟩
  ·refine ⟨gD b,OC.2 ⟨b,hb,rfl⟩,?_⟩;exact OC.2 ⟨chV b.n v,Pn.2 ⟨cW b.n v,OA.2 (.inr (OC.2 ⟨v,hv,rfl⟩)),by simp[cW]⟩,by simp[dy,chV,ik (tD h hb hv)]⟩
  ·refine ⟨gD b,OC.2 ⟨b,hb,rfl⟩,?_⟩;exact OC.2 ⟨chC b.n v k,Pn.2 ⟨cW b.n v,OA.2 (.inr (OC.2 ⟨v,hv,rfl⟩)),OA.2 (.inr (OC.2 ⟨k,O6.2 hk,rfl⟩))⟩,by simp[dy,chC,ik (wj h hb hv hk)]⟩
theorem il(p:Pr):p∈aP (aZ m)↔(∃b∈m,p=⟨cU (kyB b),stS b.st⟩)\/(∃b∈m,∃v∈b.l,p=⟨cU (kyV b.n v),jI v⟩)\/(∃b∈m,∃v∈b.l,∃k,k<dG v.b/\p=⟨cU (kyC b.n v k),chunk v.b k⟩):=
 ((sP (gF h) (sR h)).2 p).trans (GC h p)
theorem sZ{a b:Bk}(ha:a∈m)(hb:b∈m)(e:a.n=b.n):a=b:=
 wh (f:=Bk.n) ((jj h).imp λhn=>jG hn) a ha b hb e
theorem B0{b:Bk}(hb:b∈m){u v:Vs}(hu:u∈b.l)(hv:v∈b.l)(e1:u.o=v.o)(e2:u.id=v.id):u=v:=
 wh (f:=λv:Vs=>(v.o,v.id)) ((qU (jJ h hb)).imp λhn e=>by
  simp only[Ow] at e;rcases next_ne hn with h1|h1
  ·exact h1 e.1
  ·exact h1 e.2) u hu v hv (by rw[e1,e2])
theorem pB{b:Bk}(hb:b∈m):bc (cU (kyB b))=kyB b:=(eU (Ay h hb)).2
theorem pV{b:Bk}(hb:b∈m){v:Vs}(hv:v∈b.l):bc (cU (kyV b.n v))=kyV b.n v:=(eU (tD h hb hv)).2
theorem pC{b:Bk}(hb:b∈m){v:Vs}(hv:v∈b.l){k:Nat}(hk:k<dG v.b):bc (cU (kyC b.n v k))=kyC b.n v k:=(eU (wj h hb hv hk)).2
end
theorem fo{m:List Bk}(q:Pr->Bool):((aP (aZ m)).filter q).Pairwise λx y=>Op.bytesLess x.k y.k=true:=(iz (aZ m)).sublist List.filter_sublist
def BP(m:List Bk):List Pr:=m.map λb=>⟨cU (kyB b),stS b.st⟩
def VP(b:Bk):List Pr:=b.l.map λv=>⟨cU (kyV b.n v),jI v⟩
def CP(n:List UInt8)(v:Vs):List Pr:=(List.range (dG v.b)).map λk=>⟨cU (kyC n v k),chunk v.b k⟩
def isK(k:Int)(p:Pr):Bool:=decide ((bc p.k).k=k)
def Nh(n:List UInt8)(p:Pr):Bool:=decide ((bc p.k).k=2)&&decide ((bc p.k).b=n)
def jk(n o:List UInt8)(id:Int)(p:Pr):Bool:=decide ((bc p.k).k=3)&&(decide ((bc p.k).b=n)&&(decide ((bc p.k).o=o)&&decide ((bc p.k).ns.getD 0 0=id)))
section
variable{m:List Bk}(h:imB m=true)
include h
theorem IZ:(BP m).Pairwise λx y=>Op.bytesLess x.k y.k=true:=by
 unfold BP;refine PX.2 (QX (λ{a b} ha hb hn=>?_) (jj h));exact yj (Ay h ha) (Ay h hb) rfl hn
theorem B1{b:Bk}(hb:b∈m):(VP b).Pairwise λx y=>Op.bytesLess x.k y.k=true:=by
 unfold VP;refine PX.2 (QX (λ{u v} hu hv hn=>?_) (qU (jJ h hb)));unfold Vs.next at hn;simp only[OZ,Oh,Ov] at hn;have ou:=tD h hb hu;have ov:=tD h hb hv;rcases hn with hn|⟨e,hn⟩
 ·exact IV ou ov (by simp[kyV]) rfl rfl hn
 ·obtain ⟨o,i⟩:=u;obtain ⟨o',j⟩:=v;simp only at e hn;subst e;exact IX ou ov hn
theorem I5{b:Bk}(hb:b∈m){v:Vs}(hv:v∈b.l):(CP b.n v).Pairwise λx y=>Op.bytesLess x.k y.k=true:=by
 unfold CP;refine PX.2 (QX (λ{x y} hx hy hn=>?_) List.pairwise_lt_range);exact IY (wj h hb hv (O6.1 hx)) (wj h hb hv (O6.1 hy)) hn
theorem I6:((m.map VP).flatten).Pairwise λx y=>Op.bytesLess x.k y.k=true:=by
 refine List.pairwise_flatten.2 ⟨λl hl=>?_,?_⟩
 ·obtain ⟨b,hb,rfl⟩:=OC.1 hl;exact B1 h hb
 ·refine PX.2 (QX (λ{a b} ha hb hn x hx y hy=>?_) (jj h));obtain ⟨u,hu,rfl⟩:=OC.1 hx;obtain ⟨v,hv,rfl⟩:=OC.1 hy;exact yj (tD h ha hu) (tD h hb hv) rfl hn
theorem JY:(aP (aZ m)).filter (isK 1)=BP m:=by
 refine kD (fo _) (IZ h) λp=>?_;rw[Pe,il h];unfold BP isK;rw[OC];constructor
 ·rintro ⟨⟨b,hb,rfl⟩|⟨b,hb,v,hv,rfl⟩|⟨b,hb,v,hv,k,hk,rfl⟩,hq⟩
  ·exact ⟨b,hb,rfl⟩
  ·simp only[pV h hb hv] at hq;simp[kyV] at hq
  ·simp only[pC h hb hv hk] at hq;simp[kyC] at hq
 ·rintro ⟨b,hb,rfl⟩;exact ⟨.inl ⟨b,hb,rfl⟩,by simp only[pB h hb];simp[kyB]⟩
theorem Ni{b:Bk}(hb:b∈m):(aP (aZ m)).filter (Nh b.n)=VP b:=by
 refine kD (fo _) (B1 h hb) λp=>?_;rw[Pe,il h];unfold VP Nh;rw[OC];constructor
 ·rintro ⟨⟨c,hc,rfl⟩|⟨c,hc,v,hv,rfl⟩|⟨c,hc,v,hv,k,hk,rfl⟩,hq⟩
  ·simp only[pB h hc] at hq;simp[kyB] at hq
  ·simp only[pV h hc hv] at hq;simp[kyV] at hq;obtain rfl:=sZ h hc hb (Ox hq);exact ⟨v,hv,rfl⟩
  ·simp only[pC h hc hv hk] at hq;simp[kyC] at hq
 ·rintro ⟨v,hv,rfl⟩;exact ⟨.inr (.inl ⟨b,hb,v,hv,rfl⟩),by simp only[pV h hb hv];simp[kyV]⟩
theorem JZ{b:Bk}(hb:b∈m){v:Vs}(hv:v∈b.l):(aP (aZ m)).filter (jk b.n v.o v.id)=CP b.n v:=by
 refine kD (fo _) (I5 h hb hv) λp=>?_;rw[Pe,il h];unfold CP jk;rw[OC];constructor
 ·rintro ⟨⟨c,hc,rfl⟩|⟨c,hc,u,hu,rfl⟩|⟨c,hc,u,hu,k,hk,rfl⟩,hq⟩
  ·simp only[pB h hc] at hq;simp[kyB] at hq
  ·simp only[pV h hc hu] at hq;simp[kyV] at hq
  ·simp only[pC h hc hu hk] at hq;simp[kyC] at hq;obtain ⟨e1,e2,e3⟩:=hq;obtain rfl:=sZ h hc hb (Ox e1);obtain rfl:=B0 h hc hu hv (Ox e2) e3;exact ⟨k,O6.2 hk,rfl⟩
 ·rintro ⟨k,hk,rfl⟩;have hk:=O6.1 hk;exact ⟨.inr (.inr ⟨b,hb,v,hv,k,hk,rfl⟩),by simp only[pC h hb hv hk];simp[kyC]⟩
theorem KS:(aP (aZ m)).filter (isK 2)=(m.map VP).flatten:=by
 refine kD (fo _) (I6 h) λp=>?_;rw[Pe,il h,Pn];unfold isK;constructor
 ·rintro ⟨⟨c,hc,rfl⟩|⟨c,hc,v,hv,rfl⟩|⟨c,hc,v,hv,k,hk,rfl⟩,hq⟩
  ·simp only[pB h hc] at hq;simp[kyB] at hq
  ·exact ⟨VP c,OC.2 ⟨c,hc,rfl⟩,OC.2 ⟨v,hv,rfl⟩⟩
  ·simp only[pC h hc hv hk] at hq;simp[kyC] at hq
 ·rintro ⟨l,hl,hp⟩;obtain ⟨b,hb,rfl⟩:=OC.1 hl;obtain ⟨v,hv,rfl⟩:=OC.1 hp;exact ⟨.inr (.inl ⟨b,hb,v,hv,rfl⟩),by simp only[pV h hb hv];simp[kyV]⟩
theorem D5:aP (aZ m)=(aP (aZ m)).filter (isK 1)++((aP (aZ m)).filter (isK 3)++(aP (aZ m)).filter (isK 2)):=by
 have kind:∀p∈aP (aZ m),∃x:Ky,p.k=cU x/\bc p.k=x/\(x.k=1\/x.k=2\/x.k=3):=λp hp=>by
  rcases (il h p).1 hp with ⟨b,hb,rfl⟩|⟨b,hb,v,hv,rfl⟩|⟨b,hb,v,hv,k,hk,rfl⟩
  ·exact ⟨_,rfl,pB h hb,.inl rfl⟩
  ·exact ⟨_,rfl,pV h hb hv,.inr (.inl rfl)⟩
  ·exact ⟨_,rfl,pC h hb hv hk,.inr (.inr rfl)⟩
 refine kD (iz _) (List.pairwise_append.2 ⟨fo _,List.pairwise_append.2 ⟨fo _,fo _,?_⟩,?_⟩) λp=>?_
 ·intro x hx y hy;obtain ⟨hx,kx⟩:=Pe.1 hx;obtain ⟨hy,ky⟩:=Pe.1 hy;obtain ⟨a,e1,e2,-⟩:=kind x hx;obtain ⟨b,f1,f2,-⟩:=kind y hy;unfold isK at kx ky;rw[e2] at kx;rw[f2] at ky;have k1:a.k=3:=by simpa using kx
  have k2:b.k=2:=by simpa using ky
  rw[e1,f1];exact sY (by rw[k1,k2];decide)
 ·intro x hx y hy;obtain ⟨hx,kx⟩:=Pe.1 hx;obtain ⟨a,e1,e2,-⟩:=kind x hx;unfold isK at kx;rw[e2] at kx;have k1:a.k=1:=by simpa using kx
  rcases OS.1 hy with hy|hy;all_goals
   obtain ⟨hy,ky⟩:=Pe.1 hy;obtain ⟨b,f1,f2,-⟩:=kind y hy;unfold isK at ky;rw[f2] at ky;rw[e1,f1]
  ·have k2:b.k=3:=by simpa using ky
   exact sY (by rw[k1,k2];decide)
  ·have k2:b.k=2:=by simpa using ky
   exact sY (by rw[k1,k2];decide)
 ·rw[OS,OS,Pe,Pe,Pe];constructor
  ·intro hp;obtain ⟨a,e1,e2,hk⟩:=kind p hp;unfold isK;rw[e2];rcases hk with hk|hk|hk
   ·exact .inl ⟨hp,by simp[hk]⟩
   ·exact .inr (.inr ⟨hp,by simp[hk]⟩)
   ·exact .inr (.inl ⟨hp,by simp[hk]⟩)
  ·rintro (hp|hp|hp);all_goals exact hp.1
end
theorem jL(s:List UInt8):∀n:Nat,((List.range n).map (chunk s)).flatten=s.take (160*n)
 |0=>by simp
 |n+1=>by
  rw[List.range_succ,Pl,PN,jL s n];simp only[OJ,OQ,List.flatten_cons,List.flatten_nil,OR,chunk];have e:s.take (min s.length (160*n+160))=s.take (160*n+160):=by
   by_cases h:s.length<=160*n+160
   ·rw[P4 h,O8 h,O8 (N4 _)]
   ·rw[Nat.min_eq_right ae]
  rw[e,show 160*(n+1)=160*n+160 by omega,List.drop_take,show 160*n+160 - 160*n=160 by omega,List.take_add]
theorem Az(s:List UInt8):((List.range (dG s)).map (chunk s)).flatten=s:=by
 rw[jL,O8 (by unfold dG;omega)]
theorem B2{v:Int}(h:oN v=true):stV (stS v)=v/\nV (stS v)=true:=by
 rcases oO v with (rfl|rfl|rfl)|⟨h2,-⟩
 ·exact ⟨by decide,by decide⟩
 ·exact ⟨by decide,by decide⟩
 ·exact ⟨by decide,by decide⟩
 ·rw[h] at h2;cases h2
theorem I7{sz re im:Int}{g:Bool}(h:cX sz re im g=true)(u:Bool):hdB (cR sz re im g u)=true/\hdO (cR sz re im g u)=⟨sz,re,im,g,u⟩:=by
 have h':=h;unfold cX gJ at h';simp only[Oh,Ov] at h';have hs:cR sz re im g u=dK sz.toNat re.toNat im.toNat g u:=by unfold cR;rw[Oi h]
 have hl:(dK sz.toNat re.toNat im.toNat g u).length=11:=dN _ _ _ _ _;have e2:(256:Nat)^2=65536:=by decide
 have e4:(256:Nat)^4=4294967296:=by decide
 have hc:hdC (dK sz.toNat re.toNat im.toNat g u)=⟨sz,re,im,g,u⟩:=by
  have f1:dK sz.toNat re.toNat im.toNat g u=UInt8.ofNat (flN g u)::(be 2 sz.toNat++be 4 re.toNat++be 4 im.toNat):=by
   have e1:be 1 (flN g u)=[UInt8.ofNat (flN g u)]:=by simp[be]
   unfold dK;rw[e1];simp
  have d1:((dK sz.toNat re.toNat im.toNat g u).drop 1).take 2=be 2 sz.toNat:=by
   rw[f1,Pd,Pw,OX,List.take_left' (aS _ _)]
  have d2:((dK sz.toNat re.toNat im.toNat g u).drop 3).take 4=be 4 re.toNat:=by
   rw[f1,Pd,OX,List.drop_left' (aS _ _),List.take_left' (aS _ _)]
  have d3:((dK sz.toNat re.toNat im.toNat g u).drop 7).take 4=be 4 im.toNat:=by
   rw[f1,Pd,List.drop_left' (by simp[aS]),O8 (by simp[aS])]
  have g0:(dK sz.toNat re.toNat im.toNat g u).getD 0 0=UInt8.ofNat (flN g u):=by rw[f1];rfl
  unfold hdC;rw[d1,d2,d3,g0,iR,iR,iR,e2,e4,O7 ae,O7 ae,O7 ae];have k1:((sz.toNat:Nat):Int)=sz:=by omega
  have k2:((re.toNat:Nat):Int)=re:=by omega
  have k3:((im.toNat:Nat):Int)=im:=by omega
  rw[k1,k2,k3];cases g<;>cases u<;>rfl
 have hb:hdB (dK sz.toNat re.toNat im.toNat g u)=true:=by
  unfold hdB;rw[hc,hl];simp only[h,OE,PG]
 rw[hs];refine ⟨hb,?_⟩;unfold hdO;rw[Oi hb,hc]
theorem AB{v:Vs}(h:v.okV=true):cX v.sz v.re v.im v.g=true:=by
 simp only[Vs.okV,Vs.fit,Vs.rh,Oh,Ov] at h;exact h.2.1.1
theorem GD{b:Bk}(h:gq b=true):oN b.st=true:=by
 unfold gq at h;simp only[Oh,Ov] at h;exact h.1.2
theorem ly{v:Vs}(h:v.okV=true):hdB (jI v)=true/\hdO (jI v)=⟨v.sz,v.re,v.im,v.g,v.u⟩:=I7 (AB h) v.u
structure Pc where
 b:List UInt8
 o:List UInt8
 id:Int
 s:List UInt8
 n:Int
def fY(b o:List UInt8)(id:Int)(p:Pc):Bool:=decide (b=p.b)&&(decide (o=p.o)&&(decide (id=p.id)&&true))
def qA(b o:List UInt8)(id:Int):List AV:=[.str b,.str o,.int .i64 id]
def wk(s:List UInt8)(n:Int):AV:= .agg [.str s,.int .i64 n]
def gH(q:List Pc):List (AV × AV):=q.map λp=>(.agg (qA p.b p.o p.id),wk p.s p.n)
def jT:List Pc->List UInt8->List UInt8->Int->Option (Nat × AV)
 |[],_,_,_=>none
 |p::q,b,o,id=>if fY b o id p then some (0,wk p.s p.n) else (jT q b o id).map λx=>(x.1+1,x.2)
def dv:List Pc->List UInt8->List UInt8->Int->List UInt8 × Int
 |[],_,_,_=>([],0)
 |p::q,b,o,id=>if fY b o id p then (p.s,p.n) else dv q b o id
def kE:List Pc->List UInt8->List UInt8->Int->List UInt8->Int->List Pc
 |[],b,o,id,s,n=>[⟨b,o,id,s,n⟩]
 |p::q,b,o,id,s,n=>if fY b o id p then ⟨b,o,id,s,n⟩::q else p::kE q b o id s n
def kF:List Pc->List UInt8->List UInt8->Int->List Pc
 |[],_,_,_=>[]
 |p::q,b,o,id=>if fY b o id p then q else p::kF q b o id
theorem AD(b o:List UInt8)(id:Int):∀q:List Pc,eV [.str,.str,.int] (qA b o id) (gH q)=some (jT q b o id)
 |[]=>by simp[gH,eV,jT,qA,bw,iX]
 |p::q=>by
  have ih:=AD b o id q;have e:bw [.str,.str,.int] (qA b o id) (qA p.b p.o p.id)=some (fY b o id p):=by simp[qA,bw,iX,fY]
  have hq:gH (p::q)=(.agg (qA p.b p.o p.id),wk p.s p.n)::gH q:=rfl;rw[hq];simp only[eV,e,jT];cases fY b o id p with
  |true=>rfl
  |false=>simp[ih]
theorem AE(b o:List UInt8)(id:Int):∀q:List Pc,dT (.agg [.str [],.int .i64 0]) false (jT q b o id)=wk (dv q b o id).1 (dv q b o id).2
 |[]=>rfl
 |p::q=>by
  have ih:=AE b o id q;simp only[jT,dv];cases fY b o id p with
  |true=>rfl
  |false=>
   simp only[Oq,Od];rw[<-ih];cases jT q b o id<;>rfl
theorem J0(b o:List UInt8)(id:Int)(s:List UInt8)(n:Int):∀q:List Pc,rB (gH q) (qA b o id) (wk s n) (jT q b o id)=gH (kE q b o id s n)
 |[]=>rfl
 |p::q=>by
  have ih:=J0 b o id s n q;have hq:gH (p::q)=(.agg (qA p.b p.o p.id),wk p.s p.n)::gH q:=rfl;rw[hq];simp only[jT,kE];cases fY b o id p with
  |true=>rfl
  |false=>
   simp only[Oq,Od];have hr:gH (p::kE q b o id s n)=(.agg (qA p.b p.o p.id),wk p.s p.n)::gH (kE q b o id s n):=rfl;rw[hr,<-ih];cases jT q b o id<;>rfl
theorem J1(b o:List UInt8)(id:Int):∀q:List Pc,rA (gH q) (jT q b o id)=gH (kF q b o id)
 |[]=>rfl
 |p::q=>by
  have ih:=J1 b o id q;have hq:gH (p::q)=(.agg (qA p.b p.o p.id),wk p.s p.n)::gH q:=rfl;rw[hq];simp only[jT,kF];cases fY b o id p with
  |true=>rfl
  |false=>
   simp only[Oq,Od];have hr:gH (p::kF q b o id)=(.agg (qA p.b p.o p.id),wk p.s p.n)::gH (kF q b o id):=rfl;rw[hr,<-ih];cases jT q b o id<;>rfl
theorem GF(q:List Pc):(gH q).length=q.length:=PF _
theorem eP{b o:List UInt8}{id:Int}{p:Pc}:fY b o id p=true↔b=p.b/\o=p.o/\id=p.id:=by
 simp[fY]
theorem yk(b o:List UInt8)(id:Int)(s:List UInt8)(n:Int)(b' o':List UInt8)(id':Int):∀q:List Pc,dv (kE q b o id s n) b' o' id'=if b'=b/\o'=o/\id'=id then (s,n) else dv q b' o' id'
 |[]=>by
  simp only[kE,dv];by_cases h:b'=b/\o'=o/\id'=id
  ·rw[Oi h,Oi (eP.2 h)]
  ·rw[Ob h,Ob (λe=>h (eP.1 e))]
 |p::q=>by
  have ih:=yk b o id s n b' o' id' q;simp only[kE];by_cases hp:fY b o id p=true
  ·rw[Oi hp];obtain ⟨e1,e2,e3⟩:=eP.1 hp;simp only[dv];by_cases h:b'=b/\o'=o/\id'=id
   ·rw[Oi h,Oi (eP.2 h)]
   ·rw[Ob h,Ob (λe=>h (eP.1 e)),Ob (λe=>h (by obtain ⟨x,y,z⟩:=eP.1 e;exact ⟨x.trans e1.symm,y.trans e2.symm,z.trans e3.symm⟩))]
  ·rw[Ob hp];simp only[dv];by_cases h2:fY b' o' id' p=true
   ·rw[Oi h2,Oi h2,Ob];rintro ⟨rfl,rfl,rfl⟩;exact hp h2
   ·rw[Ob h2,Ob h2,ih]
def lz(q:List Pc):Prop:=q.Pairwise λx y=>¬(x.b=y.b/\x.o=y.o/\x.id=y.id)
theorem o7{b o:List UInt8}{id:Int}{s:List UInt8}{n:Int}{x:Pc}:∀{q:List Pc},x∈kE q b o id s n->x=⟨b,o,id,s,n⟩\/x∈q
 |[],h=>by simp[kE] at h;exact .inl h
 |p::q,h=>by
  simp only[kE] at h;split at h
  ·rcases OA.1 h with h|h
   ·exact .inl h
   ·exact .inr (by simp[h])
  ·rcases OA.1 h with h|h
   ·exact .inr (by simp[h])
   ·rcases o7 h with h|h
    ·exact .inl h
    ·exact .inr (by simp[h])
theorem o8{b o:List UInt8}{id:Int}{x:Pc}:∀{q:List Pc},x∈kF q b o id->x∈q
 |[],h=>by simp[kF] at h
 |p::q,h=>by
  simp only[kF] at h;split at h
  ·simp[h]
  ·rcases OA.1 h with h|h
   ·simp[h]
   ·have:=o8 h;simp[this]
theorem uN{b o:List UInt8}{id:Int}{s:List UInt8}{n:Int}:∀{q:List Pc},lz q->lz (kE q b o id s n)
 |[],h=>by simp[kE,lz]
 |p::q,h=>by
  obtain ⟨h1,h2⟩:=PA.1 h;simp only[kE];split
  ·rename_i hp;obtain ⟨e1,e2,e3⟩:=eP.1 hp;refine PA.2 ⟨λy hy=>?_,h2⟩;have:=h1 y hy;simp only;rw[e1,e2,e3];exact this
  ·rename_i hp;refine PA.2 ⟨λy hy=>?_,uN h2⟩;rcases o7 hy with rfl|hy
   ·simp only;rintro ⟨e1,e2,e3⟩;exact hp (eP.2 ⟨e1.symm,e2.symm,e3.symm⟩)
   ·exact h1 y hy
theorem pR{b o:List UInt8}{id:Int}:∀{q:List Pc},lz q->lz (kF q b o id)/\∀x∈kF q b o id,¬(x.b=b/\x.o=o/\x.id=id)
 |[],h=>by simp[kF,lz]
 |p::q,h=>by
  obtain ⟨h1,h2⟩:=PA.1 h;simp only[kF];split
  ·rename_i hp;obtain ⟨e1,e2,e3⟩:=eP.1 hp;refine ⟨h2,λx hx=>?_⟩;have:=h1 x hx;rintro ⟨f1,f2,f3⟩;exact this ⟨by rw[f1,e1],by rw[f2,e2],by rw[f3,e3]⟩
  ·rename_i hp;obtain ⟨i1,i2⟩:=pR (b:=b) (o:=o) (id:=id) h2;refine ⟨PA.2 ⟨λy hy=>h1 y (o8 hy),i1⟩,λx hx=>?_⟩;rcases OA.1 hx with rfl|hx
   ·rintro ⟨f1,f2,f3⟩;exact hp (eP.2 ⟨f1.symm,f2.symm,f3.symm⟩)
   ·exact i2 x hx
theorem ym{b o b' o':List UInt8}{id id':Int}(hn:¬(b'=b/\o'=o/\id'=id)):∀q:List Pc,dv (kF q b o id) b' o' id'=dv q b' o' id'
 |[]=>rfl
 |p::q=>by
  have ih:=ym hn q;simp only[kF];by_cases hp:fY b o id p=true
  ·rw[Oi hp];simp only[dv];rw[Ob];intro e;obtain ⟨e1,e2,e3⟩:=eP.1 hp;obtain ⟨f1,f2,f3⟩:=eP.1 e;exact hn ⟨by rw[f1,e1],by rw[f2,e2],by rw[f3,e3]⟩
  ·rw[Ob hp];simp only[dv];rw[ih]
def nq(ns:List (List UInt8))(nm:List UInt8):Nat->Nat->Nat->Nat
 |0,i,_=>i
 |f+1,i,j=>if i<j then (if Op.bytesLess (ns.getD ((i+j)/2) []) nm then nq ns nm f ((i+j)/2+1) j else nq ns nm f i ((i+j)/2)) else i
def lI(ns:List (List UInt8))(nm:List UInt8):Nat:=nq ns nm ns.length 0 ns.length
def gU(ns:List (List UInt8))(nm:List UInt8):Bool:=decide (lI ns nm<ns.length)&&decide (ns.getD (lI ns nm) []=nm)
theorem s7{ns:List (List UInt8)}(hs:ns.Pairwise λa b=>Op.bytesLess a b=true){z:Nat}(hz:z<ns.length):∀(f i j:Nat),j - i<=f->i<=z->z<=j->j<=ns.length->nq ns (ns.getD z []) f i j=z
 |0,i,j,h1,h2,h3,h4=>by simp only[nq];omega
 |f+1,i,j,h1,h2,h3,h4=>by
  simp only[nq];by_cases hij:i<j
  ·rw[Oi hij];have a1:(i+j)/2<j:=by omega
   have a2:i<=(i+j)/2:=by omega
   have pw:=PV.1 hs;generalize (i+j)/2=c at*
   have gc:ns.getD c []=ns[c]'(by omega):=by simp[List.getD,N5 (show c<ns.length by omega)]
   have gz:ns.getD z []=ns[z]:=by simp[List.getD,N5 hz]
   by_cases hl:Op.bytesLess (ns.getD c []) (ns.getD z [])=true
   ·rw[Oi hl];have hcz:c<z:=by
     rcases Nat.lt_trichotomy c z with h|h|h
     ·exact h
     ·subst h;rw[Batch.cq] at hl;cases hl
     ·have:=pw z c hz ae h;rw[gc,gz] at hl;have:=Batch.eI this hl;rw[Batch.cq] at this;cases this
    exact s7 hs hz f (c+1) j ae ae h3 h4
   ·rw[Ob hl];have hcz:z<=c:=by
     rcases Py c z with h|h
     ·have:=pw c z ae hz h;rw[gc,gz] at hl;exact absurd this hl
     ·exact h
    exact s7 hs hz f i c ae h2 hcz ae
  ·rw[Ob hij];omega
theorem I8{ns:List (List UInt8)}(hs:ns.Pairwise λa b=>Op.bytesLess a b=true){z:Nat}(hz:z<ns.length):lI ns (ns.getD z [])=z/\gU ns (ns.getD z [])=true:=by
 have h:lI ns (ns.getD z [])=z:=s7 hs hz _ _ _ ae ae ae (N4 _);refine ⟨h,?_⟩;unfold gU;rw[h];simp[hz]
abbrev SS:=List Bk × List Pc
def s8(m:List Bk)(i:Nat)(v:Vs):List Bk:=m.set i ⟨(m.getD i default).n,(m.getD i default).st,(m.getD i default).l++[v]⟩
def yn(k:Ky)(hd:Hd)(b:List UInt8):Vs:=⟨k.o,k.ns.getD 0 0,hd.sz,hd.re,hd.im,hd.g,hd.u,b⟩
def lJ(S:SS)(k:Ky)(v:List UInt8):Option SS:=
 if k.k=1 then (if nV v=true then some (S.1++[⟨k.b,stV v,[]⟩],S.2) else none)
 else if k.k=3 then (if k.ns.getD 1 0=(dv S.2 k.b k.o (k.ns.getD 0 0)).2 then some (S.1,kE S.2 k.b k.o (k.ns.getD 0 0) ((dv S.2 k.b k.o (k.ns.getD 0 0)).1++v) ((dv S.2 k.b k.o (k.ns.getD 0 0)).2+1)) else none)
 else if k.k=2 then (if hdB v=true then (if gU (S.1.map Bk.n) k.b=true then some (s8 S.1 (lI (S.1.map Bk.n) k.b) (yn k (hdO v) (dv S.2 k.b k.o (k.ns.getD 0 0)).1),kF S.2 k.b k.o (k.ns.getD 0 0)) else none) else none)
 else none
def lA(S:SS)(p:Pr):Option SS:=if cF p.k=true then lJ S (bc p.k) p.v else none
def kG(l:List Pr):Nat->Option SS
 |0=>some ([],[])
 |j+1=>(kG l j).bind λS=>if (decide (j=0)||Op.bytesLess (l.getD (j - 1) default).k (l.getD j default).k)=true then lA S (l.getD j default) else none
def iA:SS->List Pr->Option SS
 |S,[]=>some S
 |S,p::l=>(lA S p).bind λS'=>iA S' l
theorem iW:∀(a b:List Pr)(S:SS),iA S (a++b)=(iA S a).bind λS'=>iA S' b
 |[],b,S=>rfl
 |p::a,b,S=>by
  simp only[List.cons_append,iA];cases lA S p with
  |none=>rfl
  |some S'=>exact iW a b S'
theorem yo{l:List Pr}(h:l.Pairwise λx y=>Op.bytesLess x.k y.k=true):∀j,j<=l.length->kG l j=iA ([],[]) (l.take j)
 |0,_=>rfl
 |j+1,hj=>by
  have hlt:j<l.length:=by omega
  have e:l.getD j default=l[j]:=by simp[List.getD,N5 hlt]
  have hc:(decide (j=0)||Op.bytesLess (l.getD (j - 1) default).k (l.getD j default).k)=true:=by
   rcases Nat.eq_zero_or_pos j with h0|h0
   ·simp[h0]
   ·have e1:l.getD (j - 1) default=l[j - 1]:=by simp[List.getD,N5 (show j - 1<l.length by omega)]
    rw[e,e1,PV.1 h (j - 1) j ae hlt ae];simp
  rw[OD hlt,iW,<-yo h j ae];simp only[kG];congr 1;funext S;rw[Oi hc,e];simp only[iA];cases lA S l[j] <;>rfl
def bare(b:Bk):Bk:=⟨b.n,b.st,[]⟩
section
variable{m:List Bk}(h:imB m=true)
include h
theorem Nj{b:Bk}(hb:b∈m)(S:SS):lA S ⟨cU (kyB b),stS b.st⟩=some (S.1++[bare b],S.2):=by
 obtain ⟨e1,e2⟩:=B2 (GD (jJ h hb));unfold lA;rw[Oi (eU (Ay h hb)).1,pB h hb];simp[lJ,kyB,e1,e2,bare]
theorem GG:∀(a:List Bk)(S:SS),(∀b∈a,b∈m)->iA S (BP a)=some (S.1++a.map bare,S.2)
 |[],S,_=>by simp[BP,iA]
 |b::a,S,hs=>by
  have e:BP (b::a)=⟨cU (kyB b),stS b.st⟩::BP a:=rfl;rw[e];simp only[iA];rw[Nj h (hs b ah)];simp only[Option.bind_some];rw[GG a _ λc hc=>hs c (by simp[hc])];simp
end
def QPc(q:List Pc)(C:List Pr):Prop:=lz q/\(∀n o id,dv q n o id=(((C.filter (jk n o id)).map Pr.v).flatten,((C.filter (jk n o id)).length:Int)))/\∀p∈q,∃x∈C,jk p.b p.o p.id x=true
def J2(C:List Pr):Prop:=∀a p b,C=a++p::b->cF p.k=true/\(bc p.k).k=3/\(bc p.k).ns.getD 1 0=((a.filter (jk (bc p.k).b (bc p.k).o ((bc p.k).ns.getD 0 0))).length:Int)
theorem pS{p:Pr}(hk:(bc p.k).k=3)(n o:List UInt8)(id:Int):jk n o id p=true↔n=(bc p.k).b/\o=(bc p.k).o/\id=(bc p.k).ns.getD 0 0:=by
 unfold jk;rw[hk];simp only[OE,OM,Oh,Ov];constructor
 ·rintro ⟨a,b,c⟩;exact ⟨a.symm,b.symm,c.symm⟩
 ·rintro ⟨a,b,c⟩;exact ⟨a.symm,b.symm,c.symm⟩
theorem KT(m:List Bk)(C:List Pr)(hC:J2 C):∃q,iA (m,[]) C=some (m,q)/\QPc q C:=by
 induction C using qT with
 |h0=>exact ⟨[],rfl,by simp[lz],λn o id=>rfl,λp hp=>by cases hp⟩
 |h1 a x ih=>
  obtain ⟨q,hq,h1,h2,h3⟩:=ih λu p v e=>hC u p (v++[x]) (by rw[e];simp);obtain ⟨g1,g2,g3⟩:=hC a x [] rfl;have hadd:lA (m,q) x=some (m,kE q (bc x.k).b (bc x.k).o ((bc x.k).ns.getD 0 0) ((dv q (bc x.k).b (bc x.k).o ((bc x.k).ns.getD 0 0)).1++x.v) ((dv q (bc x.k).b (bc x.k).o ((bc x.k).ns.getD 0 0)).2+1)):=by
   unfold lA;rw[Oi g1];unfold lJ;rw[Ob (by rw[g2];decide),Oi g2,Oi];simp only;rw[g3,h2]
  refine ⟨_,by rw[iW,hq];simp only[Option.bind_some,iA];rw[hadd];rfl,uN h1,λn o id=>?_,λp hp=>?_⟩
  ·rw[yk,List.filter_append];by_cases hp:n=(bc x.k).b/\o=(bc x.k).o/\id=(bc x.k).ns.getD 0 0
   ·rw[Oi hp];have hc:=(pS g2 n o id).2 hp;have e:List.filter (jk n o id) [x]=[x]:=by simp[hc]
    obtain ⟨rfl,rfl,rfl⟩:=hp;rw[e,h2];simp
   ·rw[Ob hp,h2];have e:List.filter (jk n o id) [x]=[]:=by
     simp only[List.filter_cons,List.filter_nil];rw[Ob λhc=>hp ((pS g2 n o id).1 hc)]
    rw[e,OR]
  ·rcases o7 hp with rfl|hp
   ·exact ⟨x,by simp,(pS g2 _ _ _).2 ⟨rfl,rfl,rfl⟩⟩
   ·obtain ⟨y,hy,e⟩:=h3 p hp;exact ⟨y,by simp[hy],e⟩
theorem GH{m:List Bk}(n o:List UInt8)(id:Int):((aP (aZ m)).filter (isK 3)).filter (jk n o id)=(aP (aZ m)).filter (jk n o id):=by
 rw[List.filter_filter];refine List.filter_congr λx _=>?_;unfold jk isK;cases decide ((bc x.k).k=3)<;>simp
section
variable{m:List Bk}(h:imB m=true)
include h
theorem KU:J2 ((aP (aZ m)).filter (isK 3)):=by
 intro a p b e;have hp:p∈(aP (aZ m)).filter (isK 3):=by rw[e];simp
 obtain ⟨hp,hk⟩:=Pe.1 hp;rcases (il h p).1 hp with ⟨c,hc,rfl⟩|⟨c,hc,v,hv,rfl⟩|⟨c,hc,v,hv,k,hkc,rfl⟩
 ·unfold isK at hk;simp only[pB h hc] at hk;simp[kyB] at hk
 ·unfold isK at hk;simp only[pV h hc hv] at hk;simp[kyV] at hk
 ·have f:=Pj (List.filter (jk c.n v.o v.id)) e;rw[GH,JZ h hc hv,List.filter_append,List.filter_cons] at f;have hself:jk c.n v.o v.id ⟨cU (kyC c.n v k),chunk v.b k⟩=true:=by
   unfold jk;simp only[pC h hc hv hkc];simp[kyC]
  rw[Oi hself] at f;simp only[pC h hc hv hkc];refine ⟨(eU (wj h hc hv hkc)).1,rfl,?_⟩;show (k:Int)=_;have hlen:(a.filter (jk c.n v.o v.id)).length<(CP c.n v).length:=by rw[f];simp
  have hcl:(CP c.n v).length=dG v.b:=by simp[CP]
  have g:(CP c.n v)[(a.filter (jk c.n v.o v.id)).length]? =some ⟨cU (kyC c.n v k),chunk v.b k⟩:=by rw[f];simp
  have g2:(CP c.n v)[(a.filter (jk c.n v.o v.id)).length]? =some ⟨cU (kyC c.n v (a.filter (jk c.n v.o v.id)).length),chunk v.b (a.filter (jk c.n v.o v.id)).length⟩:=by
   unfold CP;rw[Qo,List.getElem?_range ae];rfl
  rw[g] at g2;simp only[Om,Pr.mk.injEq] at g2;have hkey:=key_inj (wj h hc hv hkc) (wj h hc hv ae) g2.1;have e0:c.n=(kyC c.n v k).b:=rfl;have ek:(kyC c.n v k).ns.getD 0 0=v.id:=rfl;rw[ek];show (k:Int)=((a.filter (jk c.n v.o v.id)).length:Int);simp only[kyC,Ky.mk.injEq,PC,Pf,Qk] at hkey;exact hkey
end
def Q3(q:List Pc)(R:List (List UInt8 × Vs)):Prop:=lz q/\(∀r∈R,(dv q r.1 r.2.o r.2.id).1=r.2.b)/\∀p∈q,∃r∈R,p.b=r.1/\p.o=r.2.o/\p.id=r.2.id
def I9(r:List UInt8 × Vs):Pr:=⟨cU (kyV r.1 r.2),jI r.2⟩
theorem GI{v:Vs}(hv:v.okV=true)(n:List UInt8):yn (kyV n v) (hdO (jI v)) v.b=v:=by
 rw[(ly hv).2];rfl
theorem Nk{m:List Bk}(h:imB m=true){b:Bk}(hb:b∈m){v:Vs}(hv:v∈b.l)(S:SS)(hn:S.1.map Bk.n=m.map Bk.n){i:Nat}(hi:i<m.length)(hbi:m.getD i default=b){R:List (List UInt8 × Vs)}(hq:Q3 S.2 ((b.n,v)::R))(hR:∀r∈R,¬(r.1=b.n/\r.2.o=v.o/\r.2.id=v.id)):
  ∃q',lA S (I9 (b.n,v))=some (s8 S.1 i v,q')/\Q3 q' R:=by
 obtain ⟨h1,h2,h3⟩:=hq;have hov:=qw (jJ h hb) hv;have hbody:(dv S.2 b.n v.o v.id).1=v.b:=h2 (b.n,v) ah;have hrise:(m.map Bk.n).Pairwise λa b=>Op.bytesLess a b=true:=PX.2 (jj h);have hnm:(m.map Bk.n).getD i []=b.n:=by
  have e:m.getD i default=m[i]:=by simp[List.getD,N5 hi]
  rw[<-hbi,e];simp[List.getD,Qo,N5 hi]
 obtain ⟨p1,p2⟩:=I8 hrise (z:=i) (by simpa using hi);rw[hnm] at p1 p2;refine ⟨kF S.2 b.n v.o v.id,?_,(pR h1).1,λr hr=>?_,λp hp=>?_⟩
 ·unfold lA I9;simp only;rw[Oi (eU (tD h hb hv)).1,pV h hb hv];unfold lJ;rw[Ob (by simp[kyV]),Ob (by simp[kyV]),Oi (by simp[kyV]),Oi (ly hov).1,hn];have e1:(kyV b.n v).b=b.n:=rfl;have e2:(kyV b.n v).o=v.o:=rfl;have e3:(kyV b.n v).ns.getD 0 0=v.id:=rfl;rw[e1,e2,e3,Oi p2,p1,hbody,GI hov]
 ·rw[ym (λe=>hR r hr e)];exact h2 r (by simp[hr])
 ·obtain ⟨r,hr,e1,e2,e3⟩:=h3 p (o8 hp);rcases OA.1 hr with rfl|hr
  ·exact absurd ⟨e1,e2,e3⟩ ((pR h1).2 p hp)
  ·exact ⟨r,hr,e1,e2,e3⟩
theorem Ja(a c:List Bk)(b:Bk)(v:Vs):s8 (a++b::c) a.length v=a++⟨b.n,b.st,b.l++[v]⟩::c:=by
 unfold s8;have e:(a++b::c).getD a.length default=b:=by simp[List.getD]
 rw[e];simp
def tE(b:Bk):List (List UInt8 × Vs):=b.l.map λv=>(b.n,v)
theorem KV(b:Bk):VP b=(tE b).map I9:=by
 unfold VP tE;rw[Qr];rfl
def wm(R:List (List UInt8 × Vs)):Prop:=R.Pairwise λx y=>¬(y.1=x.1/\y.2.o=x.2.o/\y.2.id=x.2.id)
theorem B3{m:List Bk}(h:imB m=true){b:Bk}(hb:b∈m){i:Nat}(hi:i<m.length)(hbi:m.getD i default=b)(a c:List Bk)(hai:a.length=i)(hnm:a.map Bk.n++b.n::c.map Bk.n=m.map Bk.n)(R:List (List UInt8 × Vs)):
  ∀(x y:List Vs),b.l=x++y->∀q,Q3 q (y.map (λv=>(b.n,v))++R)->wm (y.map (λv=>(b.n,v))++R)->∃q',iA (a++⟨b.n,b.st,x⟩::c,q) ((y.map λv=>(b.n,v)).map I9)=some (a++b::c,q')/\Q3 q' R
 |x,[],hl,q,hq,_=>by
  rw[OR] at hl;refine ⟨q,?_,by simpa using hq⟩;simp only[OQ,iA];rw[<-hl]
 |x,v::y,hl,q,hq,hR=>by
  have hv:v∈b.l:=by rw[hl];simp
  rw[OJ,List.cons_append] at hq hR;obtain ⟨hR1,hR2⟩:=PA.1 hR;obtain ⟨q1,e1,hq1⟩:=Nk h hb hv (a++⟨b.n,b.st,x⟩::c,q) (by simpa using hnm) hi hbi hq hR1;simp only at e1;rw[<-hai,Ja] at e1;obtain ⟨q2,e2,hq2⟩:=B3 h hb hi hbi a c hai hnm R (x++[v]) y (by rw[hl];simp) q1 hq1 hR2;refine ⟨q2,?_,hq2⟩;rw[OJ,OJ];simp only[iA];rw[e1];exact e2
theorem B4{m:List Bk}(h:imB m=true):∀(a c:List Bk),m=a++c->∀q,Q3 q (c.map tE).flatten->wm (c.map tE).flatten->iA (a++c.map bare,q) ((c.map VP).flatten)=some (m,[])
 |a,[],hm,q,hq,_=>by
  obtain ⟨-,-,h3⟩:=hq;have:q=[]:=by
   cases q with
   |nil=>rfl
   |cons p q=>obtain ⟨r,hr,-⟩:=h3 p ah;simp at hr
  subst this;simp only[OQ,List.flatten_nil,iA];rw[hm]
 |a,b::c,hm,q,hq,hR=>by
  have hb:b∈m:=by rw[hm];simp
  have hi:a.length<m.length:=by rw[hm];simp
  have hbi:m.getD a.length default=b:=by rw[hm];simp[List.getD]
  rw[OJ,List.flatten_cons] at hq hR;have hnm:a.map Bk.n++b.n::(c.map bare).map Bk.n=m.map Bk.n:=by
   rw[hm,Qr,Pl,OJ];rfl
  obtain ⟨q1,e1,hq1⟩:=B3 h hb hi hbi a (c.map bare) rfl hnm (c.map tE).flatten [] b.l rfl q hq hR;have hR2:wm (c.map tE).flatten:=(List.pairwise_append.1 hR).2.1;have ih:=B4 h (a++[b]) c (by rw[hm];simp) q1 hq1 hR2;rw[OJ,OJ,List.flatten_cons,iW,KV];have eb:bare b=⟨b.n,b.st,[]⟩:=rfl;rw[eb];have ev:tE b=b.l.map λv=>(b.n,v):=rfl;rw[ev,e1];simp only[Option.bind_some];simpa using ih
theorem D6{m:List Bk}(h:imB m=true):wm (m.map tE).flatten:=by
 refine List.pairwise_flatten.2 ⟨λl hl=>?_,?_⟩
 ·obtain ⟨b,hb,rfl⟩:=OC.1 hl;unfold tE;refine PX.2 ((qU (jJ h hb)).imp λhn=>?_);rintro ⟨-,e2,e3⟩;rcases next_ne hn with h1|h1
  ·exact h1 e2.symm
  ·exact h1 e3.symm
 ·refine PX.2 ((jj h).imp λ{a b} hn x hx y hy=>?_);obtain ⟨u,-,rfl⟩:=OC.1 hx;obtain ⟨v,-,rfl⟩:=OC.1 hy;rintro ⟨e1,-⟩;exact jG hn e1.symm
theorem D7{m:List Bk}(h:imB m=true):kG (aP (aZ m)) (aP (aZ m)).length=some (m,[]):=by
 rw[yo (iz _) _ (N4 _),OG,D5 h,iW,JY h,GG h m _ λb hb=>hb];simp only[Option.bind_some,List.nil_append];rw[iW];obtain ⟨q,hq,q1,q2,q3⟩:=KT (m.map bare) _ (KU h);rw[hq];simp only[Option.bind_some];rw[KS h];have:=B4 h [] m rfl q ⟨q1,λr hr=>?_,λp hp=>?_⟩ (D6 h)
 ·simpa using this
 ·obtain ⟨l,hl,hr⟩:=Pn.1 hr;obtain ⟨b,hb,rfl⟩:=OC.1 hl;obtain ⟨v,hv,rfl⟩:=OC.1 hr;rw[q2,GH,JZ h hb hv];have e:(CP b.n v).map Pr.v=(List.range (dG v.b)).map (chunk v.b):=by
   unfold CP;rw[Qr];rfl
  simp only;rw[e,Az]
 ·obtain ⟨x,hx,e⟩:=q3 p hp;obtain ⟨hx,hk⟩:=Pe.1 hx;rcases (il h x).1 hx with ⟨c,hc,rfl⟩|⟨c,hc,v,hv,rfl⟩|⟨c,hc,v,hv,k,hkc,rfl⟩
  ·unfold isK at hk;simp only[pB h hc] at hk;simp[kyB] at hk
  ·unfold isK at hk;simp only[pV h hc hv] at hk;simp[kyV] at hk
  ·unfold jk at e;simp only[pC h hc hv hkc] at e;simp[kyC] at e;exact ⟨(c.n,v),Pn.2 ⟨tE c,OC.2 ⟨c,hc,rfl⟩,OC.2 ⟨v,hv,rfl⟩⟩,(Ox e.1).symm,(Ox e.2.1).symm,e.2.2.symm⟩
theorem GJ(p:Addr)(w:World):
  CallsD Tryz.prog 104 #[.pointer (some p)] .returning w λe u' w'=>e= .returned (.tuple #[])/\u'= .returning/\w'=w:=by
 refine callsD_of_wpS Tryz.func104 rfl λc₀ cs hu=>?_;apply wpS_seq;apply wpS_region;simp[wpOpsS,go_sem,recoverD,hu,Tryz.ntmps104,Exit.thenS];apply wpS_seq;apply wpS_seq;apply wpS_region;simp[wpOpsS,go_sem,Array.replicate];refine wpS_cond (t:=true) (by simp[Act.eval]) ?_;simp only[Of];refine wpS_of_wp (wp_ret ?_);cases c₀
 simp_all [Exit.thenS,bodyPostS,results,Tryz.results104]
theorem GK(k:Int)(w:World):(Instr.typeAssert (.iface 28 (.int .i64 k)) 20 28 true).run Tryz.prog w= .ok (.tuple #[.int .i64 k,.bool true]) w:=by kernel_rfl
theorem AF(p:Addr)(x:Int)(k:Int)(w:World)(hc:w.cell? p=some (.int .i64 x))(hz:w.frozen? p=false):
  CallsD Tryz.prog 104 #[.pointer (some p)] (.panicking [{v:= .iface 28 (.int .i64 k),recovered:=false}]) w λe u' w'=>
   e= .returned (.tuple #[])/\u'= .panicking [{v:= .iface 28 (.int .i64 k),recovered:=true}]/\w'=w.setCell p (.int .i64 k):=by
 refine callsD_of_wpS Tryz.func104 rfl λc₀ cs hu=>?_;apply wpS_seq;apply wpS_region;simp[wpOpsS,go_sem,recoverD,hu,Tryz.ntmps104,Exit.thenS];apply wpS_seq;apply wpS_seq;apply wpS_region;simp[wpOpsS,go_sem,Array.replicate];refine wpS_cond (t:=false) (by simp[Act.eval]) ?_;simp only[Oq,Od];refine wpS_of_wp (wp_skip ?_);simp only[Exit.thenS];apply wpS_seq;apply wpS_region;simp[wpOpsS,go_sem,Exit.thenS,GK];apply wpS_seq;apply wpS_seq;apply wpS_region;simp[wpOpsS,go_sem];refine wpS_cond (t:=false) (by simp[Act.eval]) ?_;simp only[Oq,Od];refine wpS_of_wp (wp_skip ?_);simp only[Exit.thenS];apply wpS_region;simp[wpOpsS,go_sem,hc,hz,bodyPostS,results,Tryz.results104]
theorem uO{G G2:aT}{w w1 w2:World}{h h':H}{x:Value}(k:Value)(R:bj G h w)(T1:Av.Trans G w h (oB G w.heap.size) w1 h)(R1:bj (oB G w.heap.size) h w1)(hs:w.heap.size<w1.heap.size)(n1:¬h.O (oB G w.heap.size) w.heap.size)
  (T2:Av.Trans (oB G w.heap.size) w1 h G2 w2 h') (R2:bj G2 h' w2) {T:TypeId} {fr:Nat × Nat} (hA:w2.heap[w.heap.size]? =some (.cells #[x] T fr)):
  Av.Trans G w h G2 (w2.setCell ⟨w.heap.size,0,none⟩ k) h'/\bj G2 h' (w2.setCell ⟨w.heap.size,0,none⟩ k):=by
 have ho:G2.own w.heap.size:=(T2.own_keep _ hs n1).2 (.inl rfl);have t:=Da (x:=k) hA ho;exact ⟨(T1.trans R R1 T2).set t (N4 _),R2.set t λx=>n1 (T2.O_new _ hs x)⟩
theorem GL{g:Nat}{fn:Func}{first caps:List AV}{h h':H}{r:AV}(hg:Tryz.prog.funcs[g]? =some fn)(hb:fn.body.isSome=true)(hn:fn.name≠ "runtime.NumGoroutine")
  (hc:bB Tryz.prog g (first++caps) h r h'):bB Tryz.prog 54 [.clo (.func g) first caps] h (.int .i64 0) h':=by
 intro G w vs hv R F;simp only[aE,aC] at hv;obtain ⟨v,us,rfl,⟨fv,cv,rfl,h1,h2⟩,rfl⟩:=hv;have hmf:∀(fn:Fn)(first cap:Array Value)(w:World),(Instr.makeFunc fn first cap).run Tryz.prog w= .ok (.func fn first cap) w:=λ_ _ _ _=>rfl
 go_enter_defers Tryz.func54,Tryz.ntmps54
 go_wp2
 rename_i Q' K1 k1 K2 k2;rw[eF _ hg hb hn];let o:Go.Obj:= .cells #[.int .i64 0] 28
 have hp:dw w (w.alloc o) o:=⟨rfl,rfl,rfl⟩;obtain ⟨T1,R1,n1,n2⟩:=wV R hp;have F1:cB (oB G w.heap.size) h h':=F;have hv1:aE (oB G w.heap.size) (w.alloc o) (first++caps) (fv++cv):=(aE.mono R T1 _ _ h1).append (aE.mono R T1 _ _ h2);show Calls _ _ _ _ _;refine (hc _ _ _ hv1 R1 F1).mono ?_;rintro e w2 ⟨v2,G2,rfl,T2,R2,-⟩;have hA:w2.heap[w.heap.size]? =some o:=(T2.keep _ (by rw[hp.size];omega) n1 n2).trans hp.new;have hcell:w2.cell? {block:=w.heap.size,off:=0}=some (.int .i64 0):=by
  unfold World.cell?;simp only[hA,o];rfl
 have hfz:w2.frozen? {block:=w.heap.size,off:=0}=false:=by
  unfold World.frozen?;simp only[hA,o];rfl
 apply k2
 go_wp2
 obtain ⟨T3,R3⟩:=uO (.int .i64 0) R T1 R1 (by rw[hp.size];omega) n1 T2 R2 hA;have hB:=Bj (x:= .int .i64 0) hA;refine leaves_cons (f:=104) (args:= #[.pointer (some ⟨w.heap.size,0,none⟩)]) ah (by simp[go_sem]) ?_;refine (GJ ⟨w.heap.size,0,none⟩ _).mono ?_;rintro e u' w'' ⟨rfl,rfl,rfl⟩;generalize w2.setCell ⟨w.heap.size,0,none⟩ (.int .i64 0)=w3 at T3 R3 hB |-;have hcell3:w3.cell? {block:=w.heap.size,off:=0}=some (.int .i64 0):=by
  unfold World.cell?;simp only[hB];rfl
 simp[Leaves,settle,results,Tryz.results54,go_sem,hcell3];exact ⟨G2,T3,R3,by simp[aC]⟩
theorem B5{g:Nat}{fn:Func}{first caps:List AV}{h h':H}{k:Int}(hg:Tryz.prog.funcs[g]? =some fn)(hb:fn.body.isSome=true)(hn:fn.name≠ "runtime.NumGoroutine")
  (hc:eN Tryz.prog g (first++caps) h (.iface 28 (.int .i64 k)) h'):bB Tryz.prog 54 [.clo (.func g) first caps] h (.int .i64 k) h':=by
 intro G w vs hv R F;simp only[aE,aC] at hv;obtain ⟨v,us,rfl,⟨fv,cv,rfl,h1,h2⟩,rfl⟩:=hv;have hmf:∀(fn:Fn)(first cap:Array Value)(w:World),(Instr.makeFunc fn first cap).run Tryz.prog w= .ok (.func fn first cap) w:=λ_ _ _ _=>rfl
 go_enter_defers Tryz.func54,Tryz.ntmps54
 go_wp2
 rename_i Q' K1 k1 K2 k2;rw[eF _ hg hb hn];let o:Go.Obj:= .cells #[.int .i64 0] 28
 have hp:dw w (w.alloc o) o:=⟨rfl,rfl,rfl⟩;obtain ⟨T1,R1,n1,n2⟩:=wV R hp;have F1:cB (oB G w.heap.size) h h':=F;have hv1:aE (oB G w.heap.size) (w.alloc o) (first++caps) (fv++cv):=(aE.mono R T1 _ _ h1).append (aE.mono R T1 _ _ h2);show Calls _ _ _ _ _;refine (hc _ _ _ hv1 R1 F1).mono ?_;rintro e w2 ⟨G2,rfl,T2,R2⟩;have hA:w2.heap[w.heap.size]? =some o:=(T2.keep _ (by rw[hp.size];omega) n1 n2).trans hp.new;have hcell:w2.cell? {block:=w.heap.size,off:=0}=some (.int .i64 0):=by
  unfold World.cell?;simp only[hA,o];rfl
 have hfz:w2.frozen? {block:=w.heap.size,off:=0}=false:=by
  unfold World.frozen?;simp only[hA,o];rfl
 obtain ⟨T3,R3⟩:=uO (.int .i64 k) R T1 R1 (by rw[hp.size];omega) n1 T2 R2 hA;have hB:=Bj (x:= .int .i64 k) hA;show Leaves _ _ _ _ _ _ _;refine leaves_cons (f:=104) (args:= #[.pointer (some ⟨w.heap.size,0,none⟩)]) ah (by simp[go_sem]) ?_;refine (AF ⟨w.heap.size,0,none⟩ 0 k _ hcell hfz).mono ?_;rintro e u' w'' ⟨rfl,rfl,rfl⟩;generalize w2.setCell ⟨w.heap.size,0,none⟩ (.int .i64 k)=w3 at T3 R3 hB |-;have hcell3:w3.cell? {block:=w.heap.size,off:=0}=some (.int .i64 k):=by
  unfold World.cell?;simp only[hB];rfl
 simp[Leaves,settle,results,Tryz.results54,go_sem,hcell3];exact ⟨G2,T3,R3,by simp[aC]⟩
end Go.Proofs.YtjnoobmaedgooaaGreat.Arch
end
