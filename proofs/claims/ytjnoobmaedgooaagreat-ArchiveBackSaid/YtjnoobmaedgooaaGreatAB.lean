/- ArchiveBack: the statement 'ArchiveBackSaid', closed by the law that the walk shows. No condition. -/
import Derived.Deep.CondSized
import Derived.Defers
import Derived.IntWalk
import Derived.KernelRfl
import Derived.Laws.Append
import Derived.Laws.AppendOwn
import Derived.Laws.BytesArg
import Derived.Laws.ComplexArith
import Derived.Laws.Cover3
import Derived.Laws.Entries
import Derived.Laws.FloatBits
import Derived.Laws.IdiomCopy
import Derived.Laws.IdiomStrings
import Derived.Laws.Pointers
import Derived.Laws.Small
import Derived.Laws.Strings
import Derived.Laws.StructEq
import Derived.Lib.Small
import Derived.Lib.Walk
import Derived.MapKept
import Derived.OpenShut
import Derived.Orders
import Derived.OrdersIn
import Derived.ProofKit
import Derived.RangeFuncRecord
import Derived.RangeFuncSeq
import Derived.ReadAgain
import Derived.Recover
import Derived.Scope
import Derived.Shelf.Lay
import Derived.Shelf.SlSortCmp.InsertionK
import Derived.Shelf.SlSortCmp.WholeK
import Derived.SizedLaws
import Derived.Tactics
import Derived.Tactics2
import Derived.Test.YtjnoobmaedgooaaGreatProg
import Derived.Test.YtjnoobmaedgooaaGreatRows
import Derived.WalkKit
import Derived.WalkSmall
import Derived.Test.YtjnoobmaedgooaaGreatABE
set_option linter.unusedSimpArgs false
set_option linter.unusedVariables false
section
set_option maxRecDepth 100000
namespace Go.Proofs.YtjnoobmaedgooaaGreat.Arch
open Go Go.Av Go.Proofs Go.Proofs.YtjnoobmaedgooaaGreat.C Go.Proofs.YtjnoobmaedgooaaGreat.Batch Go.Proofs.YtjnoobmaedgooaaGreat.Desk
structure Ext (h h':H):Prop where
 o:∀j,j<h.n→j≠3→h'.objs j=h.objs j
 n:h.n≤h'.n
 m:h.m≤h'.m
 t:∀t∈h.toks,t∈h'.toks
 ok:HOk h'
theorem Ext.trans {a b c:H} (h1:Ext a b) (h2:Ext b c):Ext a c where
 o:=fun j hj h3=>(h2.o j (Nat.lt_of_lt_of_le hj h1.n) h3).trans (h1.o j hj h3)
 n:=Nat.le_trans h1.n h2.n
 m:=Nat.le_trans h1.m h2.m
 t:=fun t ht=>h2.t t (h1.t t ht)
 ok:=h2.ok
theorem Ext.more {h:H} (hk:HOk h) {n m:Nat} (hn:h.n≤n) (hm:h.m≤m):Ext h {h with n:=n,m:=m}:=
 ⟨fun _ _ _=>rfl,hn,hm,fun _ h=>h,⟨fun j hj=>hk.1 j (Nat.le_trans hn hj),fun t ht=>Nat.lt_of_lt_of_le (hk.2 t ht) hm⟩⟩
theorem Ext.src {F:Nat→Option Av.Obj} {n:Nat} {K:List Nat} {m:Nat} (hk:HOk ⟨F,n,K,m⟩) (h3:3<n) (o:Av.Obj) {n' m':Nat} (hn:n≤n') (hm:m≤m'):Ext ⟨F,n,K,m⟩ ⟨upd F 3 (some o),n',K,m'⟩:=
 ⟨fun j _ h=>by simp only[upd,if_neg h],hn,hm,fun _ h=>h,⟨fun j hj=>by
  have hj:n'≤j:=hj
  have:j≠3:=by omega
  simp only[upd,if_neg this]
  exact hk.1 j (by show n≤j;omega),fun t ht=>Nat.lt_of_lt_of_le (hk.2 t ht) hm⟩⟩
theorem Ext.add {F:Nat→Option Av.Obj} {n:Nat} {K:List Nat} {m:Nat} (h:Ext ⟨F,n,K,m⟩ ⟨F,n,K,m⟩) {F1:Nat→Option Av.Obj} {n1 m1:Nat} (he:Ext ⟨F,n,K,m⟩ ⟨F1,n1,K,m1⟩) (o:Av.Obj):Ext ⟨F,n,K,m⟩ ⟨upd F1 n1 (some o),n1+1,K,m1⟩:=
 ⟨fun j hj h3=>by
  have hj:j<n:=hj
  have hn:n≤n1:=he.n
  have:j≠n1:=by omega
  simp only[upd,if_neg this]
  exact he.o j hj h3,Nat.le_succ_of_le he.n,he.m,he.t,⟨fun j hj=>by
  have hj:n1+1≤j:=hj
  have:j≠n1:=by omega
  simp only[upd,if_neg this]
  exact he.ok.1 j (by show n1≤j;omega),he.ok.2⟩⟩
theorem Ext.of {F F':Nat→Option Av.Obj} {n n':Nat} {K:List Nat} {m m':Nat} (hk:HOk ⟨F,n,K,m⟩) (h1:∀j,j<n→j≠3→F' j=F j) (h2:∀j,n'≤j→F' j=none) (hn:n≤n') (hm:m≤m'):Ext ⟨F,n,K,m⟩ ⟨F',n',K,m'⟩:=
 ⟨h1,hn,hm,fun _ h=>h,⟨h2,fun t ht=>Nat.lt_of_lt_of_le (hk.2 t ht) hm⟩⟩
theorem gH (B:List UInt8) (hB:B.length≤10000000) (a w:Nat) (hw:w≤4) (h:a+w≤B.length):mT Tryz.prog 59 [.ptr 3 0,.int .i64 (w:Nat)] 3 (cS B a) (.int .i64 (val ((B.drop a).take w):Nat)) (cS B (a+w)):=by
 have:=uv B hB a w (by omega) h
 rwa [z8 (by rw[List.length_take];omega)] at this
def QV (B:List UInt8) (a0 k:Nat) (Inv:List Vs→H→Prop):aA→St→Prop:=fun e s'=>match vr B a0 k with
 |some x=>e= .normal∧Inv x.1 s'.h∧HOk s'.h∧s'.h.objs 3=some (cS B x.2)
 |none=>e= .panic v4∧∃l,Inv l s'.h
theorem GP {B:List UInt8} {a0 k j:Nat} {Inv:List Vs→H→Prop} (hj:j≤k) (h:vr B a0 j=none) {s':St} {l:List Vs} (hI:Inv l s'.h):QV B a0 k Inv (.panic v4) s':=by
 have:=xU h (k - j)
 rw[show j+(k - j)=k by omega] at this
 unfold QV
 rw[this]
 exact ⟨rfl,l,hI⟩
set_option maxHeartbeats 4000000 in
theorem GQ (B:List UInt8) (hB:B.length≤10000000) (id sb nb k:Nat) (hk:k≤4294967295) (a0:Nat) (ha0:a0≤B.length) (Inv:List Vs→H→Prop)
  (hup:∀l h h',Inv l h→Ext h h'→Inv l h')
  (hY:∀l v h,l.length<k→Inv l h→HOk h→ji Tryz.prog id [cM v] h fun r h'=>r= .bool true∧Inv (l++[v]) h'∧HOk h'∧h'.objs 3=h.objs 3∧h'.objs sb=h.objs sb)
  (h0:H) (hi:Inv [] h0) (hok:HOk h0) (h3:h0.objs 3=some (cS B a0)) (hsb:h0.objs sb=some (.cells [.ptr 3 0])) (hnb:h0.objs nb=some (.cells [.int .i64 k])) (hs3:sb≠3) (hsn:sb<h0.n) (hn5:3<h0.n):
  Wp Tryz.prog 38 F7 ⟨eh [.yld id,.ptr nb 0,.ptr sb 0],h0⟩ (QV B a0 k Inv):=by
 unfold F7
 simp only[C.zz]
 refine rf0 hnb ?_
 refine Wp.eN [0,2,7] xA7 (fun b:Nat × List Vs × Nat × H=>[(8,.int .i64 (b.1:Nat))]) (fun b=>b.2.2.2) (fun b=>b.1≤k∧vr B a0 b.1=some (b.2.1,b.2.2.1)∧b.2.2.1≤B.length∧Inv b.2.1 b.2.2.2∧HOk b.2.2.2∧b.2.2.2.objs 3=some (cS B b.2.2.1)∧b.2.2.2.objs sb=some (.cells [.ptr 3 0])∧sb<b.2.2.2.n∧3<b.2.2.2.n) (fun b=>k - b.1) (0,[],a0,h0) ⟨Nat.zero_le _,rfl,ha0,hi,hok,h3,hsb,hsn,hn5⟩ rfl ?_ ?_
 ·exact xSb
 rintro ⟨j,l,a,F,n,K,m⟩ ⟨hj,hv,ha,hI,hO,g3,gs,hs,hn⟩
 simp only at hj hv ha hI hO g3 gs hs hn
 by_cases hc:j<k
 ·have d1:decide ((j:Int)<(k:Int))=true:=decide_eq_true (by omega)
  have hnext:vr B a0 (j+1)=(gF B a).map fun y=>(l++[y.1],y.2):=by
   simp only[vr]
   rw[hv];rfl
  have bad:gF B a=none→vr B a0 (j+1)=none:=fun hb=>by rw[hnext,hb];rfl
  have hpan:∀{h':H},Ext ⟨F,n,K,m⟩ h'→gF B a=none→QV B a0 k Inv (.panic v4) ⟨fun _=> .any,h'⟩:=fun he hb=>GP (by omega) (bad hb) (hup l _ _ hI he)
  have s3:¬(3=sb):=fun e=>hs3 e.symm
  have n3:¬(3=n):=by omega
  have ns:¬(sb=n):=by omega
  have hzn:F n=none:=hO.1 n (Nat.le_refl _)
  have hz:∀o:Av.Obj,upd F 3 (some o) n=none:=fun o=>by
   simp only[upd]
   rw[if_neg (by omega)]
   exact hO.1 n (Nat.le_refl _)
  have hsrc:∀(o:Av.Obj) {n' m':Nat},n≤n'→m≤m'→Ext ⟨F,n,K,m⟩ ⟨upd F 3 (some o),n',K,m'⟩:=fun o=>Ext.src hO hn o
  refine Wp.au (by simp only[go_sem,reduceIte,Nat.reduceEqDiff,Nat.reduceAdd,bx,ax,if_true,if_false,Nat.reduceMul,Nat.reduceLeDiff,d1];exact rfl) ?_
  refine ab.nil ?_
  refine Wp.seq ?_
  refine Wp.cond_true (by simp only[go_sem,reduceIte,Nat.reduceEqDiff,Nat.reduceAdd,bx,d1]) ?_
  refine Wp.skip ?_
  refine Wp.seq (Wp.block ?_)
  have hl1:((1:Nat):Int)=1:=rfl
  have hl8:((8:Nat):Int)=8:=rfl
  have hl11:((11:Nat):Int)=11:=rfl
  have hl2:((2:Nat):Int)=2:=rfl
  by_cases c1:a+1≤B.length
  ·have hc1:=gH B hB a 1 (by decide) c1
   rw[hl1] at hc1
   have y1:nn B a 1=some (val ((B.drop a).take 1),a+1):=by unfold nn;rw[if_pos c1]
   have hk1:val ((B.drop a).take 1)≤1000000000000:=by
    have h1:=Batch.fL ((B.drop a).take 1)
    have h2:(256:Nat)^((B.drop a).take 1).length≤256^1:=Nat.pow_le_pow_right (by omega) (by rw[List.length_take];omega)
    have e1:(256:Nat)^1=256:=by decide
    omega
   generalize val ((B.drop a).take 1)=k1 at*
   by_cases c2:a+1+k1≤B.length
   ·have hc2:=nB B hB (a+1) k1 c2
    have y2:tx B (a+1) k1=some ((B.drop (a+1)).take k1,a+1+k1):=by unfold tx;rw[if_pos c2]
    generalize (B.drop (a+1)).take k1=so at*
    by_cases c3:a+1+k1+8≤B.length
    ·have hc3:=uv B hB (a+1+k1) 8 (by decide) c3
     rw[hl8] at hc3
     have y3:nu B (a+1+k1) 8=some (i64 ((B.drop (a+1+k1)).take 8),a+1+k1+8):=by unfold nu;rw[if_pos c3]
     generalize i64 ((B.drop (a+1+k1)).take 8)=vid at*
     refine Wp.aG (by simp only[go_sem,reduceIte,Nat.reduceEqDiff,Nat.reduceAdd,bx,ax,if_true,if_false,Nat.reduceMul,Nat.reduceLeDiff,gs];exact rfl) ?_
     refine ae.cT xA2 (by simp only[go_sem,reduceIte,Nat.reduceEqDiff,Nat.reduceAdd,bx,List.map];exact af.refl _) (g3) (hc1) fun m1 hm1=>?_
     refine ae.cT xA2 (by simp only[go_sem,reduceIte,Nat.reduceEqDiff,Nat.reduceAdd,bx,List.map];exact af.refl _) (by simp only[upd,if_true]) (hc2) fun m2 hm2=>?_
     simp only at hm1 hm2
     refine ae.evR (by simp only[go_sem,reduceIte,Nat.reduceEqDiff,Nat.reduceAdd,bx,gs,hs3,s3];exact rfl) ?_
     refine ae.cT xA2 (by simp only[go_sem,reduceIte,Nat.reduceEqDiff,Nat.reduceAdd,bx,List.map];exact af.refl _) (by simp only[upd,if_true]) (hc3) fun m3 hm3=>?_
     simp only at hm3
     refine ae.evR xA1 ?_
     refine ae.nil ⟨by simp[aJ,ar,apart,aC,s3,hs3,n3,ns] <;>omega,?_⟩
     simp only[fV]
     have hn3:¬(n=3):=by omega
     have p3:¬(3=n+1):=by omega
     have hp3:¬(n+1=3):=by omega
     have ps:¬(sb=n+1):=by omega
     have pn:¬(n=n+1):=by omega
     have pn':¬(n+1=n):=by omega
     have hext:∀{F':Nat→Option Av.Obj} {n' m':Nat},(∀j,j<n→j≠3→F' j=F j)→(∀j,n'≤j→F' j=none)→n≤n'→m≤m'→Ext ⟨F,n,K,m⟩ ⟨F',n',K,m'⟩:=Ext.of hO
     have hvt:gF B a=(tx B (a+1+k1+8) 11).bind fun x4=>if hdB x4.1=true then (nn B x4.2 2).bind fun x5=>(tx B x5.2 x5.1).bind fun x6=>some (⟨so,vid,(hdO x4.1).sz,(hdO x4.1).re,(hdO x4.1).im,(hdO x4.1).g,(hdO x4.1).u,x6.1⟩,x6.2) else none:=by
      unfold gF
      rw[y1]
      simp only[Option.bind_some]
      rw[y2]
      simp only[Option.bind_some]
      rw[y3]
      simp only[Option.bind_some]
     by_cases c4:a+1+k1+8+11≤B.length
     ·have hc4:=nB B hB (a+1+k1+8) 11 c4
      rw[hl11] at hc4
      have y4:tx B (a+1+k1+8) 11=some ((B.drop (a+1+k1+8)).take 11,a+1+k1+8+11):=by unfold tx;rw[if_pos c4]
      have hll:((B.drop (a+1+k1+8)).take 11).length≤11:=by rw[List.length_take];omega
      generalize (B.drop (a+1+k1+8)).take 11=sh at*
      have ch:=pQ sh (by omega)
      have dE:decide (hdE sh=0)=hdB sh:=by
       unfold hdE
       cases hdB sh<;>decide
      rw[y4] at hvt
      simp only[Option.bind_some] at hvt
      unfold ua jQ at ch
      generalize hdE sh=he at*
      generalize hdO sh=hd at*
      obtain ⟨hsz,hre,him,hg,hu⟩:=hd
      simp only at ch hvt
      refine Wp.au (by simp only[go_sem,reduceIte,Nat.reduceEqDiff,Nat.reduceAdd,bx,ax,if_true,if_false,Nat.reduceMul,Nat.reduceLeDiff,gs,hs3,s3,n3,ns];exact rfl) ?_
      refine ab.cT xA2 (by simp only[go_sem,reduceIte,Nat.reduceEqDiff,Nat.reduceAdd,bx,List.map];exact af.refl _) (by simp only[upd,n3,if_false,if_true]) (hc4) fun m4 hm4=>?_
      simp only at hm4
      refine ab.aP xA2 (by simp only[go_sem,reduceIte,Nat.reduceEqDiff,Nat.reduceAdd,bx,List.map];exact af.refl _) (ch) ?_
      refine ab.evF (by simp only[go_sem,reduceIte,Nat.reduceEqDiff,Nat.reduceAdd,bx,ax,if_true,if_false,Nat.reduceMul,Nat.reduceLeDiff];exact rfl) ?_
      refine ab.nil ?_
      cases hbb:hdB sh with
      |false=>
       rw[hbb] at dE hvt
       rw[if_neg (by simp)] at hvt
       refine Wp.cH (by simp only[go_sem,reduceIte,Nat.reduceEqDiff,Nat.reduceAdd,bx,ax,if_true,if_false,Nat.reduceMul,Nat.reduceLeDiff,dE];exact rfl) (by simp only[go_sem,reduceIte,Nat.reduceEqDiff,Nat.reduceAdd,bx,List.map];exact af.refl _) dy (trivial) ?_
       exact hpan (hext (fun j h1 h2=>by simp only[upd];(repeat rw[if_neg (by omega)])) (fun j hj=>by simp only[upd];(repeat rw[if_neg (by omega)]);exact hO.1 j (by show n≤j;omega)) (by omega) (by omega)) hvt
      |true=>
      rw[hbb] at dE hvt
      rw[if_pos rfl] at hvt
      refine Wp.au (by simp only[go_sem,reduceIte,Nat.reduceEqDiff,Nat.reduceAdd,bx,ax,if_true,if_false,Nat.reduceMul,Nat.reduceLeDiff,dE];exact rfl) ?_
      refine ab.aP xA2 (by simp only[go_sem,reduceIte,Nat.reduceEqDiff,Nat.reduceAdd,bx,List.map];exact af.refl _) (fx) ?_
      refine ab.nil ?_
      refine Wp.au (by simp only[go_sem,reduceIte,Nat.reduceEqDiff,Nat.reduceAdd,bx,ax,if_true,if_false,Nat.reduceMul,Nat.reduceLeDiff,n3,hn3,p3,hp3,pn,pn'];exact rfl) ?_
      refine ab.nil ?_
      by_cases c5:a+1+k1+8+11+2≤B.length
      ·have hc5:=gH B hB (a+1+k1+8+11) 2 (by decide) c5
       rw[hl2] at hc5
       have y5:nn B (a+1+k1+8+11) 2=some (val ((B.drop (a+1+k1+8+11)).take 2),a+1+k1+8+11+2):=by unfold nn;rw[if_pos c5]
       have hk5:val ((B.drop (a+1+k1+8+11)).take 2)≤1000000000000:=by
        have h1:=Batch.fL ((B.drop (a+1+k1+8+11)).take 2)
        have h2:(256:Nat)^((B.drop (a+1+k1+8+11)).take 2).length≤256^2:=Nat.pow_le_pow_right (by omega) (by rw[List.length_take];omega)
        have e1:(256:Nat)^2=65536:=by decide
        omega
       rw[y5] at hvt
       simp only[Option.bind_some] at hvt
       generalize val ((B.drop (a+1+k1+8+11)).take 2)=k5 at*
       by_cases c6:a+1+k1+8+11+2+k5≤B.length
       ·have hc6:=nB B hB (a+1+k1+8+11+2) k5 c6
        have y6:tx B (a+1+k1+8+11+2) k5=some ((B.drop (a+1+k1+8+11+2)).take k5,a+1+k1+8+11+2+k5):=by unfold tx;rw[if_pos c6]
        rw[y6] at hvt
        simp only[Option.bind_some] at hvt
        generalize (B.drop (a+1+k1+8+11+2)).take k5=sb6 at*
        refine Wp.aG (by simp only[go_sem,reduceIte,Nat.reduceEqDiff,Nat.reduceAdd,bx,ax,if_true,if_false,Nat.reduceMul,Nat.reduceLeDiff,gs,hs3,s3,n3,hn3,ns,p3,hp3,ps,pn,pn'];exact rfl) ?_
        refine ae.cT xA2 (by simp only[go_sem,reduceIte,Nat.reduceEqDiff,Nat.reduceAdd,bx,List.map];exact af.refl _) (by simp only[upd,n3,p3,if_false,if_true]) (hc5) fun m5 hm5=>?_
        simp only at hm5
        refine ae.cT xA2 (by simp only[go_sem,reduceIte,Nat.reduceEqDiff,Nat.reduceAdd,bx,List.map];exact af.refl _) (by simp only[upd,if_true]) (hc6) fun m6 hm6=>?_
        simp only at hm6
        refine ae.evR (by simp only[go_sem,reduceIte,Nat.reduceEqDiff,Nat.reduceAdd,bx,gs,hs3,s3,n3,hn3,ns,p3,hp3,ps,pn,pn'];exact rfl) ?_
        refine ae.nil ⟨by simp[aJ,ar,apart,aC,s3,hs3,n3,ns] <;>omega,?_⟩
        refine Wp.au (by simp only[go_sem,reduceIte,Nat.reduceEqDiff,Nat.reduceAdd,bx,ax,if_true,if_false,Nat.reduceMul,Nat.reduceLeDiff,gs,hs3,s3,n3,hn3,ns,p3,hp3,ps,pn,pn'];exact rfl) ?_
        refine (fun hE:Ext ⟨F,n,K,m⟩ _=>ab.yield (vals:=[cM ⟨so,vid,hsz,hre,him,hg,hu,sb6⟩]) ?_ ?_ ?_ (hY l _ _ (by have:=sB _ hv;simp only at this;omega) (hup l _ _ hI hE) hE.ok) fun r h' hq hn' hm'=>?_) ?_
        ·simp only[go_sem,reduceIte,Nat.reduceEqDiff,Nat.reduceAdd,bx]
        ·simp only[go_sem,reduceIte,Nat.reduceEqDiff,Nat.reduceAdd,bx]
        ·simp only[go_sem,reduceIte,Nat.reduceEqDiff,Nat.reduceAdd,bx,List.map];exact af.refl _
        ·obtain ⟨rfl,q1,q2,q3,q4⟩:=hq
         simp only[upd,n3,p3,if_false,if_true] at q3
         simp only[upd,ns,ps,hs3,if_false] at q4
         refine ab.evF (by simp only[go_sem,reduceIte,Nat.reduceEqDiff,Nat.reduceAdd,bx,ax,if_true,if_false,Nat.reduceMul,Nat.reduceLeDiff,Bool.not_true];exact rfl) ?_
         refine rf0 @Bool.not_true ?_
         have e1:IntKind.i64.wrap ((j:Int)+1)=((j+1:Nat):Int):=by rw[IntWalk.i64_in _ (by omega)];omega
         refine ⟨(j+1,l++[⟨so,vid,hsz,hre,him,hg,hu,sb6⟩],a+1+k1+8+11+2+k5,h'),⟨hc,by simp only;rw[hnext,hvt];rfl,c6,q1,q2,q3,by rw[q4];exact gs,?_,?_⟩,Nat.sub_lt_sub_left hc (Nat.lt_succ_self _),?_⟩
         ·simp only at hn' ⊢;omega
         ·simp only at hn' ⊢;omega
         ·refine aF.of (bk ?_) (OLe.cP _) (fun x hx=>hx) (Nat.le_refl _) (Nat.le_refl _)
          simp only[av,go_sem,reduceIte,Nat.reduceEqDiff,Nat.reduceAdd,bx,e1];and_intros<;>first|exact trivial|exact ag.refl _|exact ag.any _|(refine ag.int ?_;omega)
        ·refine hext (fun j h1 h2=>by simp only[upd];(repeat rw[if_neg (by omega)])) (fun j hj=>by simp only[upd];(repeat rw[if_neg (by omega)]);exact hO.1 j (by show n≤j;omega)) (by omega) (by omega)
       ·have hb:gF B a=none:=by
         rw[hvt]
         unfold tx
         rw[if_neg c6];rfl
        have hx:=nC B hB (a+1+k1+8+11+2) k5 c5 hk5 c6
        refine Wp.seq (Wp.lB ?_)
        refine ay.eval (aZ (by simp only[go_sem,reduceIte,Nat.reduceEqDiff,Nat.reduceAdd,bx,ax,if_true,if_false,Nat.reduceMul,Nat.reduceLeDiff,gs,hs3,s3,n3,hn3,ns,p3,hp3,ps,pn,pn'];exact rfl)) ?_
        refine ay.cT xA2 (by simp only[go_sem,reduceIte,Nat.reduceEqDiff,Nat.reduceAdd,bx,List.map];exact af.refl _) (by simp only[upd,n3,p3,if_false,if_true]) (hc5) fun m5 hm5=>?_
        simp only at hm5
        refine ay.span (by simp only[go_sem,reduceIte,Nat.reduceEqDiff,Nat.reduceAdd,bx,List.map];exact af.refl _) (by simp only[upd,if_true]) (hx) (by simp only[eP,gu,da,eB,bg,bf,tmpsOf,List.filterMap_cons,List.filterMap_nil,List.contains_cons,List.contains_nil,List.any_cons,List.any_nil,List.elem_cons,List.elem_nil,Option.toList_some,Option.toList_none,List.singleton_append,Prod.mk.injEq,Nat.reduceBEq,Bool.or_false,Bool.false_or,Bool.true_or,Bool.or_true,Bool.and_true,Bool.true_and,Bool.not_true,Bool.not_false,go_sem,reduceIte,Nat.reduceEqDiff,Nat.reduceAdd,bx,ax,if_true,if_false,Nat.reduceMul,Nat.reduceLeDiff,gs,hs3,s3,n3,ns];exact rfl) (by simp[ar,apart,aC,gs,hs3,s3,n3,ns] <;>omega) (dQ rfl (by simp[aC])) ?_
        exact fun n7 m7 h1 h2=>by
         simp only at h1 h2
         exact hpan (hext (fun j h1 h2=>by simp only[upd];(repeat rw[if_neg (by omega)])) (fun j hj=>by simp only[upd];(repeat rw[if_neg (by omega)]);exact hO.1 j (by show n≤j;omega)) (by omega) (by omega)) hb
      ·have hb:gF B a=none:=by
        rw[hvt]
        unfold nn
        rw[if_neg c5];rfl
       have hx:=fI B hB (a+1+k1+8+11) 2 c4 (by decide) c5
       rw[hl2] at hx
       refine Wp.seq (Wp.lB ?_)
       refine ay.eval (aZ (by simp only[go_sem,reduceIte,Nat.reduceEqDiff,Nat.reduceAdd,bx,ax,if_true,if_false,Nat.reduceMul,Nat.reduceLeDiff,gs,hs3,s3,n3,hn3,ns,p3,hp3,ps,pn,pn'];exact rfl)) ?_
       refine ay.span (by simp only[go_sem,reduceIte,Nat.reduceEqDiff,Nat.reduceAdd,bx,List.map];exact af.refl _) (by simp only[upd,n3,p3,if_false,if_true]) (hx) (by simp only[eP,gu,da,eB,bg,bf,tmpsOf,List.filterMap_cons,List.filterMap_nil,List.contains_cons,List.contains_nil,List.any_cons,List.any_nil,List.elem_cons,List.elem_nil,Option.toList_some,Option.toList_none,List.singleton_append,Prod.mk.injEq,Nat.reduceBEq,Bool.or_false,Bool.false_or,Bool.true_or,Bool.or_true,Bool.and_true,Bool.true_and,Bool.not_true,Bool.not_false,go_sem,reduceIte,Nat.reduceEqDiff,Nat.reduceAdd,bx,ax,if_true,if_false,Nat.reduceMul,Nat.reduceLeDiff,gs,hs3,s3,n3,ns];exact rfl) (by simp[ar,apart,aC,gs,hs3,s3,n3,ns] <;>omega) (dQ rfl (by simp[aC])) ?_
       exact fun n7 m7 h1 h2=>by
        simp only at h1 h2
        exact hpan (hext (fun j h1 h2=>by simp only[upd];(repeat rw[if_neg (by omega)])) (fun j hj=>by simp only[upd];(repeat rw[if_neg (by omega)]);exact hO.1 j (by show n≤j;omega)) (by omega) (by omega)) hb
     ·have hb:gF B a=none:=by
       rw[hvt]
       unfold tx
       rw[if_neg c4];rfl
      have hx:=nC B hB (a+1+k1+8) 11 c3 (by decide) c4
      rw[hl11] at hx
      refine Wp.seq (Wp.yY (aR.eval (log:=[]) (aZ (by simp only[go_sem,reduceIte,Nat.reduceEqDiff,Nat.reduceAdd,bx,ax,if_true,if_false,Nat.reduceMul,Nat.reduceLeDiff,gs,hs3,s3,n3,ns];exact rfl)) (aR.span (by simp only[go_sem,reduceIte,Nat.reduceEqDiff,Nat.reduceAdd,bx,List.map];exact af.refl _) (by simp only[upd,n3,if_false,if_true]) (hx))) ?_)
      exact hpan (hext (fun j h1 h2=>by simp only[upd];(repeat rw[if_neg (by omega)])) (fun j hj=>by simp only[upd];(repeat rw[if_neg (by omega)]);exact hO.1 j (by show n≤j;omega)) (by omega) (by omega)) hb
    ·have hb:gF B a=none:=by
      unfold gF nu
      rw[y1]
      simp only[Option.bind_some]
      rw[y2]
      simp only[Option.bind_some]
      rw[if_neg c3];rfl
     have hx:=fI B hB (a+1+k1) 8 c2 (by decide) c3
     rw[hl8] at hx
     refine Wp.seq (Wp.lB ?_)
     refine ay.eval (aZ (by simp only[go_sem,reduceIte,Nat.reduceEqDiff,Nat.reduceAdd,bx,ax,if_true,if_false,Nat.reduceMul,Nat.reduceLeDiff,gs];exact rfl)) ?_
     refine ay.cT xA2 (by simp only[go_sem,reduceIte,Nat.reduceEqDiff,Nat.reduceAdd,bx,List.map];exact af.refl _) (g3) (hc1) fun m1 hm1=>?_
     refine ay.cT xA2 (by simp only[go_sem,reduceIte,Nat.reduceEqDiff,Nat.reduceAdd,bx,List.map];exact af.refl _) (by simp only[upd,if_true]) (hc2) fun m2 hm2=>?_
     simp only at hm1 hm2
     refine ay.eval (aZ (by simp only[go_sem,reduceIte,Nat.reduceEqDiff,Nat.reduceAdd,bx,ax,if_true,if_false,Nat.reduceMul,Nat.reduceLeDiff,gs,hs3,s3];exact rfl)) ?_
     simp only[fV]
     refine ay.span (by simp only[go_sem,reduceIte,Nat.reduceEqDiff,Nat.reduceAdd,bx,List.map];exact af.refl _) (by simp only[upd,if_true]) (hx) (by simp only[eP,gu,da,eB,bg,bf,tmpsOf,List.filterMap_cons,List.filterMap_nil,List.contains_cons,List.contains_nil,List.any_cons,List.any_nil,List.elem_cons,List.elem_nil,Option.toList_some,Option.toList_none,List.singleton_append,Prod.mk.injEq,Nat.reduceBEq,Bool.or_false,Bool.false_or,Bool.true_or,Bool.or_true,Bool.and_true,Bool.true_and,Bool.not_true,Bool.not_false,go_sem,reduceIte,Nat.reduceEqDiff,Nat.reduceAdd,bx,ax,if_true,if_false,Nat.reduceMul,Nat.reduceLeDiff,gs,hs3,s3,n3,ns];exact rfl) (by simp[ar,apart,aC,gs,hs3,s3,n3,ns] <;>omega) (dQ rfl (by simp[aC,hz])) ?_
     exact fun n4 m4 h1 h2=>hpan (hsrc _ h1 (by simp only at h2;omega)) hb
   ·have hb:gF B a=none:=by
     unfold gF tx
     rw[y1]
     simp only[Option.bind_some]
     rw[if_neg c2];rfl
    have hx:=nC B hB (a+1) k1 c1 hk1 c2
    refine Wp.seq (Wp.lB ?_)
    refine ay.eval (aZ (by simp only[go_sem,reduceIte,Nat.reduceEqDiff,Nat.reduceAdd,bx,ax,if_true,if_false,Nat.reduceMul,Nat.reduceLeDiff,gs];exact rfl)) ?_
    refine ay.cT xA2 (by simp only[go_sem,reduceIte,Nat.reduceEqDiff,Nat.reduceAdd,bx,List.map];exact af.refl _) (g3) (hc1) fun m1 hm1=>?_
    simp only at hm1
    refine ay.span (by simp only[go_sem,reduceIte,Nat.reduceEqDiff,Nat.reduceAdd,bx,List.map];exact af.refl _) (by simp only[upd,if_true]) (hx) (by simp only[eP,gu,da,eB,bg,bf,tmpsOf,List.filterMap_cons,List.filterMap_nil,List.contains_cons,List.contains_nil,List.any_cons,List.any_nil,List.elem_cons,List.elem_nil,Option.toList_some,Option.toList_none,List.singleton_append,Prod.mk.injEq,Nat.reduceBEq,Bool.or_false,Bool.false_or,Bool.true_or,Bool.or_true,Bool.and_true,Bool.true_and,Bool.not_true,Bool.not_false,go_sem,reduceIte,Nat.reduceEqDiff,Nat.reduceAdd,bx,ax,if_true,if_false,Nat.reduceMul,Nat.reduceLeDiff,gs,hs3,s3,n3,ns];exact rfl) (by simp[ar,apart,aC,gs,hs3,s3,n3,ns] <;>omega) (dQ rfl (by simp[aC,hz])) ?_
    exact fun n4 m4 h1 h2=>hpan (hsrc _ h1 (by simp only at h2;omega)) hb
  ·have hb:gF B a=none:=by
    unfold gF nn
    rw[if_neg c1];rfl
   have hx:=fI B hB a 1 ha (by decide) c1
   rw[hl1] at hx
   refine Wp.seq (Wp.lB ?_)
   refine ay.eval (aZ (by simp only[go_sem,reduceIte,Nat.reduceEqDiff,Nat.reduceAdd,bx,ax,if_true,if_false,Nat.reduceMul,Nat.reduceLeDiff,gs];exact rfl)) ?_
   refine ay.span (by simp only[go_sem,reduceIte,Nat.reduceEqDiff,Nat.reduceAdd,bx,List.map];exact af.refl _) (g3) (hx) (by simp only[eP,gu,da,eB,bg,bf,tmpsOf,List.filterMap_cons,List.filterMap_nil,List.contains_cons,List.contains_nil,List.any_cons,List.any_nil,List.elem_cons,List.elem_nil,Option.toList_some,Option.toList_none,List.singleton_append,Prod.mk.injEq,Nat.reduceBEq,Bool.or_false,Bool.false_or,Bool.true_or,Bool.or_true,Bool.and_true,Bool.true_and,Bool.not_true,Bool.not_false,go_sem,reduceIte,Nat.reduceEqDiff,Nat.reduceAdd,bx,ax,if_true,if_false,Nat.reduceMul,Nat.reduceLeDiff,gs,hs3,s3];exact rfl) (by simp[ar,apart,aC,gs,hs3,s3] <;>omega) (dQ rfl (by simp[aC,hzn])) ?_
   exact fun n2 m2 h1 h2=>hpan (Ext.more hO h1 h2) hb
 ·have hjk:j=k:=by omega
  subst hjk
  have ig:=ik j
  refine Wp.au (by simp only[go_sem,reduceIte,Nat.reduceEqDiff,Nat.reduceAdd,bx,ax,if_true,if_false,Nat.reduceMul,Nat.reduceLeDiff,ig];exact rfl) ?_
  refine ab.nil ?_
  refine Wp.seq ?_
  refine Wp.cond_false (by simp only[go_sem,reduceIte,Nat.reduceEqDiff,Nat.reduceAdd,bx,ig]) ?_
  refine Wp.exit ?_
  show QV B a0 j Inv .normal _
  unfold QV
  rw[hv]
  exact ⟨rfl,hI,hO,g3⟩
theorem GR (k:Int) (n m:Nat):aN Tryz.prog 106 [.ptr 3 0,.int .i64 k] (.only ah [] n m) (.clo (.func 154) [] [.ptr (n+1) 0,.ptr n 0]) (.only (upd (upd ah n (some (.cells [.ptr 3 0]))) (n+1) (some (.cells [.int .i64 k]))) [] (n+2) m):=by
 refine aI.mq f106 (by simp) ?_
 unfold He
 simp only[C.zz]
 refine fQ ?_
 exact Wp.ret ⟨trivial,_,rfl,ag.refl _,rfl⟩
theorem GS (k:Int) (n m:Nat):aN Tryz.prog 58 [.ptr 3 0,.int .i64 k] (.only ah [] n m) (.clo (.func 105) [] [.ptr (n+1) 0,.ptr n 0]) (.only (upd (upd ah n (some (.cells [.ptr 3 0]))) (n+1) (some (.cells [.int .i64 k]))) [] (n+2) m):=by
 refine aI.mq f58 (by simp) ?_
 unfold c58
 simp only[C.zz]
 refine fQ ?_
 exact Wp.ret ⟨trivial,_,rfl,ag.refl _,rfl⟩
structure uw (hr:H) (L:Nat) (lp:Av.Obj) (nm:List UInt8) (st:Int) (l:List Vs) (h:H):Prop where
 e:Ext hr h
 x:∃tk,h.objs hr.n=some (.cells [.str nm,.int .i64 st,.sl 8 (vss l) (.own tk)])∧tk∈h.toks∧hr.m≤tk
 lp:h.objs L=some lp
 n:L<h.n
theorem uw.up {hr:H} {L:Nat} {lp:Av.Obj} {nm:List UInt8} {st:Int} {l:List Vs} {h h':H} (hL:hr.n<L) (h3:3<hr.n) (I:uw hr L lp nm st l h) (E:Ext h h'):uw hr L lp nm st l h':=by
 obtain ⟨tk,a,b,c⟩:=I.x
 have hn:=I.n
 exact ⟨I.e.trans E,⟨tk,(E.o _ (by omega) (by omega)).trans a,E.t _ b,c⟩,(E.o _ hn (by omega)).trans I.lp,Nat.lt_of_lt_of_le hn E.n⟩
def IH:AC:= .reg [⟨some 5,none,.alloc [.str [],.int .i64 0,.int .i64 0,.int .i64 0,.int .i64 0,.bool false,.bool false,.str []]⟩,⟨none,none,.store 8 (.t 5) (.t 20)⟩] none
def II:AC:= .block 3 (.reg [⟨some 21,none,.faddr 2 (.t 4)⟩,⟨some 22,none,.load none (.t 21)⟩,⟨some 23,none,.load (some 8) (.t 5)⟩,⟨some 24,none,.buildSl 8 [(.t 23)]⟩,⟨some 25,none,.app false 8 72 (.t 22) (.t 24)⟩,⟨some 26,none,.faddr 2 (.t 4)⟩,⟨none,none,.store 1 (.t 26) (.t 25)⟩] none)
set_option maxHeartbeats 2000000 in
theorem GU {hr:H} (hk:HOk hr) (h3:3<hr.n) {L:Nat} (hL:hr.n<L) {tt:Tm} {asg body:Code}
  (a1:cCode Tryz.prog 32 asg=some IH) (a2:cCode Tryz.prog 32 body=some II) (a3:dO asg=true) (a4:dO body=true) (t4:tt 4= .ptr hr.n 0) {nm:List UInt8} {st:Int} {sb:Nat} (hsb:sb≠hr.n) (hsL:sb≠L) {k:Nat} (hkk:k≤4294967295)
  (l:List Vs) (v:Vs) (h:H) (hl:l.length<k) (I:uw hr L (.loop 32 tt [20] asg body .ready none) nm st l h) (hO:HOk h) (hsn:sb<h.n):
  ji Tryz.prog L [cM v] h fun r h'=>r= .bool true∧uw hr L (.loop 32 tt [20] asg body .ready none) nm st (l++[v]) h'∧HOk h'∧h'.objs 3=h.objs 3∧h'.objs sb=h.objs sb:=by
 obtain ⟨G,n1,K1,m1⟩:=h
 obtain ⟨tk,gx,gt,gm⟩:=I.x
 have gl:=I.lp
 have gn:=I.n
 have gE:=I.e
 simp only at gx gt gl gn hsn
 refine lD (t:=tt) (ps:=[20]) gl a1 a2 a3 a4 rfl (by simp) ?_
 unfold IH II
 have hvs:cM v= .agg [.str v.o,.int .i64 v.id,.int .i64 v.sz,.int .i64 v.re,.int .i64 v.im,.bool v.g,.bool v.u,.str v.b]:=rfl
 have nL:¬(L=n1):=by omega
 have nr:¬(hr.n=n1):=by omega
 have rL:¬(hr.n=L):=by omega
 have Lr:¬(L=hr.n):=by omega
 have n1r:¬(n1=hr.n):=by omega
 have n1L:¬(n1=L):=by omega
 have lv:=eG l
 have e6:(l.length+1)*72≤140737488355328:=by omega
 have e7:l.length+1<4611686018427387904:=by omega
 rw[hvs]
 refine Wp.bJ (by simp only[go_sem,reduceIte,Nat.reduceEqDiff,Nat.reduceAdd,bx,ax,if_true,if_false,Nat.reduceMul,Nat.reduceLeDiff,iG];exact rfl) ?_
 refine ab.nil ?_
 refine ⟨rfl,tt,by simp only[upd,nL,if_false];exact gl,?_⟩
 refine Wp.block ?_
 refine Wp.bJ (by simp only[go_sem,reduceIte,Nat.reduceEqDiff,Nat.reduceAdd,bx,ax,if_true,if_false,Nat.reduceMul,Nat.reduceLeDiff,iG,t4,gx,nL,nr,rL,Lr,n1r,n1L,lv,e6,e7,gt,List.length_cons,List.length_nil,and_self];exact rfl) ?_
 refine ab.nil ?_
 simp only[aA.inBlock]
 have hOk:∀(Z C X R:Option Av.Obj),HOk ⟨upd (upd (upd (upd (upd G n1 Z) n1 C) L X) hr.n R) L (some (.loop 32 tt [20] asg body .ready none)),n1+1,m1::List.filter (fun x=>decide ¬x=tk) K1,m1+1⟩:=fun Z C X R=>by
  refine ⟨fun j hj=>?_,fun t ht=>?_⟩
  ·have hj:n1+1≤j:=hj
   simp only[upd]
   (repeat rw[if_neg (by omega)])
   exact hO.1 j (by show n1≤j;omega)
  ·rcases List.mem_cons.1 ht with rfl|ht
   ·exact Nat.lt_succ_self _
   ·have:=hO.2 t (List.mem_filter.1 ht).1
    simp only at this ⊢;omega
 refine ⟨tt,true,.ready,none,by simp only[upd,Lr,if_false,if_true],.normal,fun _ _=>⟨rfl,?_,?_,?_,?_⟩⟩
 ·refine ⟨⟨fun j hj hj3=>?_,?_,?_,fun t ht=>?_,?_⟩,⟨m1,?_,List.mem_cons_self,?_⟩,by simp only[upd,if_true],by simp only;omega⟩
  ·simp only[upd]
   (repeat rw[if_neg (by omega)])
   exact gE.o j hj hj3
  ·have:=gE.n;simp only at this ⊢;omega
  ·have:=gE.m;simp only at this ⊢;omega
  ·have h1:=gE.t t ht
   have h2:=hk.2 t ht
   refine List.mem_cons_of_mem _ (List.mem_filter.2 ⟨h1,?_⟩)
   have:t≠tk:=by omega
   simpa using this
  ·exact hOk _ _ _ _
  ·simp only[upd,rL,if_false,if_true]
   simp[vss,cM]
  ·have:=gE.m;simp only at this;omega
 ·exact hOk _ _ _ _
 ·simp only[upd]
  (repeat rw[if_neg (by omega)])
 ·simp only[upd]
  (repeat rw[if_neg (by omega)])
theorem Fc {B:List UInt8} {a:Nat} {x:Vs × Nat} (h:gF B a=some x):x.2≤B.length:=by
 unfold gF at h
 obtain ⟨x1,p1,h⟩:=Option.bind_eq_some_iff.1 h
 obtain ⟨x2,p2,h⟩:=Option.bind_eq_some_iff.1 h
 obtain ⟨x3,p3,h⟩:=Option.bind_eq_some_iff.1 h
 obtain ⟨x4,p4,h⟩:=Option.bind_eq_some_iff.1 h
 split at h
 ·obtain ⟨x5,p5,h⟩:=Option.bind_eq_some_iff.1 h
  obtain ⟨x6,p6,h⟩:=Option.bind_eq_some_iff.1 h
  cases h
  obtain ⟨-,-,e,b⟩:=jv p6
  simp only;omega
 ·cases h
theorem Dh {B:List UInt8} {a0:Nat} (ha:a0≤B.length):∀(j:Nat) {x:List Vs × Nat},vr B a0 j=some x→x.2≤B.length
 |0,x,h=>by
  simp only[vr,Option.some.injEq] at h
  subst h;exact ha
 |j+1,x,h=>by
  simp only[vr] at h
  obtain ⟨y,hy,h⟩:=Option.bind_eq_some_iff.1 h
  obtain ⟨z,hz,rfl⟩:=Option.map_eq_some_iff.1 h
  exact Fc hz
theorem Di {α:Type} {f:Nat→α} {i j:Nat} {a b:α} (h:¬(i=j)):upd (upd f i a) j b=upd (upd f j b) i a:=by
 funext k
 simp only[upd]
 by_cases h1:k=i
 ·subst h1
  rw[if_neg h,if_pos rfl,if_pos rfl]
 ·rw[if_neg h1,if_neg h1]
def QB (B:List UInt8) (a0 k:Nat) (Inv:List Bk→H→Prop):aA→St→Prop:=fun e s'=>match br B a0 k with
 |some x=>e= .normal∧Inv x.1 s'.h∧HOk s'.h∧s'.h.objs 3=some (cS B x.2)
 |none=>e= .panic v4∧∃l,Inv l s'.h
theorem GV {B:List UInt8} {a0 k j:Nat} {Inv:List Bk→H→Prop} (hj:j≤k) (h:br B a0 j=none) {s':St} {l:List Bk} (hI:Inv l s'.h):QB B a0 k Inv (.panic v4) s':=by
 have:=xV h (k - j)
 rw[show j+(k - j)=k by omega] at this
 unfold QB
 rw[this]
 exact ⟨rfl,l,hI⟩
theorem wJ {l:List UInt8} {w:Nat} (h:l.length≤w) (hw:w≤4):Batch.val l≤4294967295:=by
 have h1:=Batch.fL l
 have h2:(256:Nat)^l.length≤256^4:=Nat.pow_le_pow_right (by omega) (by omega)
 have e1:(256:Nat)^4=4294967296:=by decide
 omega
set_option maxHeartbeats 4000000 in
theorem IJ (B:List UInt8) (hB:B.length≤10000000) (id sb nb k:Nat) (hk:k≤4294967295) (a0:Nat) (ha0:a0≤B.length) (Inv:List Bk→H→Prop)
  (hup:∀l h h',Inv l h→Ext h h'→Inv l h')
  (hY:∀l v h,l.length<k→Inv l h→HOk h→ji Tryz.prog id [fe v] h fun r h'=>r= .bool true∧Inv (l++[v]) h'∧HOk h'∧h'.objs 3=h.objs 3∧h'.objs sb=h.objs sb)
  (h0:H) (hi:Inv [] h0) (hok:HOk h0) (h3:h0.objs 3=some (cS B a0)) (hsb:h0.objs sb=some (.cells [.ptr 3 0])) (hnb:h0.objs nb=some (.cells [.int .i64 k])) (hs3:sb≠3) (hsn:sb<h0.n) (hn5:3<h0.n):
  Wp Tryz.prog 32 F6 ⟨eh [.yld id,.ptr nb 0,.ptr sb 0],h0⟩ (QB B a0 k Inv):=by
 unfold F6
 simp only[C.zz]
 refine rf0 hnb ?_
 refine Wp.eN [0,2,6] xA7 (fun b:Nat × List Bk × Nat × H=>[(7,.int .i64 (b.1:Nat))]) (fun b=>b.2.2.2) (fun b=>b.1≤k∧br B a0 b.1=some (b.2.1,b.2.2.1)∧b.2.2.1≤B.length∧Inv b.2.1 b.2.2.2∧HOk b.2.2.2∧b.2.2.2.objs 3=some (cS B b.2.2.1)∧b.2.2.2.objs sb=some (.cells [.ptr 3 0])∧sb<b.2.2.2.n∧3<b.2.2.2.n) (fun b=>k - b.1) (0,[],a0,h0) ⟨Nat.zero_le _,rfl,ha0,hi,hok,h3,hsb,hsn,hn5⟩ rfl ?_ ?_
 ·exact xSb
 rintro ⟨j,l,a,F,n,K,m⟩ ⟨hj,hv,ha,hI,hO,g3,gs,hs,hn⟩
 simp only at hj hv ha hI hO g3 gs hs hn
 by_cases hc:j<k
 ·have d1:decide ((j:Int)<(k:Int))=true:=decide_eq_true (by omega)
  have hnext:br B a0 (j+1)=(iu B a).map fun y=>(l++[y.1],y.2):=by
   simp only[br]
   rw[hv];rfl
  have bad:iu B a=none→br B a0 (j+1)=none:=fun hb=>by rw[hnext,hb];rfl
  have hpan:∀{h':H},Ext ⟨F,n,K,m⟩ h'→iu B a=none→QB B a0 k Inv (.panic v4) ⟨fun _=> .any,h'⟩:=fun he hb=>GV (by omega) (bad hb) (hup l _ _ hI he)
  have s3:¬(3=sb):=fun e=>hs3 e.symm
  have n3:¬(3=n):=by omega
  have ns:¬(sb=n):=by omega
  have hzn:F n=none:=hO.1 n (Nat.le_refl _)
  have hz:∀o:Av.Obj,upd F 3 (some o) n=none:=fun o=>by
   simp only[upd]
   rw[if_neg (by omega)]
   exact hO.1 n (Nat.le_refl _)
  have hsrc:∀(o:Av.Obj) {n' m':Nat},n≤n'→m≤m'→Ext ⟨F,n,K,m⟩ ⟨upd F 3 (some o),n',K,m'⟩:=fun o=>Ext.src hO hn o
  refine Wp.au (by simp only[go_sem,reduceIte,Nat.reduceEqDiff,Nat.reduceAdd,bx,ax,if_true,if_false,Nat.reduceMul,Nat.reduceLeDiff,d1];exact rfl) ?_
  refine ab.nil ?_
  refine Wp.seq ?_
  refine Wp.cond_true (by simp only[go_sem,reduceIte,Nat.reduceEqDiff,Nat.reduceAdd,bx,d1]) ?_
  refine Wp.skip ?_
  refine Wp.seq (Wp.block ?_)
  have hl1:((1:Nat):Int)=1:=rfl
  have hl4:((4:Nat):Int)=4:=rfl
  by_cases c1:a+1≤B.length
  ·have hc1:=gH B hB a 1 (by decide) c1
   rw[hl1] at hc1
   have y1:nn B a 1=some (val ((B.drop a).take 1),a+1):=by unfold nn;rw[if_pos c1]
   have hk1:val ((B.drop a).take 1)≤4294967295:=wJ (w:=1) (by rw[List.length_take];omega) (by decide)
   generalize val ((B.drop a).take 1)=k1 at*
   by_cases c2:a+1+k1≤B.length
   ·have hc2:=nB B hB (a+1) k1 c2
    have y2:tx B (a+1) k1=some ((B.drop (a+1)).take k1,a+1+k1):=by unfold tx;rw[if_pos c2]
    generalize (B.drop (a+1)).take k1=so at*
    by_cases c3:a+1+k1+1≤B.length
    ·have hc3:=gH B hB (a+1+k1) 1 (by decide) c3
     rw[hl1] at hc3
     have y3:nn B (a+1+k1) 1=some (val ((B.drop (a+1+k1)).take 1),a+1+k1+1):=by unfold nn;rw[if_pos c3]
     generalize val ((B.drop (a+1+k1)).take 1)=st at*
     have hvt:iu B a=(nn B (a+1+k1+1) 4).bind fun x4=>(vr B x4.2 x4.1).bind fun x5=>some (⟨so,(st:Nat),x5.1⟩,x5.2):=by
      unfold iu
      rw[y1]
      simp only[Option.bind_some]
      rw[y2]
      simp only[Option.bind_some]
      rw[y3]
      simp only[Option.bind_some]
     have hn3:¬(n=3):=by omega
     have p3:¬(3=n+1):=by omega
     have hp3:¬(n+1=3):=by omega
     have ps:¬(sb=n+1):=by omega
     have pn:¬(n=n+1):=by omega
     have pn':¬(n+1=n):=by omega
     refine Wp.aG (by simp only[go_sem,reduceIte,Nat.reduceEqDiff,Nat.reduceAdd,bx,ax,if_true,if_false,Nat.reduceMul,Nat.reduceLeDiff,gs];exact rfl) ?_
     refine ae.cT xA2 (by simp only[go_sem,reduceIte,Nat.reduceEqDiff,Nat.reduceAdd,bx,List.map];exact af.refl _) (g3) (hc1) fun m1 hm1=>?_
     refine ae.cT xA2 (by simp only[go_sem,reduceIte,Nat.reduceEqDiff,Nat.reduceAdd,bx,List.map];exact af.refl _) (by simp only[upd,if_true]) (hc2) fun m2 hm2=>?_
     simp only at hm1 hm2
     refine ae.evR (by simp only[go_sem,reduceIte,Nat.reduceEqDiff,Nat.reduceAdd,bx,gs,hs3,s3];exact rfl) ?_
     refine ae.cT xA2 (by simp only[go_sem,reduceIte,Nat.reduceEqDiff,Nat.reduceAdd,bx,List.map];exact af.refl _) (by simp only[upd,if_true]) (hc3) fun m3 hm3=>?_
     simp only at hm3
     refine ae.evR xA1 ?_
     refine ae.nil ⟨by simp[aJ,ar,apart,aC,s3,hs3,n3,ns] <;>omega,?_⟩
     simp only[fV]
     refine Wp.seq ?_
     by_cases c4:a+1+k1+1+4≤B.length
     ·have hc4:=gH B hB (a+1+k1+1) 4 (by decide) c4
      rw[hl4] at hc4
      have y4:nn B (a+1+k1+1) 4=some (val ((B.drop (a+1+k1+1)).take 4),a+1+k1+1+4):=by unfold nn;rw[if_pos c4]
      have hk4:val ((B.drop (a+1+k1+1)).take 4)≤4294967295:=wJ (w:=4) (by rw[List.length_take];omega) (by decide)
      rw[y4] at hvt
      simp only[Option.bind_some] at hvt
      generalize val ((B.drop (a+1+k1+1)).take 4)=k4 at*
      refine Wp.aG (by simp only[go_sem,reduceIte,Nat.reduceEqDiff,Nat.reduceAdd,bx,ax,if_true,if_false,Nat.reduceMul,Nat.reduceLeDiff,gs,hs3,s3,n3,hn3,ns];exact rfl) ?_
      refine ae.cT xA2 (by simp only[go_sem,reduceIte,Nat.reduceEqDiff,Nat.reduceAdd,bx,List.map];exact af.refl _) (by simp only[upd,n3,if_false,if_true]) (hc4) fun m4 hm4=>?_
      simp only at hm4
      refine ae.fc xA2 (by simp only[go_sem,reduceIte,Nat.reduceEqDiff,Nat.reduceAdd,bx,List.map];exact af.refl _) (GR (k4:Nat) _ _) (pc _ _ _) ?_
      refine ae.nil ⟨by simp[aJ,ar,apart,aC,s3,hs3,n3,ns] <;>omega,?_⟩
      refine Wp.block ?_
      refine Wp.le (aF.tok _ _) ?_
      have hsub:cK (.cells [.str so,.int .i64 (st:Nat),.sl 8 [] (.exact 0)]) (.cells [.str so,.int .i64 (st:Nat),.sl 8 [] (.own m4)]):=af.cons (ag.refl _) (af.cons (ag.refl _) (af.cons (ag.dF rfl) af.nil))
      refine Wp.le (s':=⟨tm [(0,.yld id),(2,.ptr sb 0),(6,.int .i64 (k:Nat)),(7,.int .i64 (j:Nat)),(4,.ptr n 0),(19,.clo (.func 154) [] [.ptr (n+1+1) 0,.ptr (n+1) 0])],⟨upd (upd (upd (upd F 3 (some (cS B (a+1+k1+1+4)))) n (some (.cells [.str so,.int .i64 (st:Nat),.sl 8 [] (.own m4)]))) (n+1) (some (.cells [.ptr 3 0]))) (n+1+1) (some (.cells [.int .i64 (k4:Nat)])),n+1+2,m4::K,m4+1⟩⟩) (aF.of (bk ?_) (by rw[Di hn3,fV];exact OLe.upd (OLe.upd (OLe.upd (OLe.cP _) hsub) (cK.refl _)) (cK.refl _)) (fun x hx=>hx) (Nat.le_refl _) (Nat.le_refl _)) ?_
      ·exact xSb
      obtain ⟨F1,hF1⟩:∃F1,F1=upd (upd (upd (upd F 3 (some (cS B (a+1+k1+1+4)))) n (some (.cells [.str so,.int .i64 (st:Nat),.sl 8 [] (.own m4)]))) (n+1) (some (.cells [.ptr 3 0]))) (n+1+1) (some (.cells [.int .i64 (k4:Nat)])):=⟨_,rfl⟩
      rw[←hF1]
      have b3:F1 3=some (cS B (a+1+k1+1+4)):=by rw[hF1];simp only[upd];rw[if_neg (by omega),if_neg (by omega),if_neg (by omega),if_pos trivial]
      have bn:F1 n=some (.cells [.str so,.int .i64 (st:Nat),.sl 8 [] (.own m4)]):=by rw[hF1];simp only[upd];rw[if_neg (by omega),if_neg (by omega),if_pos trivial]
      have b1:F1 (n+1)=some (.cells [.ptr 3 0]):=by rw[hF1];simp only[upd];rw[if_neg (by omega),if_pos trivial]
      have b2:F1 (n+1+1)=some (.cells [.int .i64 (k4:Nat)]):=by rw[hF1];simp only[upd];rw[if_pos trivial]
      have bo:∀j,j<n→j≠3→F1 j=F j:=fun j h1 h2=>by rw[hF1];simp only[upd];(repeat rw[if_neg (by omega)])
      have bz:∀j,n+3≤j→F1 j=none:=fun j hj=>by rw[hF1];simp only[upd];(repeat rw[if_neg (by omega)]);exact hO.1 j (by show n≤j;omega)
      clear hF1
      generalize hL:n+1+2=L at*
      have hmm:m≤m4:=by omega
      have hKm:∀t∈K,t<m:=hO.2
      have hE1:∀(lp:Av.Obj),Ext ⟨F,n,K,m⟩ ⟨upd F1 L (some lp),L+1,m4::K,m4+1⟩:=fun lp=>by
       refine ⟨fun j h1 h2=>?_,by show n≤L+1;omega,by show m≤m4+1;omega,fun t ht=>List.mem_cons_of_mem _ ht,⟨fun j hj=>?_,fun t ht=>?_⟩⟩
       ·have h1:j<n:=h1
        simp only[upd]
        rw[if_neg (by omega)]
        exact bo j h1 h2
       ·have hj:L+1≤j:=hj
        simp only[upd]
        rw[if_neg (by omega)]
        exact bz j (by omega)
       ·rcases List.mem_cons.1 ht with rfl|ht
        ·exact Nat.lt_succ_self _
        ·have:=hKm t ht
         show t<m4+1
         omega
      generalize hT:tm [(0,AV.yld id),(2,.ptr sb 0),(6,.int .i64 (k:Nat)),(7,.int .i64 (j:Nat)),(4,.ptr n 0),(19,.clo (.func 154) [] [.ptr (n+1+1) 0,.ptr (n+1) 0])]=tt at*
      have t4:tt 4= .ptr n 0:=by rw[←hT];rfl
      have t19:tt 19= .clo (.func 154) [] [.ptr (n+1+1) 0,.ptr (n+1) 0]:=by rw[←hT];rfl
      have WV:=fun (asg body:Code) a1 a2 a3 a4=>GQ B hB L (n+1) (n+1+1) k4 hk4 (a+1+k1+1+4) c4 (uw ⟨F,n,K,m⟩ L (.loop 32 tt [20] asg body .ready none) so (st:Nat))
       (fun l h h' I E=>I.up (by show n<L;omega) (by show 3<n;omega) E)
       (fun l v h hl I ho=>GU (sb:=n+1) hO (by show 3<n;omega) (by show n<L;omega) a1 a2 a3 a4 t4 (by show n+1≠n;omega) (by omega) hk4 l v h hl I ho (by have:=I.n;omega))
       ⟨upd F1 L (some (.loop 32 tt [20] asg body .ready none)),L+1,m4::K,m4+1⟩
       ⟨hE1 _,⟨m4,by simp only[upd];rw[if_neg (by omega)];exact bn,List.mem_cons_self,hmm⟩,by simp only[upd,if_true],Nat.lt_succ_self _⟩ (hE1 _).ok
       (by simp only[upd];rw[if_neg (by omega)];exact b3) (by simp only[upd];rw[if_neg (by omega)];exact b1) (by simp only[upd];rw[if_neg (by omega)];exact b2) (by omega) (by show n+1<L+1;omega) (by show 3<L+1;omega)
      cases hvr:vr B (a+1+k1+1+4) k4 with
      |none=>
       have hb:iu B a=none:=by rw[hvt,hvr];rfl
       refine Wp.xc (fi:=154) (first:=[]) (caps:=[.ptr (n+1+1) 0,.ptr (n+1) 0]) t19 (Tryz.func154) rfl (of_decide_eq_true (by kernel_rfl)) (bz L (by omega)) fun asg body a1 a2 a3 a4=>?_
       have W:=WV asg body a1 a2 a3 a4
       unfold QV at W
       rw[hvr] at W
       obtain ⟨v,h',bI,hnm,rfl,l2,hI2⟩:=aI.tg (Q:=fun v h'=>v=v4∧∃l,uw ⟨F,n,K,m⟩ L (.loop 32 tt [20] asg body .ready none) so (st:Nat) l h') f154 (by simp) (W.mono fun e s' hq=>⟨_,hq.1,rfl,hq.2⟩)
       obtain ⟨f2,n2,T2,m2'⟩:=h'
       exact ⟨v4,f2,n2,T2,m2',bI,hnm.1,by have:=hnm.2;simp only at this;omega,hpan hI2.e hb⟩
      |some x=>
       have hb:iu B a=some (⟨so,(st:Nat),x.1⟩,x.2):=by rw[hvt,hvr];rfl
       refine Wp.Bm (fi:=154) (first:=[]) (caps:=[.ptr (n+1+1) 0,.ptr (n+1) 0]) t19 (Tryz.func154) rfl (of_decide_eq_true (by kernel_rfl)) (bz L (by omega)) fun asg body a1 a2 a3 a4=>?_
       have W:=WV asg body a1 a2 a3 a4
       unfold QV at W
       rw[hvr] at W
       refine (aI.fJ (Q:=fun _ h'=>uw ⟨F,n,K,m⟩ L (.loop 32 tt [20] asg body .ready none) so (st:Nat) x.1 h'∧HOk h'∧h'.objs 3=some (cS B x.2)) f154 (by simp) (W.mono fun e s' hq=>⟨gD hq.1,_,rfl,hq.2⟩)).mono fun r h' hq=>?_
       obtain ⟨hI2,hO2,g32⟩:=hq
       refine ⟨tt,.ready,none,.normal,hI2.lp,by simp,.none,?_⟩
       obtain ⟨f2,n2,T2,m2'⟩:=h'
       obtain ⟨tk,gx,gt,gm⟩:=hI2.x
       have gn:=hI2.n
       have gE:=hI2.e
       simp only at gx gt gn g32
       have nL:¬(n=L):=by omega
       have L3:¬(3=L):=by omega
       have sL:¬(sb=L):=by omega
       have gsb:f2 sb=F sb:=gE.o sb hs hs3
       rw[←hT]
       show Wp Tryz.prog 32 _ _ _
       simp only
       refine Wp.au (by simp only[go_sem,reduceIte,Nat.reduceEqDiff,Nat.reduceAdd,bx,ax,if_true,if_false,Nat.reduceMul,Nat.reduceLeDiff,nL,gx];exact rfl) ?_
       refine (fun hE:Ext ⟨F,n,K,m⟩ ⟨fun j=>if j=L then none else f2 j,n2,T2,m2'⟩=>ab.yield (vals:=[fe ⟨so,(st:Nat),x.1⟩]) ?_ ?_ ?_ (hY l _ _ (by have:=wI _ hv;simp only at this;omega) (hup l _ _ hI hE) hE.ok) fun r h'' hq hn'' hm''=>?_) ?_
       ·simp only[go_sem,reduceIte,Nat.reduceEqDiff,Nat.reduceAdd,bx]
       ·simp only[go_sem,reduceIte,Nat.reduceEqDiff,Nat.reduceAdd,bx]
       ·simp only[go_sem,reduceIte,Nat.reduceEqDiff,Nat.reduceAdd,bx,List.map]
        exact af.cons (ag.agg (af.cons (ag.refl _) (af.cons (ag.refl _) (af.cons ag.cap af.nil)))) af.nil
       ·obtain ⟨rfl,q1,q2,q3,q4⟩:=hq
        simp only[L3,if_false] at q3
        simp only[sL,if_false] at q4
        refine ab.evF (by simp only[go_sem,reduceIte,Nat.reduceEqDiff,Nat.reduceAdd,bx,ax,if_true,if_false,Nat.reduceMul,Nat.reduceLeDiff,Bool.not_true];exact rfl) ?_
        refine rf0 @Bool.not_true ?_
        have e1:IntKind.i64.wrap ((j:Int)+1)=((j+1:Nat):Int):=by rw[IntWalk.i64_in _ (by omega)];omega
        refine ⟨(j+1,l++[⟨so,(st:Nat),x.1⟩],x.2,h''),⟨hc,by simp only;rw[hnext,hb];rfl,Dh c4 _ hvr,q1,q2,by rw[q3];exact g32,by rw[q4,gsb];exact gs,?_,?_⟩,Nat.sub_lt_sub_left hc (Nat.lt_succ_self _),?_⟩
        ·simp only at hn'' ⊢;omega
        ·simp only at hn'' ⊢;omega
        ·refine aF.of (bk ?_) (OLe.cP _) (fun x hx=>hx) (Nat.le_refl _) (Nat.le_refl _)
         simp only[av,go_sem,reduceIte,Nat.reduceEqDiff,Nat.reduceAdd,bx,e1];and_intros<;>first|exact trivial|exact ag.refl _|exact ag.any _|(refine ag.int ?_;omega)
       ·refine ⟨fun j h1 h2=>?_,gE.n,gE.m,gE.t,⟨fun j hj=>?_,hO2.2⟩⟩
        ·have h1:j<n:=h1
         simp only
         rw[if_neg (by omega)]
         exact gE.o j h1 h2
        ·have hj:n2≤j:=hj
         simp only
         rw[if_neg (by omega)]
         exact hO2.1 j hj
     ·have hb:iu B a=none:=by
       rw[hvt]
       unfold nn
       rw[if_neg c4];rfl
      have hx:=fI B hB (a+1+k1+1) 4 c3 (by decide) c4
      rw[hl4] at hx
      refine Wp.seq (Wp.lB ?_)
      refine ay.eval (aZ (by simp only[go_sem,reduceIte,Nat.reduceEqDiff,Nat.reduceAdd,bx,ax,if_true,if_false,Nat.reduceMul,Nat.reduceLeDiff,gs,hs3,s3,n3,hn3,ns];exact rfl)) ?_
      refine ay.span (by simp only[go_sem,reduceIte,Nat.reduceEqDiff,Nat.reduceAdd,bx,List.map];exact af.refl _) (by simp only[upd,n3,if_false,if_true]) (hx) (by simp only[eP,gu,da,eB,bg,bf,tmpsOf,List.filterMap_cons,List.filterMap_nil,List.contains_cons,List.contains_nil,List.any_cons,List.any_nil,List.elem_cons,List.elem_nil,Option.toList_some,Option.toList_none,List.singleton_append,Prod.mk.injEq,Nat.reduceBEq,Bool.or_false,Bool.false_or,Bool.true_or,Bool.or_true,Bool.and_true,Bool.true_and,Bool.not_true,Bool.not_false,go_sem,reduceIte,Nat.reduceEqDiff,Nat.reduceAdd,bx,ax,if_true,if_false,Nat.reduceMul,Nat.reduceLeDiff,gs,hs3,s3,n3,ns];exact rfl) (by simp[ar,apart,aC,gs,hs3,s3,n3,ns] <;>omega) (dQ rfl (by simp[aC])) ?_
      exact fun n7 m7 h1 h2=>by
       simp only at h1 h2
       exact hpan (Ext.of hO (fun j h1 h2=>by simp only[upd];(repeat rw[if_neg (by omega)])) (fun j hj=>by simp only[upd];(repeat rw[if_neg (by omega)]);exact hO.1 j (by show n≤j;omega)) (by omega) (by omega)) hb
    ·have hb:iu B a=none:=by
      unfold iu
      rw[y1]
      simp only[Option.bind_some]
      rw[y2]
      simp only[Option.bind_some]
      unfold nn
      rw[if_neg c3];rfl
     have hx:=fI B hB (a+1+k1) 1 c2 (by decide) c3
     rw[hl1] at hx
     refine Wp.seq (Wp.lB ?_)
     refine ay.eval (aZ (by simp only[go_sem,reduceIte,Nat.reduceEqDiff,Nat.reduceAdd,bx,ax,if_true,if_false,Nat.reduceMul,Nat.reduceLeDiff,gs];exact rfl)) ?_
     refine ay.cT xA2 (by simp only[go_sem,reduceIte,Nat.reduceEqDiff,Nat.reduceAdd,bx,List.map];exact af.refl _) (g3) (hc1) fun m1 hm1=>?_
     refine ay.cT xA2 (by simp only[go_sem,reduceIte,Nat.reduceEqDiff,Nat.reduceAdd,bx,List.map];exact af.refl _) (by simp only[upd,if_true]) (hc2) fun m2 hm2=>?_
     simp only at hm1 hm2
     refine ay.eval (aZ (by simp only[go_sem,reduceIte,Nat.reduceEqDiff,Nat.reduceAdd,bx,ax,if_true,if_false,Nat.reduceMul,Nat.reduceLeDiff,gs,hs3,s3];exact rfl)) ?_
     simp only[fV]
     refine ay.span (by simp only[go_sem,reduceIte,Nat.reduceEqDiff,Nat.reduceAdd,bx,List.map];exact af.refl _) (by simp only[upd,if_true]) (hx) (by simp only[eP,gu,da,eB,bg,bf,tmpsOf,List.filterMap_cons,List.filterMap_nil,List.contains_cons,List.contains_nil,List.any_cons,List.any_nil,List.elem_cons,List.elem_nil,Option.toList_some,Option.toList_none,List.singleton_append,Prod.mk.injEq,Nat.reduceBEq,Bool.or_false,Bool.false_or,Bool.true_or,Bool.or_true,Bool.and_true,Bool.true_and,Bool.not_true,Bool.not_false,go_sem,reduceIte,Nat.reduceEqDiff,Nat.reduceAdd,bx,ax,if_true,if_false,Nat.reduceMul,Nat.reduceLeDiff,gs,hs3,s3,n3,ns];exact rfl) (by simp[ar,apart,aC,gs,hs3,s3,n3,ns] <;>omega) (dQ rfl (by simp[aC,hz])) ?_
     exact fun n4 m4 h1 h2=>hpan (hsrc _ h1 (by simp only at h2;omega)) hb
   ·have hb:iu B a=none:=by
     unfold iu tx
     rw[y1]
     simp only[Option.bind_some]
     rw[if_neg c2];rfl
    have hx:=nC B hB (a+1) k1 c1 (by omega) c2
    refine Wp.seq (Wp.lB ?_)
    refine ay.eval (aZ (by simp only[go_sem,reduceIte,Nat.reduceEqDiff,Nat.reduceAdd,bx,ax,if_true,if_false,Nat.reduceMul,Nat.reduceLeDiff,gs];exact rfl)) ?_
    refine ay.cT xA2 (by simp only[go_sem,reduceIte,Nat.reduceEqDiff,Nat.reduceAdd,bx,List.map];exact af.refl _) (g3) (hc1) fun m1 hm1=>?_
    simp only at hm1
    refine ay.span (by simp only[go_sem,reduceIte,Nat.reduceEqDiff,Nat.reduceAdd,bx,List.map];exact af.refl _) (by simp only[upd,if_true]) (hx) (by simp only[eP,gu,da,eB,bg,bf,tmpsOf,List.filterMap_cons,List.filterMap_nil,List.contains_cons,List.contains_nil,List.any_cons,List.any_nil,List.elem_cons,List.elem_nil,Option.toList_some,Option.toList_none,List.singleton_append,Prod.mk.injEq,Nat.reduceBEq,Bool.or_false,Bool.false_or,Bool.true_or,Bool.or_true,Bool.and_true,Bool.true_and,Bool.not_true,Bool.not_false,go_sem,reduceIte,Nat.reduceEqDiff,Nat.reduceAdd,bx,ax,if_true,if_false,Nat.reduceMul,Nat.reduceLeDiff,gs,hs3,s3,n3,ns];exact rfl) (by simp[ar,apart,aC,gs,hs3,s3,n3,ns] <;>omega) (dQ rfl (by simp[aC,hz])) ?_
    exact fun n4 m4 h1 h2=>hpan (hsrc _ h1 (by simp only at h2;omega)) hb
  ·have hb:iu B a=none:=by
    unfold iu nn
    rw[if_neg c1];rfl
   have hx:=fI B hB a 1 ha (by decide) c1
   rw[hl1] at hx
   refine Wp.seq (Wp.lB ?_)
   refine ay.eval (aZ (by simp only[go_sem,reduceIte,Nat.reduceEqDiff,Nat.reduceAdd,bx,ax,if_true,if_false,Nat.reduceMul,Nat.reduceLeDiff,gs];exact rfl)) ?_
   refine ay.span (by simp only[go_sem,reduceIte,Nat.reduceEqDiff,Nat.reduceAdd,bx,List.map];exact af.refl _) (g3) (hx) (by simp only[eP,gu,da,eB,bg,bf,tmpsOf,List.filterMap_cons,List.filterMap_nil,List.contains_cons,List.contains_nil,List.any_cons,List.any_nil,List.elem_cons,List.elem_nil,Option.toList_some,Option.toList_none,List.singleton_append,Prod.mk.injEq,Nat.reduceBEq,Bool.or_false,Bool.false_or,Bool.true_or,Bool.or_true,Bool.and_true,Bool.true_and,Bool.not_true,Bool.not_false,go_sem,reduceIte,Nat.reduceEqDiff,Nat.reduceAdd,bx,ax,if_true,if_false,Nat.reduceMul,Nat.reduceLeDiff,gs,hs3,s3];exact rfl) (by simp[ar,apart,aC,gs,hs3,s3] <;>omega) (dQ rfl (by simp[aC,hzn])) ?_
   exact fun n2 m2 h1 h2=>hpan (Ext.more hO h1 h2) hb
 ·have hjk:j=k:=by omega
  subst hjk
  have ig:=ik j
  refine Wp.au (by simp only[go_sem,reduceIte,Nat.reduceEqDiff,Nat.reduceAdd,bx,ax,if_true,if_false,Nat.reduceMul,Nat.reduceLeDiff,ig];exact rfl) ?_
  refine ab.nil ?_
  refine Wp.seq ?_
  refine Wp.cond_false (by simp only[go_sem,reduceIte,Nat.reduceEqDiff,Nat.reduceAdd,bx,ig]) ?_
  refine Wp.exit ?_
  show QB B a0 j Inv .normal _
  unfold QB
  rw[hv]
  exact ⟨rfl,hI,hO,g3⟩
theorem Dl {B:List UInt8} {a:Nat} {x:Vs × Nat} (h:gF B a=some x):a+22≤x.2:=by
 unfold gF at h
 obtain ⟨x1,p1,h⟩:=Option.bind_eq_some_iff.1 h
 obtain ⟨x2,p2,h⟩:=Option.bind_eq_some_iff.1 h
 obtain ⟨x3,p3,h⟩:=Option.bind_eq_some_iff.1 h
 obtain ⟨x4,p4,h⟩:=Option.bind_eq_some_iff.1 h
 split at h
 ·obtain ⟨x5,p5,h⟩:=Option.bind_eq_some_iff.1 h
  obtain ⟨x6,p6,h⟩:=Option.bind_eq_some_iff.1 h
  cases h
  obtain ⟨-,e1,-⟩:=gG p1
  obtain ⟨-,-,e2,-⟩:=jv p2
  have e3:x3.2=x2.2+8:=by
   unfold nu at p3
   split at p3
   ·cases p3;rfl
   ·cases p3
  obtain ⟨-,-,e4,-⟩:=jv p4
  obtain ⟨-,e5,-⟩:=gG p5
  obtain ⟨-,-,e6,-⟩:=jv p6
  simp only;omega
 ·cases h
theorem xX {B:List UInt8} {a0:Nat}:∀(j:Nat) {x:List Vs × Nat},vr B a0 j=some x→a0+22*j≤x.2
 |0,x,h=>by
  simp only[vr,Option.some.injEq] at h
  subst h;simp
 |j+1,x,h=>by
  simp only[vr] at h
  obtain ⟨y,hy,h⟩:=Option.bind_eq_some_iff.1 h
  obtain ⟨z,hz,rfl⟩:=Option.map_eq_some_iff.1 h
  have:=xX j hy
  have:=Dl hz
  simp only;omega
theorem Dm {B:List UInt8} {a:Nat} {x:Bk × Nat} (h:iu B a=some x):22*x.1.l.length≤B.length∧x.2≤B.length:=by
 unfold iu at h
 obtain ⟨x1,p1,h⟩:=Option.bind_eq_some_iff.1 h
 obtain ⟨x2,p2,h⟩:=Option.bind_eq_some_iff.1 h
 obtain ⟨x3,p3,h⟩:=Option.bind_eq_some_iff.1 h
 obtain ⟨x4,p4,h⟩:=Option.bind_eq_some_iff.1 h
 obtain ⟨x5,p5,h⟩:=Option.bind_eq_some_iff.1 h
 cases h
 obtain ⟨-,e4,b4⟩:=gG p4
 have l5:=sB _ p5
 have r5:=xX _ p5
 have q5:=Dh (by omega) _ p5
 simp only
 rw[l5]
 omega
theorem sC {B:List UInt8} {a0:Nat} (ha:a0≤B.length):∀(j:Nat) {x:List Bk × Nat},br B a0 j=some x→(∀b∈x.1,22*b.l.length≤B.length)∧x.2≤B.length
 |0,x,h=>by
  simp only[br,Option.some.injEq] at h
  subst h;exact ⟨by simp,ha⟩
 |j+1,x,h=>by
  simp only[br] at h
  obtain ⟨y,hy,h⟩:=Option.bind_eq_some_iff.1 h
  obtain ⟨z,hz,rfl⟩:=Option.map_eq_some_iff.1 h
  obtain ⟨h1,-⟩:=sC ha j hy
  obtain ⟨h2,h3⟩:=Dm hz
  refine ⟨fun b hb=>?_,h3⟩
  rcases List.mem_append.1 hb with hb|hb
  ·exact h1 b hb
  ·simp only[List.mem_singleton] at hb;subst hb;exact h2
abbrev o1A:Av.Obj:= .cells [.sl 3 [] (.exact 0)]
structure ux (B:List UInt8) (L:Nat) (lp:Av.Obj) (bs:List Bk) (h:H):Prop where
 o0:h.objs 0=some (.cells [.sl 1 (al B) .any])
 o1:h.objs 1=some o1A
 o2:∃tk,h.objs 2=some (.cells [.sl 3 (bks bs) (.own tk)])∧tk∈h.toks
 o4:h.objs 4=some (.cells [.ptr 3 0])
 lp:h.objs L=some lp
 n:L<h.n
theorem ux.up {B:List UInt8} {L:Nat} {lp:Av.Obj} {bs:List Bk} {h h':H} (hL:4<L) (I:ux B L lp bs h) (E:Ext h h'):ux B L lp bs h':=by
 obtain ⟨tk,a,b⟩:=I.o2
 have hn:=I.n
 exact ⟨(E.o _ (by omega) (by omega)).trans I.o0,(E.o _ (by omega) (by omega)).trans I.o1,⟨tk,(E.o _ (by omega) (by omega)).trans a,E.t _ b⟩,(E.o _ (by omega) (by omega)).trans I.o4,(E.o _ hn (by omega)).trans I.lp,Nat.lt_of_lt_of_le hn E.n⟩
def IK:AC:= .reg [⟨some 3,none,.alloc [.str [],.int .i64 0,.sl 8 [] (.exact 0)]⟩,⟨none,none,.store 3 (.t 3) (.t 13)⟩] none
def FL:AC:= .block 1 (.reg [⟨some 14,none,.faddr 0 (.t 1)⟩,⟨some 15,none,.load none (.t 14)⟩,⟨some 16,none,.load (some 3) (.t 3)⟩,⟨some 17,none,.buildSl 3 [(.t 16)]⟩,⟨some 18,none,.app false 3 48 (.t 15) (.t 17)⟩,⟨some 19,none,.faddr 0 (.t 1)⟩,⟨none,none,.store 1 (.t 19) (.t 18)⟩] none)
set_option maxHeartbeats 2000000 in
theorem GW {B:List UInt8} {L:Nat} (hL:4<L) {tt:Tm} {asg body:Code} (a1:cCode Tryz.prog 45 asg=some IK) (a2:cCode Tryz.prog 45 body=some FL) (a3:dO asg=true) (a4:dO body=true) (t1:tt 1= .ptr 2 0) {sb:Nat} (hsb:sb≠2) (hsL:sb≠L) {k:Nat} (hkk:k≤4294967295)
  (l:List Bk) (v:Bk) (h:H) (hl:l.length<k) (I:ux B L (.loop 45 tt [13] asg body .ready none) l h) (hO:HOk h) (hsn:sb<h.n):
  ji Tryz.prog L [fe v] h fun r h'=>r= .bool true∧ux B L (.loop 45 tt [13] asg body .ready none) (l++[v]) h'∧HOk h'∧h'.objs 3=h.objs 3∧h'.objs sb=h.objs sb:=by
 obtain ⟨G,n1,K1,m1⟩:=h
 obtain ⟨tk,gx,gt⟩:=I.o2
 have gl:=I.lp
 have gn:=I.n
 simp only at gx gt gl gn hsn
 refine lD (t:=tt) (ps:=[13]) gl a1 a2 a3 a4 rfl (by simp) ?_
 unfold IK FL
 have hvs:fe v= .agg [.str v.n,.int .i64 v.st,.sl 8 (vss v.l) .any]:=rfl
 have nL:¬(L=n1):=by omega
 have nr:¬(2=n1):=by omega
 have rL:¬(2=L):=by omega
 have Lr:¬(L=2):=by omega
 have n1r:¬(n1=2):=by omega
 have n1L:¬(n1=L):=by omega
 have lv:=fq l
 have e6:(l.length+1)*48≤140737488355328:=by omega
 have e7:l.length+1<4611686018427387904:=by omega
 rw[hvs]
 refine Wp.bJ (by simp only[go_sem,reduceIte,Nat.reduceEqDiff,Nat.reduceAdd,bx,ax,if_true,if_false,Nat.reduceMul,Nat.reduceLeDiff,iG];exact rfl) ?_
 refine ab.nil ?_
 refine ⟨rfl,tt,by simp only[upd,nL,if_false];exact gl,?_⟩
 refine Wp.block ?_
 refine Wp.bJ (by simp only[go_sem,reduceIte,Nat.reduceEqDiff,Nat.reduceAdd,bx,ax,if_true,if_false,Nat.reduceMul,Nat.reduceLeDiff,iG,t1,gx,nL,nr,rL,Lr,n1r,n1L,lv,e6,e7,gt,List.length_cons,List.length_nil,and_self];exact rfl) ?_
 refine ab.nil ?_
 simp only[aA.inBlock]
 have hOk:∀(Z C X R:Option Av.Obj),HOk ⟨upd (upd (upd (upd (upd G n1 Z) n1 C) L X) 2 R) L (some (.loop 45 tt [13] asg body .ready none)),n1+1,m1::List.filter (fun x=>decide ¬x=tk) K1,m1+1⟩:=fun Z C X R=>by
  refine ⟨fun j hj=>?_,fun t ht=>?_⟩
  ·have hj:n1+1≤j:=hj
   simp only[upd]
   (repeat rw[if_neg (by omega)])
   exact hO.1 j (by show n1≤j;omega)
  ·rcases List.mem_cons.1 ht with rfl|ht
   ·exact Nat.lt_succ_self _
   ·have:=hO.2 t (List.mem_filter.1 ht).1
    simp only at this ⊢;omega
 refine ⟨tt,true,.ready,none,by simp only[upd,Lr,if_false,if_true],.normal,fun _ _=>⟨rfl,?_,?_,?_,?_⟩⟩
 ·refine ⟨?_,?_,⟨m1,?_,List.mem_cons_self⟩,?_,by simp only[upd,if_true],by simp only;omega⟩
  ·simp only[upd]
   (repeat rw[if_neg (by omega)])
   exact I.o0
  ·simp only[upd]
   (repeat rw[if_neg (by omega)])
   exact I.o1
  ·simp only[upd,rL,if_false,if_true]
   simp[bks,fe]
  ·simp only[upd]
   (repeat rw[if_neg (by omega)])
   exact I.o4
 ·exact hOk _ _ _ _
 ·simp only[upd]
  (repeat rw[if_neg (by omega)])
 ·simp only[upd]
  (repeat rw[if_neg (by omega)])
def QR (B:List UInt8):aA→St→Prop:=fun e s'=>match dr B with
 |some m=>e= .normal∧(∃tk,s'.h.objs 2=some (.cells [.sl 3 (bks m) (.own tk)]))∧s'.h.objs 1=some o1A
 |none=>e= .panic v4∧s'.h.objs 1=some o1A
theorem km {B:List UInt8} (h:dr B=none) {s':St} (h1:s'.h.objs 1=some o1A):QR B (.panic v4) s':=by
 unfold QR
 rw[h]
 exact ⟨rfl,h1⟩
set_option maxHeartbeats 8000000 in
theorem Fe (B:List UInt8) (hB:B.length≤10000000) (F:Nat→Option Av.Obj) (n:Nat) (K:List Nat) (m:Nat) (hn5:5≤n) (hO:HOk ⟨F,n,K,m⟩) (f0:F 0=some (.cells [.sl 1 (al B) .any])) (f1:F 1=some o1A) (f2:F 2=some (.cells [.sl 3 [] (.exact 0)])) (f3:F 3=some (cS B 0)) (f4:F 4=some (.cells [.ptr 3 0])):
  Wp Tryz.prog 45 c55 ⟨eh [.ptr 4 0,.ptr 2 0,.ptr 0 0],⟨F,n,K,m⟩⟩ (QR B):=by
 unfold c55
 simp only[C.zz]
 have hl4:((4:Nat):Int)=4:=rfl
 have hl2:((2:Nat):Int)=2:=rfl
 by_cases c0:4≤B.length
 case neg=>
  have hb:dr B=none:=by unfold dr tx;rw[if_neg (by omega)];rfl
  have hx:=nC B hB 0 4 (Nat.zero_le _) (by decide) (by omega)
  rw[hl4] at hx
  refine Wp.seq (Wp.yY (aR.eval (log:=[]) (aZ (by simp only[go_sem,reduceIte,Nat.reduceEqDiff,Nat.reduceAdd,bx,ax,if_true,if_false,Nat.reduceMul,Nat.reduceLeDiff,f4];exact rfl)) (aR.span (by simp only[go_sem,reduceIte,Nat.reduceEqDiff,Nat.reduceAdd,bx,List.map];exact af.refl _) (f3) (hx))) ?_)
  exact km hb f1
 have hc0:=nB B hB 0 4 (by omega)
 rw[hl4,Nat.zero_add] at hc0
 have y0:tx B 0 4=some ((B.drop 0).take 4,4):=by unfold tx;rw[if_pos (by omega)]
 generalize (B.drop 0).take 4=mk at*
 have hr0:dr B=if mk=[65,82,67,72] then (nn B 4 2).bind fun x1=>(br B x1.2 x1.1).bind fun x2=>(nn B x2.2 4).bind fun x3=>if x3.1=mr (B.take x2.2)∧x3.2=B.length then (if imE x2.1=0 then some x2.1 else none) else none else none:=by
  unfold dr
  rw[y0]
  simp only[Option.bind_some]
 have n3:¬(3=n):=by omega
 have n4:¬(4=n):=by omega
 by_cases hmk:mk=[65,82,67,72]
 case neg=>
  have hb:dr B=none:=by rw[hr0,if_neg hmk]
  have dm:decide (mk=[65,82,67,72])=false:=decide_eq_false hmk
  obtain ⟨m1,hm1,hcx⟩:=hc0 n m
  refine Wp.seq (Wp.yY (aR.eval (log:=[]) (aZ (by simp only[go_sem,reduceIte,Nat.reduceEqDiff,Nat.reduceAdd,bx,ax,if_true,if_false,Nat.reduceMul,Nat.reduceLeDiff,f4];exact rfl)) (aR.cT xA2 (by simp only[go_sem,reduceIte,Nat.reduceEqDiff,Nat.reduceAdd,bx,List.map];exact af.refl _) f3 hm1 hcx (aR.eval (log:=[]) (aZ (by simp only[go_sem,reduceIte,Nat.reduceEqDiff,Nat.reduceAdd,bx,ax,if_true,if_false,Nat.reduceMul,Nat.reduceLeDiff,dm];exact rfl)) (aR.Bn (by simp only[go_sem,reduceIte,Nat.reduceEqDiff,Nat.reduceAdd,bx,List.map];exact af.refl _) dy)))) ?_)
  exact km hb (by simp only[upd];rw[if_neg (by decide)];exact f1)
 have dm:decide (mk=[65,82,67,72])=true:=decide_eq_true hmk
 rw[if_pos hmk] at hr0
 refine Wp.au (by simp only[go_sem,reduceIte,Nat.reduceEqDiff,Nat.reduceAdd,bx,ax,if_true,if_false,Nat.reduceMul,Nat.reduceLeDiff,f4];exact rfl) ?_
 refine ab.cT xA2 (by simp only[go_sem,reduceIte,Nat.reduceEqDiff,Nat.reduceAdd,bx,List.map];exact af.refl _) (f3) (hc0) fun m1 hm1=>?_
 simp only at hm1
 refine ab.evF (by simp only[go_sem,reduceIte,Nat.reduceEqDiff,Nat.reduceAdd,bx,ax,if_true,if_false,Nat.reduceMul,Nat.reduceLeDiff,dm];exact rfl) ?_
 refine ab.aP xA2 (by simp only[go_sem,reduceIte,Nat.reduceEqDiff,Nat.reduceAdd,bx,List.map];exact af.refl _) (fx) ?_
 refine ab.nil ?_
 have g3:upd F 3 (some (cS B 4)) 3=some (cS B 4):=by simp only[upd];rw[if_pos trivial]
 by_cases c1:4+2≤B.length
 case neg=>
  have hb:dr B=none:=by rw[hr0];unfold nn;rw[if_neg c1];rfl
  have hx:=fI B hB 4 2 c0 (by decide) c1
  rw[hl2] at hx
  refine Wp.seq (Wp.seq (Wp.lB ?_))
  refine ay.eval (aZ (by simp only[go_sem,reduceIte,Nat.reduceEqDiff,Nat.reduceAdd,bx,ax,if_true,if_false,Nat.reduceMul,Nat.reduceLeDiff,f4];exact rfl)) ?_
  refine ay.span (by simp only[go_sem,reduceIte,Nat.reduceEqDiff,Nat.reduceAdd,bx,List.map];exact af.refl _) (g3) (hx) (by simp only[eP,gu,da,eB,bg,bf,tmpsOf,List.filterMap_cons,List.filterMap_nil,List.contains_cons,List.contains_nil,List.any_cons,List.any_nil,List.elem_cons,List.elem_nil,Option.toList_some,Option.toList_none,List.singleton_append,Prod.mk.injEq,Nat.reduceBEq,Bool.or_false,Bool.false_or,Bool.true_or,Bool.or_true,Bool.and_true,Bool.true_and,Bool.not_true,Bool.not_false,go_sem,reduceIte,Nat.reduceEqDiff,Nat.reduceAdd,bx,ax,if_true,if_false,Nat.reduceMul,Nat.reduceLeDiff,f4];exact rfl) (by simp[ar,apart,aC,f4] <;>omega) (dQ rfl (by simp[aC])) ?_
  exact fun n7 m7 h1 h2=>km hb (by simp only[upd];rw[if_neg (by decide)];exact f1)
 have hc1:=gH B hB 4 2 (by decide) c1
 rw[hl2] at hc1
 have y1:nn B 4 2=some (val ((B.drop 4).take 2),4+2):=by unfold nn;rw[if_pos c1]
 have hk:val ((B.drop 4).take 2)≤4294967295:=wJ (w:=2) (by rw[List.length_take];omega) (by decide)
 rw[y1] at hr0
 simp only[Option.bind_some] at hr0
 generalize val ((B.drop 4).take 2)=k at*
 refine Wp.seq ?_
 refine Wp.aG (by simp only[go_sem,reduceIte,Nat.reduceEqDiff,Nat.reduceAdd,bx,ax,if_true,if_false,Nat.reduceMul,Nat.reduceLeDiff,f4];exact rfl) ?_
 refine ae.cT xA2 (by simp only[go_sem,reduceIte,Nat.reduceEqDiff,Nat.reduceAdd,bx,List.map];exact af.refl _) (g3) (hc1) fun m2 hm2=>?_
 simp only at hm2
 refine ae.fc xA2 (by simp only[go_sem,reduceIte,Nat.reduceEqDiff,Nat.reduceAdd,bx,List.map];exact af.refl _) (GS (k:Nat) _ _) (pc _ _ _) ?_
 refine ae.nil ⟨by simp[aJ,ar,apart,aC,n3,n4] <;>omega,?_⟩
 simp only[fV]
 refine Wp.block ?_
 refine Wp.le (aF.tok _ _) ?_
 refine Wp.le (s':=⟨tm [(0,.ptr 4 0),(1,.ptr 2 0),(2,.ptr 0 0),(12,.clo (.func 105) [] [.ptr (n+1) 0,.ptr n 0])],⟨upd (upd (upd (upd F 3 (some (cS B (4+2)))) n (some (.cells [.ptr 3 0]))) (n+1) (some (.cells [.int .i64 (k:Nat)]))) 2 (some (.cells [.sl 3 [] (.own m2)])),n+2,m2::K,m2+1⟩⟩) (aF.of (bk ?_) ?_ (fun x hx=>hx) (Nat.le_refl _) (Nat.le_refl _)) ?_
 ·exact xSb
 ·refine kL (cs:=[.sl 3 [] (.exact 0)]) ?_ (af.cons (ag.dF rfl) af.nil)
  simp only[upd]
  (repeat rw[if_neg (by omega)])
  exact f2
 obtain ⟨F1,hF1⟩:∃F1,F1=upd (upd (upd (upd F 3 (some (cS B (4+2)))) n (some (.cells [.ptr 3 0]))) (n+1) (some (.cells [.int .i64 (k:Nat)]))) 2 (some (.cells [.sl 3 [] (.own m2)])):=⟨_,rfl⟩
 rw[←hF1]
 have b3:F1 3=some (cS B (4+2)):=by rw[hF1];simp only[upd];rw[if_neg (by omega),if_neg (by omega),if_neg (by omega),if_pos trivial]
 have b2:F1 2=some (.cells [.sl 3 [] (.own m2)]):=by rw[hF1];simp only[upd];rw[if_pos trivial]
 have bn:F1 n=some (.cells [.ptr 3 0]):=by rw[hF1];simp only[upd];rw[if_neg (by omega),if_neg (by omega),if_pos trivial]
 have bk':F1 (n+1)=some (.cells [.int .i64 (k:Nat)]):=by rw[hF1];simp only[upd];rw[if_neg (by omega),if_pos trivial]
 have bo:∀j,j<n→j≠3→j≠2→F1 j=F j:=fun j h1 h2 h3=>by rw[hF1];simp only[upd];(repeat rw[if_neg (by omega)])
 have bz:∀j,n+2≤j→F1 j=none:=fun j hj=>by rw[hF1];simp only[upd];(repeat rw[if_neg (by omega)]);exact hO.1 j (by show n≤j;omega)
 clear hF1
 have b0:F1 0=some (.cells [.sl 1 (al B) .any]):=(bo 0 (by omega) (by decide) (by decide)).trans f0
 have b1:F1 1=some o1A:=(bo 1 (by omega) (by decide) (by decide)).trans f1
 have b4:F1 4=some (.cells [.ptr 3 0]):=(bo 4 (by omega) (by decide) (by decide)).trans f4
 generalize hL:n+2=L at*
 have hK:∀t∈m2::K,t<m2+1:=fun t ht=>by
  rcases List.mem_cons.1 ht with rfl|ht
  ·exact Nat.lt_succ_self _
  ·have:t<m:=hO.2 t ht
   omega
 generalize hT:tm [(0,AV.ptr 4 0),(1,.ptr 2 0),(2,.ptr 0 0),(12,.clo (.func 105) [] [.ptr (n+1) 0,.ptr n 0])]=tt at*
 have t1:tt 1= .ptr 2 0:=by rw[←hT];rfl
 have t12:tt 12= .clo (.func 105) [] [.ptr (n+1) 0,.ptr n 0]:=by rw[←hT];rfl
 have WV:=fun (asg body:Code) a1 a2 a3 a4=>IJ B hB L n (n+1) k hk (4+2) c1 (ux B L (.loop 45 tt [13] asg body .ready none))
  (fun l h h' I E=>I.up (by omega) E)
  (fun l v h hl I ho=>GW (sb:=n) (by omega) a1 a2 a3 a4 t1 (by omega) (by omega) hk l v h hl I ho (by have:=I.n;omega))
  ⟨upd F1 L (some (.loop 45 tt [13] asg body .ready none)),L+1,m2::K,m2+1⟩
  ⟨by simp only[upd];rw[if_neg (by omega)];exact b0,by simp only[upd];rw[if_neg (by omega)];exact b1,⟨m2,by simp only[upd];rw[if_neg (by omega)];exact b2,List.mem_cons_self⟩,by simp only[upd];rw[if_neg (by omega)];exact b4,by simp only[upd,if_true],Nat.lt_succ_self _⟩
  ⟨fun j hj=>by
   have hj:L+1≤j:=hj
   simp only[upd]
   rw[if_neg (by omega)]
   exact bz j (by omega),hK⟩
  (by simp only[upd];rw[if_neg (by omega)];exact b3) (by simp only[upd];rw[if_neg (by omega)];exact bn) (by simp only[upd];rw[if_neg (by omega)];exact bk') (by omega) (by show n<L+1;omega) (by show 3<L+1;omega)
 cases hbr:br B (4+2) k with
 |none=>
  have hb:dr B=none:=by rw[hr0,hbr];rfl
  refine Wp.xc (fi:=105) (first:=[]) (caps:=[.ptr (n+1) 0,.ptr n 0]) t12 (Tryz.func105) rfl (of_decide_eq_true (by kernel_rfl)) (bz L (by omega)) fun asg body a1 a2 a3 a4=>?_
  have W:=WV asg body a1 a2 a3 a4
  unfold QB at W
  rw[hbr] at W
  obtain ⟨v,h',bI,hnm,rfl,l2,hI2⟩:=aI.tg (Q:=fun v h'=>v=v4∧∃l,ux B L (.loop 45 tt [13] asg body .ready none) l h') f105 (by simp) (W.mono fun e s' hq=>⟨_,hq.1,rfl,hq.2⟩)
  obtain ⟨f2',n2,T2,m2'⟩:=h'
  exact ⟨v4,f2',n2,T2,m2',bI,hnm.1,by have:=hnm.2;simp only at this;omega,km hb hI2.o1⟩
 |some x=>
  obtain ⟨bs,a⟩:=x
  obtain ⟨hfew,hapos⟩:=sC c1 _ hbr
  simp only at hfew hapos
  rw[hbr] at hr0
  simp only[Option.bind_some] at hr0
  refine Wp.Bm (fi:=105) (first:=[]) (caps:=[.ptr (n+1) 0,.ptr n 0]) t12 (Tryz.func105) rfl (of_decide_eq_true (by kernel_rfl)) (bz L (by omega)) fun asg body a1 a2 a3 a4=>?_
  have W:=WV asg body a1 a2 a3 a4
  unfold QB at W
  rw[hbr] at W
  refine (aI.fJ (Q:=fun _ h'=>ux B L (.loop 45 tt [13] asg body .ready none) bs h'∧HOk h'∧h'.objs 3=some (cS B a)) f105 (by simp) (W.mono fun e s' hq=>⟨gD hq.1,_,rfl,hq.2⟩)).mono fun r h' hq=>?_
  obtain ⟨hI2,hO2,g32⟩:=hq
  refine ⟨tt,.ready,none,.normal,hI2.lp,by simp,.none,?_⟩
  obtain ⟨f2',n2,T2,m2'⟩:=h'
  obtain ⟨tk,i2,-⟩:=hI2.o2
  have i0:=hI2.o0
  have i1:=hI2.o1
  have i4:=hI2.o4
  simp only at i0 i1 i2 i4 g32
  clear WV W hI2 hO2 bz bo b0 b1 b2 b3 b4 bn bk' f0 f1 f2 f3 f4 g3
  rw[←hT]
  show Wp Tryz.prog 45 _ _ _
  simp only
  have j0:(fun j=>if j=L then none else f2' j) 0=some (.cells [.sl 1 (al B) .any]):=by simp only;rw[if_neg (by omega)];exact i0
  have j1:(fun j=>if j=L then none else f2' j) 1=some o1A:=by simp only;rw[if_neg (by omega)];exact i1
  have j2:(fun j=>if j=L then none else f2' j) 2=some (.cells [.sl 3 (bks bs) (.own tk)]):=by simp only;rw[if_neg (by omega)];exact i2
  have j3:(fun j=>if j=L then none else f2' j) 3=some (cS B a):=by simp only;rw[if_neg (by omega)];exact g32
  have j4:(fun j=>if j=L then none else f2' j) 4=some (.cells [.ptr 3 0]):=by simp only;rw[if_neg (by omega)];exact i4
  generalize (fun j=>if j=L then none else f2' j)=F2 at*
  clear hT t1 t12
  have lb:=aS B
  have p1:(0:Int)≤(a:Int):=by omega
  have p2:(a:Int)≤(B.length:Int):=by omega
  have tb:(al B).take a=al (B.take a):=by unfold al;rw[List.map_take]
  have cs:=Ft (B.take a) (by rw[List.length_take];omega)
  have j3':F2 3=some (.cells [.sl 1 (al B) .any,.int .i64 (a:Nat)]):=j3
  generalize hsm:mr (B.take a)=sm at*
  refine Wp.aG (by simp only[go_sem,reduceIte,Nat.reduceEqDiff,Nat.reduceAdd,bx,ax,if_true,if_false,Nat.reduceMul,Nat.reduceLeDiff,j0,j4,j3',lb,p1,p2,tb,Int.toNat_natCast,ite_self];exact rfl) ?_
  refine ae.aP xA2 (by simp only[go_sem,reduceIte,Nat.reduceEqDiff,Nat.reduceAdd,bx,List.map];exact af.cons ag.cap af.nil) (cs) ?_
  refine ae.evR xA1 ?_
  refine ae.nil ⟨by simp[aJ,ar,apart,aC],?_⟩
  by_cases c4:a+4≤B.length
  case neg=>
   have hb:dr B=none:=by rw[hr0];unfold nn;rw[if_neg c4];rfl
   have hx:=fI B hB a 4 hapos (by decide) c4
   rw[hl4] at hx
   refine Wp.seq (Wp.lB ?_)
   refine ay.eval (aZ (by simp only[go_sem,reduceIte,Nat.reduceEqDiff,Nat.reduceAdd,bx,ax,if_true,if_false,Nat.reduceMul,Nat.reduceLeDiff,j4];exact rfl)) ?_
   refine ay.span (by simp only[go_sem,reduceIte,Nat.reduceEqDiff,Nat.reduceAdd,bx,List.map];exact af.refl _) (j3) (hx) (by simp only[eP,gu,da,eB,bg,bf,tmpsOf,List.filterMap_cons,List.filterMap_nil,List.contains_cons,List.contains_nil,List.any_cons,List.any_nil,List.elem_cons,List.elem_nil,Option.toList_some,Option.toList_none,List.singleton_append,Prod.mk.injEq,Nat.reduceBEq,Bool.or_false,Bool.false_or,Bool.true_or,Bool.or_true,Bool.and_true,Bool.true_and,Bool.not_true,Bool.not_false,go_sem,reduceIte,Nat.reduceEqDiff,Nat.reduceAdd,bx,ax,if_true,if_false,Nat.reduceMul,Nat.reduceLeDiff,j4];exact rfl) (by simp[ar,apart,aC,j4] <;>omega) (dQ rfl (by simp[aC])) ?_
   exact fun n7 m7 h1 h2=>km hb j1
  have hc4:=gH B hB a 4 (by decide) c4
  rw[hl4] at hc4
  have y4:nn B a 4=some (val ((B.drop a).take 4),a+4):=by unfold nn;rw[if_pos c4]
  rw[y4] at hr0
  simp only[Option.bind_some] at hr0
  generalize val ((B.drop a).take 4)=k4 at*
  have q1:upd F2 3 (some (cS B (a+4))) 1=some o1A:=by simp only[upd];rw[if_neg (by decide)];exact j1
  have q2:upd F2 3 (some (cS B (a+4))) 2=some (.cells [.sl 3 (bks bs) (.own tk)]):=by simp only[upd];rw[if_neg (by decide)];exact j2
  by_cases hs:k4=sm
  case neg=>
   have hb:dr B=none:=by rw[hr0,if_neg (fun h=>hs h.1)]
   have ds:decide (((k4:Nat):Int)=((sm:Nat):Int))=false:=decide_eq_false (by omega)
   refine Wp.seq (Wp.lB ?_)
   refine ay.eval (aZ (by simp only[go_sem,reduceIte,Nat.reduceEqDiff,Nat.reduceAdd,bx,ax,if_true,if_false,Nat.reduceMul,Nat.reduceLeDiff,j4];exact rfl)) ?_
   refine ay.cT xA2 (by simp only[go_sem,reduceIte,Nat.reduceEqDiff,Nat.reduceAdd,bx,List.map];exact af.refl _) (j3) (hc4) fun m5 hm5=>?_
   refine ay.eval (aZ (by simp only[go_sem,reduceIte,Nat.reduceEqDiff,Nat.reduceAdd,bx,ax,if_true,if_false,Nat.reduceMul,Nat.reduceLeDiff,ds];exact rfl)) ?_
   refine ay.Bn (by simp only[go_sem,reduceIte,Nat.reduceEqDiff,Nat.reduceAdd,bx,List.map];exact af.refl _) dy rfl (by simp[ar,apart,aC]) (dQ rfl (by simp[aC])) ?_
   exact fun n7 m7 h1 h2=>km hb q1
  have ds:decide (((k4:Nat):Int)=((sm:Nat):Int))=true:=decide_eq_true (by omega)
  by_cases hlen:a+4=B.length
  case neg=>
   have hb:dr B=none:=by rw[hr0,if_neg (fun h=>hlen h.2)]
   have dl:decide (((a+4:Nat):Int)=((B.length:Nat):Int))=false:=decide_eq_false (by omega)
   refine Wp.seq (Wp.lB ?_)
   refine ay.eval (aZ (by simp only[go_sem,reduceIte,Nat.reduceEqDiff,Nat.reduceAdd,bx,ax,if_true,if_false,Nat.reduceMul,Nat.reduceLeDiff,j4];exact rfl)) ?_
   refine ay.cT xA2 (by simp only[go_sem,reduceIte,Nat.reduceEqDiff,Nat.reduceAdd,bx,List.map];exact af.refl _) (j3) (hc4) fun m5 hm5=>?_
   refine ay.eval (aZ (by simp only[go_sem,reduceIte,Nat.reduceEqDiff,Nat.reduceAdd,bx,ax,if_true,if_false,Nat.reduceMul,Nat.reduceLeDiff,ds,j4,j0,cS,lb,dl];exact rfl)) ?_
   refine ay.Bn (by simp only[go_sem,reduceIte,Nat.reduceEqDiff,Nat.reduceAdd,bx,List.map];exact af.refl _) dy rfl (by simp[ar,apart,aC]) (dQ rfl (by simp[aC])) ?_
   exact fun n7 m7 h1 h2=>km hb q1
  have dl:decide (((a+4:Nat):Int)=((B.length:Nat):Int))=true:=decide_eq_true (by omega)
  rw[if_pos ⟨hs,hlen⟩] at hr0
  refine Wp.aG (by simp only[go_sem,reduceIte,Nat.reduceEqDiff,Nat.reduceAdd,bx,ax,if_true,if_false,Nat.reduceMul,Nat.reduceLeDiff,j4];exact rfl) ?_
  refine ae.cT xA2 (by simp only[go_sem,reduceIte,Nat.reduceEqDiff,Nat.reduceAdd,bx,List.map];exact af.refl _) (j3) (hc4) fun m5 hm5=>?_
  refine ae.evR (by simp only[go_sem,reduceIte,Nat.reduceEqDiff,Nat.reduceAdd,bx,ds,j4,j0,cS,lb,dl];exact rfl) ?_
  refine ae.aP xA2 (by simp only[go_sem,reduceIte,Nat.reduceEqDiff,Nat.reduceAdd,bx,List.map];exact af.refl _) (fx) ?_
  refine ae.evR xA1 ?_
  refine ae.nil ⟨by simp[aJ,ar,apart,aC],?_⟩
  have hF:Few bs:=fun b hb=>by have:=hfew b hb;omega
  have cc:=sd bs hF
  have hen:bP bs= .agg [.sl 3 (bks bs) .any]:=rfl
  rw[hen] at cc
  by_cases hE:imE bs=0
  case neg=>
   have hb:dr B=none:=by rw[hr0,if_neg hE]
   have dE:decide (imE bs=0)=false:=decide_eq_false hE
   refine Wp.yY (aR.eval (log:=[]) (aZ (by simp only[go_sem,reduceIte,Nat.reduceEqDiff,Nat.reduceAdd,bx,ax,if_true,if_false,Nat.reduceMul,Nat.reduceLeDiff,j2];exact rfl)) (aR.step (x:= .int .i64 (imE bs)) (fun ops i o ho hit=>kP.mo (N:=45) (full:=false) (.inl (aV _)) (cN ho hit xA2 rfl (by simp only[go_sem,reduceIte,Nat.reduceEqDiff,Nat.reduceAdd,bx,List.map];exact af.cons (ag.agg (af.cons ag.cap af.nil)) af.nil) (cc _ _))) (aR.eval (log:=[]) (aZ (by simp only[go_sem,reduceIte,Nat.reduceEqDiff,Nat.reduceAdd,bx,ax,if_true,if_false,Nat.reduceMul,Nat.reduceLeDiff,dE];exact rfl)) (aR.Bn (by simp only[go_sem,reduceIte,Nat.reduceEqDiff,Nat.reduceAdd,bx,List.map];exact af.refl _) dy)))) ?_
   exact km hb q1
  have dE:decide (imE bs=0)=true:=decide_eq_true hE
  rw[if_pos hE] at hr0
  refine Wp.bJ (by simp only[go_sem,reduceIte,Nat.reduceEqDiff,Nat.reduceAdd,bx,ax,if_true,if_false,Nat.reduceMul,Nat.reduceLeDiff,j2];exact rfl) ?_
  refine ab.aP xA2 (by simp only[go_sem,reduceIte,Nat.reduceEqDiff,Nat.reduceAdd,bx,List.map];exact af.cons (ag.agg (af.cons ag.cap af.nil)) af.nil) (cc) ?_
  refine ab.evF (by simp only[go_sem,reduceIte,Nat.reduceEqDiff,Nat.reduceAdd,bx,ax,if_true,if_false,Nat.reduceMul,Nat.reduceLeDiff,dE];exact rfl) ?_
  refine ab.aP xA2 (by simp only[go_sem,reduceIte,Nat.reduceEqDiff,Nat.reduceAdd,bx,List.map];exact af.refl _) (fx) ?_
  refine ab.nil ?_
  show QR B .normal _
  unfold QR
  rw[hr0]
  exact ⟨rfl,⟨tk,q2⟩,q1⟩
def h55 (B:List UInt8):H:=⟨upd (upd (upd (upd (upd ah 0 (some (.cells [.sl 1 (al B) .any]))) 1 (some o1A)) 2 (some (.cells [.sl 3 [] (.exact 0)]))) 3 (some (cS B 0))) 4 (some (.cells [.ptr 3 0])),5,[],0⟩
def rD (B:List UInt8):AV:=match dr B with
 |some m=> .tup [bP m,.int .i64 0]
 |none=>Am
theorem IL (B:List UInt8) (hB:B.length≤10000000):
  ∃h',aN Tryz.prog 54 [.clo (.func 55) [] [.ptr 4 0,.ptr 2 0,.ptr 0 0]] (h55 B) (.int .i64 (match dr B with|some _=>0|none=>4)) h'∧((h55 B).n≤h'.n∧(h55 B).m≤h'.m)∧h'.objs 1=some o1A∧
   (∀m,dr B=some m→∃tk,h'.objs 2=some (.cells [.sl 3 (bks m) (.own tk)])):=by
 have W:=Fe B hB (h55 B).objs 5 [] 0 (Nat.le_refl _) ⟨fun j hj=>by
  have hj:5≤j:=hj
  simp only[h55,upd,ah]
  (repeat rw[if_neg (by omega)]),fun t ht=>by cases ht⟩ rfl rfl rfl rfl rfl
 unfold QR at W
 cases ho:dr B with
 |some m=>
  rw[ho] at W
  simp only at W
  obtain ⟨r,h',a,b,c,d⟩:=aI.rW (Q:=fun _ h'=>(∃tk,h'.objs 2=some (.cells [.sl 3 (bks m) (.own tk)]))∧h'.objs 1=some o1A) f55 (by simp) (W.mono fun e s' hq=>⟨gD hq.1,_,rfl,hq.2⟩)
  exact ⟨h',Bu rfl rfl (by decide) a,b,d,fun m' hm=>by cases hm;exact c⟩
 |none=>
  rw[ho] at W
  simp only at W
  obtain ⟨v,h',a,b,rfl,c⟩:=aI.tg (Q:=fun v h'=>v=v4∧h'.objs 1=some o1A) f55 (by simp) (W.mono fun e s' hq=>⟨_,hq.1,rfl,hq.2⟩)
  exact ⟨h',xg rfl rfl (by decide) a,b,c,fun m h=>by cases h⟩
theorem xY (B:List UInt8) (hB:B.length≤10000000):aE Tryz.prog 18 [.sl 1 (al B) .any] (rD B):=by
 have hpure:aO (rD B)=true:=by
  unfold rD
  split
  ·simp[aO,az,bC,bP,Av.bA (fun b=>jm b),bks]
  ·rfl
 have hin:az [AV.sl 1 (al B) .any]=true:=by simp[az,aO,bC,lA]
 refine f18.wY (by simp) hin hpure ?_
 unfold c18
 simp only[C.zz]
 obtain ⟨h',bI,hnm,f1,fok⟩:=IL B hB
 refine Wp.au (by simp only[go_sem,reduceIte,Nat.reduceEqDiff,Nat.reduceAdd,bx,ax,if_true,if_false,Nat.reduceMul,Nat.reduceLeDiff];exact rfl) ?_
 refine ab.nil ?_
 refine Wp.au (by simp only[go_sem,reduceIte,Nat.reduceEqDiff,Nat.reduceAdd,bx,ax,if_true,if_false,Nat.reduceMul,Nat.reduceLeDiff];exact rfl) ?_
 refine ab.nil ?_
 refine Wp.au (by simp only[go_sem,reduceIte,Nat.reduceEqDiff,Nat.reduceAdd,bx,ax,if_true,if_false,Nat.reduceMul,Nat.reduceLeDiff];exact rfl) ?_
 refine ab.nil ?_
 refine Wp.le (s':=⟨tm [(1,.ptr 0 0),(2,.ptr 1 0),(4,.ptr 2 0),(5,.ptr 4 0)],h55 B⟩) (aF.of (bk ?_) (by rw[fV];exact OLe.cP _) (fun x hx=>hx) (Nat.le_refl _) (Nat.le_refl _)) ?_
 ·exact xSb
 refine Wp.au (by simp only[go_sem,reduceIte,Nat.reduceEqDiff,Nat.reduceAdd,bx,ax,if_true,if_false,Nat.reduceMul,Nat.reduceLeDiff];exact rfl) ?_
 refine ab.fc xA2 (by simp only[go_sem,reduceIte,Nat.reduceEqDiff,Nat.reduceAdd,bx,List.map];exact af.refl _) hnm (bI) ?_
 unfold rD
 cases ho:dr B with
 |none=>
  rw[ho] at fok
  simp only
  refine ab.evF (by simp only[go_sem,reduceIte,Nat.reduceEqDiff,Nat.reduceAdd,bx,ax,if_true,if_false,Nat.reduceMul,Nat.reduceLeDiff];exact rfl) ?_
  refine ab.nil ?_
  refine rf0 f1 ?_
  refine Wp.ret ⟨trivial,_,rfl,.inl ?_⟩
  exact ag.tup (af.cons (ag.agg (af.cons ag.cap af.nil)) (af.cons (ag.refl _) af.nil))
 |some m=>
  obtain ⟨tk,f2⟩:=fok m ho
  simp only
  refine ab.evF (by simp only[go_sem,reduceIte,Nat.reduceEqDiff,Nat.reduceAdd,bx,ax,if_true,if_false,Nat.reduceMul,Nat.reduceLeDiff];exact rfl) ?_
  refine ab.nil ?_
  refine rf0 (cj2 f1 f2) ?_
  refine Wp.ret ⟨trivial,_,rfl,.inl ?_⟩
  exact ag.tup (af.cons (ag.agg (af.cons ag.cap af.nil)) (af.cons (ag.refl _) af.nil))
theorem Aq {m:List Bk} (h:imB m=true):nA (aQ (aU m))= .tup [bP m,.int .i64 0]:=by
 have r:=Ag h
 unfold nA
 have h1:iW (aQ (aU m))=m:=by unfold iW;rw[r]
 have h2:fH (aQ (aU m))=true:=by
  unfold fH
  rw[r]
  simp[imE,h]
 rw[h1,h2,if_pos rfl]
theorem Dn {L:List Pr} (h:fH L=true):imB (iW L)=true∧aQ (aU (iW L))=L∧(iW L).length+fb (iW L)≤L.length:=by
 unfold fH at h
 unfold iW
 have hc:=fun S=>nz L L.length (S:=S)
 cases hr:ju L L.length with
 |none=>rw[hr] at h;cases h
 |some S=>
  rw[hr] at h
  simp only[Bool.and_eq_true,decide_eq_true_eq] at h
  obtain ⟨-,h1,h2⟩:=h
  have hi:imB S.1=true:=by
   unfold imE at h1
   split at h1
   ·assumption
   ·cases h1
  rw[if_pos hi] at h2
  exact ⟨hi,h2,hc S hr⟩
theorem Dp {B:List UInt8} {m:List Bk} (hB:B.length≤10000000) (h:dr B=some m):Few m:=by
 unfold dr at h
 obtain ⟨x0,p0,h⟩:=Option.bind_eq_some_iff.1 h
 split at h
 ·obtain ⟨x1,p1,h⟩:=Option.bind_eq_some_iff.1 h
  obtain ⟨x2,p2,h⟩:=Option.bind_eq_some_iff.1 h
  obtain ⟨x3,p3,h⟩:=Option.bind_eq_some_iff.1 h
  split at h
  ·split at h
   ·cases h
    obtain ⟨-,e,hl⟩:=gG p1
    have:=(sC (by omega) _ p2).1
    exact fun b hb=>by have:=this b hb;omega
   ·cases h
  ·cases h
 ·cases h
theorem Ff {m:List Bk} (h:imB m=true) (hf:wm m=true):(dV m).length≤10000000:=by
 have hf:=of_decide_eq_true hf
 unfold dV fu
 rw[if_pos h]
 simp only[List.length_append,aH,List.length_cons,List.length_nil]
 have key:∀l:List Bk,(∀b∈l,gw b=true)→((l.map aY).flatten).length≤30*l.length+2700*fb l:=by
  intro l
  induction l with
  |nil=>intro _;simp[fb]
  |cons b l ih=>
   intro hb
   have h1:=ih fun u hu=>hb u (by simp[hu])
   have h2:=hb b (by simp)
   have h3:(aY b).length≤30+2700*b.l.length:=by
    simp only[gw,Bool.and_eq_true,decide_eq_true_eq] at h2
    have g1:=tF h2.1.1
    have g2:=mz h2.2 b.l.length (Nat.le_refl _)
    rw[List.take_length] at g2
    unfold aY
    simp only[List.length_append,aH,gA]
    omega
   unfold fb at*
   simp only[List.map_cons,List.flatten_cons,List.length_append,List.length_cons,List.sum_cons]
   omega
 have:=key m fun b hb=>jz h hb
 omega
theorem rE {m:List Bk} (h:imB m=true):∀p∈aQ (aU m),p.k.length≤140737488355328∧p.v.length≤140737488355328:=fun p hp=>by
 have:=(lG (dK h) (jo h)).2 p
 have:=jo h p (this.1 hp)
 unfold shut at this
 simp only[Bool.or_eq_false_iff,decide_eq_false_iff_not] at this
 omega
def p7:AC:=match c5 with| .seq _ (.seq _ (.seq _ (.seq _ r)))=>r|_=> .skip
def uy:AC:=match c5 with| .seq _ (.seq _ (.seq _ (.seq r _)))=>r|_=> .skip
def FM:AC:=match c5 with| .seq _ (.seq _ (.seq r _))=>r|_=> .skip
def stB (m:List Bk) (B:List UInt8) (L:List Pr) (n:Nat):St:=⟨tm [(1,.sl 1 (al B) .any),(2,.sl 2 (prs L) .any),(3,.ptr 0 0)],⟨upd ah 0 (some (.cells [.sl 3 (bks m) .any])),n,[],0⟩⟩
set_option maxHeartbeats 4000000 in
theorem Fg (m:List Bk) (B:List UInt8) (L:List Pr) (hL:L.length≤100) (hks:∀p∈L,p.k.length≤140737488355328) (hvs:∀p∈L,p.v.length≤140737488355328) (n:Nat) (hn:1≤n) {Q:aA→St→Prop} (hQ:∀s:St,s.t 6= .bool true→Q .ret s):
  Wp Tryz.prog 153 p7 (stB m B L n) Q:=by
 unfold p7 stB c5
 simp only
 have c1:=xS L (by omega) hks hvs
 have lp:=bj L
 have n0:¬(0=n):=by omega
 have n0':¬(n=0):=by omega
 cases ho:fH L with
 |false=>
  have hI:nA L=Am:=by unfold nA;rw[if_neg (by rw[ho];simp)]
  rw[hI] at c1
  unfold Am at c1
  have c2:=tG [] (by simp) (by simp)
  unfold bP bks at c2
  simp only[List.map_nil] at c2
  have hsub:ag (.agg [.sl 3 [] (.exact 0)]) (.agg [.sl 3 [] .any]):=ag.agg (af.cons ag.cap af.nil)
  refine rn3 (cj3 n0 n0' lp) c1 c2 iR ?_
  refine Wp.ret (hQ _ ?_)
  rfl
 |true=>
  have hI:nA L= .tup [bP (iW L),.int .i64 0]:=by unfold nA;rw[if_pos ho]
  rw[hI] at c1
  obtain ⟨h1,h2,h3⟩:=Dn ho
  have hf:Few (iW L):=fun b hb=>by
   have:b.l.length≤fb (iW L):=CA (List.mem_map.2 ⟨b,hb,rfl⟩)
   omega
  have c2:=jZ (iW L) hf fun _=>by have:=lM h1;unfold fb at h3;omega
  rw[if_pos h1,h2] at c2
  have hE:imE (iW L)=0:=by unfold imE;rw[if_pos h1]
  rw[hE] at c2
  unfold bP at c1 c2
  generalize iW L=M at*
  have e0:decide (((L.length:Nat):Int)=((L.length:Nat):Int))=true:=decide_eq_true rfl
  refine rn2 (cj5 n0 n0' lp e0 @Bool.not_true) c1 c2 ?_
  refine Wp.qC [1,2,3,19,21] (by simp only[go_sem,reduceIte,Nat.reduceEqDiff,List.map,lp];exact rfl) (fun j:Nat=>[(23,.int .i64 j)]) (fun j=>j≤L.length) (fun j=>L.length - j) 0 (Nat.zero_le _) ?_ ?_
  ·exact xSb
  rintro j k hk hj
  by_cases hc:j<L.length
  ·obtain ⟨g1,g2,g3,e1⟩:=fW hc (by omega)
   have hat:=cw L j .any hc
   generalize L.getD j default=p at*
   refine rn0 (bM g1 g2 g3 lp hat @Int.toNat_natCast @beq_self_eq_true.{0} @bne_self_eq_false.{0} @decide_true @Bool.and_self @Option.map_some.{0,0} @Bool.not_true) ?_
   refine ⟨j+1,k,hk,hc,Nat.sub_lt_sub_left hc (Nat.lt_succ_self _),?_⟩
   refine aF.of (bk ?_) (fun a o ho=>⟨o,ho,cK.refl _⟩) (fun _ h=>h) (Nat.le_refl _) (Nat.le_refl _)
   simp only[av,go_sem,reduceIte,Nat.reduceEqDiff,Nat.reduceAdd,bx,e1];and_intros<;>first|exact trivial|exact ag.refl _|exact ag.any _|(refine ag.int ?_;omega)
  ·have hj2:j=L.length:=by omega
   subst hj2
   have g1:=ik L.length
   refine rn1 (cj2 g1 lp) iR ?_
   refine Wp.ret (hQ _ ?_)
   rfl
set_option maxHeartbeats 4000000 in
theorem Fh (m:List Bk) (B:List UInt8) (hB:B.length≤100000) (L:List Pr) (hL:L.length≤100) (hks:∀p∈L,p.k.length≤140737488355328) (hvs:∀p∈L,p.v.length≤140737488355328) (n:Nat) (hn:1≤n) {Q:aA→St→Prop} (hQ:∀s:St,s.t 6= .bool true→Q .ret s):
  Wp Tryz.prog 153 (.seq uy p7) (stB m B L n) Q:=by
 have W:=fun n hn=>Fg m B L hL hks hvs n hn hQ
 generalize p7=T at*
 unfold uy stB c5
 simp only
 have c1:=xY B (by omega)
 have n0:¬(0=n):=by omega
 have n0':¬(n=0):=by omega
 unfold rD at c1
 cases ho:dr B with
 |none=>
  rw[ho] at c1
  simp only at c1
  unfold Am at c1
  refine rn1 (cj2 n0 n0') c1 ?_
  refine Wp.le (s':=stB m B L (n+1)) (aF.of (bk ?_) (fun a o ho=>⟨o,?_,cK.refl _⟩) (fun _ h=>h) (Nat.le_refl _) (Nat.le_refl _)) (W _ (by omega))
  ·exact xSb
  ·simp only[upd,ah] at ho ⊢
   by_cases a0:a=0
   ·subst a0;simpa [n0,n0'] using ho
   ·rw[if_neg a0] at ho;cases ho
 |some M=>
  rw[ho] at c1
  simp only at c1
  obtain ⟨h1,h2⟩:=Ap ho
  have hf:=Dp (by omega) ho
  have c2:=tL M hf fun _=>by
   have e:(dV M).length≤100000:=by rw[h2];exact hB
   unfold dV fu at e
   rw[if_pos h1] at e
   simp only[List.length_append] at e
   omega
  have hE:imE M=0:=by unfold imE;rw[if_pos h1]
  rw[h2,hE] at c2
  unfold bP at c1 c2
  refine rn2 (cj8 n0 n0' @bW @Option.map_some.{0,0} @decide_true @Bool.not_true @beq_self_eq_true.{0} @bne_self_eq_false.{0}) c1 c2 ?_
  refine Wp.le (s':=stB m B L (n+1)) (aF.of (bk ?_) (fun a o ho=>⟨o,?_,cK.refl _⟩) (fun _ h=>h) (Nat.le_refl _) (Nat.le_refl _)) (W _ (by omega))
  ·exact xSb
  ·simp only[upd,ah] at ho ⊢
   by_cases a0:a=0
   ·subst a0;simpa [n0,n0'] using ho
   ·rw[if_neg a0] at ho;cases ho
set_option maxHeartbeats 4000000 in
theorem Ar (m:List Bk) (hl:m.length≤35184372088832) (hv:∀b∈m,b.l.length≤35184372088832) (B:List UInt8) (L:List Pr) (hks:∀p∈L,p.k.length≤140737488355328) (hvs:∀p∈L,p.v.length≤140737488355328):
  aE Tryz.prog 5 [bP m,.sl 1 (al B) .any,.sl 2 (prs L) .any] (.bool true):=by
 refine f5.aD (by simp) (by simp[az,aO,bC,dH,iJ,lA]) rfl ?_
 have cut:c5= .seq (match c5 with| .seq a _=>a|_=> .skip) (.seq (match c5 with| .seq _ (.seq a _)=>a|_=> .skip) (.seq FM (.seq uy p7))):=rfl
 rw[cut]
 have c1:=EA m hl hv
 have lb:=aS B
 have lp:=bj L
 have W:∀{Q:aA→St→Prop},B.length≤100000→L.length≤100→(∀s:St,s.t 6= .bool true→Q .ret s)→∀n,1≤n→Wp Tryz.prog 153 (.seq uy p7) (stB m B L n) Q:=fun h1 h2 hQ n hn=>Fh m B h1 L h2 hks hvs n hn hQ
 generalize AC.seq uy p7=T at*
 unfold FM c5
 simp only
 unfold bP at c1 ⊢
 cases hfw:wm m with
 |false=>
  rw[hfw] at c1
  refine rn2 @Bool.not_false c1 iR ?_
  refine aL ?_
  exact ag.refl _
 |true=>
 rw[hfw] at c1
 by_cases hB:B.length≤100000
 case neg=>
  have d1:decide ((100000:Int)<(B.length:Int))=true:=decide_eq_true (by omega)
  refine rn2 (cj3 @Bool.not_true lb d1) c1 iR ?_
  refine aL ?_
  exact ag.refl _
 have d1:decide ((100000:Int)<(B.length:Int))=false:=decide_eq_false (by omega)
 by_cases hL:L.length≤100
 case neg=>
  have d2:decide ((100:Int)<(L.length:Int))=true:=decide_eq_true (by omega)
  refine rn2 (cj5 @Bool.not_true lb lp d1 d2) c1 iR ?_
  refine aL ?_
  exact ag.refl _
 have d2:decide ((100:Int)<(L.length:Int))=false:=decide_eq_false (by omega)
 obtain ⟨h1,h2,h3⟩:=zZ hfw
 have b1:=xy m h1 (by omega)
 cases hm:imB m with
 |false=>
  have hE:imE m=4:=by unfold imE;rw[hm];rfl
  have hO:dV m=[]:=by unfold dV;rw[hm];rfl
  rw[hE,hO] at b1
  unfold bP at b1
  refine rn2 (cj5 @Bool.not_true lb lp d1 d2) c1 b1 ?_
  refine Wp.le (s':=stB m B L 1) (aF.of (bk ?_) (fun a o ho=>⟨o,?_,cK.refl _⟩) (fun _ h=>h) (Nat.le_refl _) (Nat.le_refl _)) (W hB hL (fun s h=>⟨trivial,_,rfl,by rw[h];exact ag.refl _⟩) _ (by omega))
  ·exact xSb
  ·simp only[upd,ah] at ho ⊢
   by_cases a0:a=0
   ·subst a0;simpa using ho
   ·rw[if_neg a0] at ho;cases ho
 |true=>
  have hE:imE m=0:=by unfold imE;rw[hm];rfl
  have b2:=xY (dV m) (Ff hm hfw)
  unfold rD at b2
  rw[wH hm h1] at b2
  simp only at b2
  have b3:=jZ m h1 h3
  rw[if_pos hm,hE] at b3
  have hlen:(aQ (aU m)).length≤4000:=by
   have g1:=xz (aU m)
   have g2:=lM hm
   have g3:=of_decide_eq_true hfw
   unfold fb at g3
   omega
  have b4:=xS (aQ (aU m)) hlen (fun p hp=>(rE hm p hp).1) (fun p hp=>(rE hm p hp).2)
  rw[Aq hm] at b4
  have b5:=tG m hl hv
  rw[hE] at b1
  unfold bP at b1 b2 b3 b4 b5
  generalize aQ (aU m)=A at*
  generalize dV m=O at*
  repeat (first
   |((first|apply Wp.aG|apply Wp.cf|((first
     |(refine ae.aP ?_ ?_ (c1) ?_;(· simp only[go_sem,reduceIte,Nat.reduceEqDiff,Nat.reduceAdd,bx]);(· simp only[go_sem,reduceIte,Nat.reduceEqDiff,Nat.reduceAdd,bx,List.map];first|exact af.refl _|(repeat (first|exact af.nil|refine af.cons xA5 ?_))))
     |(refine ae.aP ?_ ?_ (b1) ?_;(· simp only[go_sem,reduceIte,Nat.reduceEqDiff,Nat.reduceAdd,bx]);(· simp only[go_sem,reduceIte,Nat.reduceEqDiff,Nat.reduceAdd,bx,List.map];first|exact af.refl _|(repeat (first|exact af.nil|refine af.cons xA5 ?_))))
     |(refine ae.aP ?_ ?_ (b2) ?_;(· simp only[go_sem,reduceIte,Nat.reduceEqDiff,Nat.reduceAdd,bx]);(· simp only[go_sem,reduceIte,Nat.reduceEqDiff,Nat.reduceAdd,bx,List.map];first|exact af.refl _|(repeat (first|exact af.nil|refine af.cons xA5 ?_))))
     |(refine ae.aP ?_ ?_ (b3) ?_;(· simp only[go_sem,reduceIte,Nat.reduceEqDiff,Nat.reduceAdd,bx]);(· simp only[go_sem,reduceIte,Nat.reduceEqDiff,Nat.reduceAdd,bx,List.map];first|exact af.refl _|(repeat (first|exact af.nil|refine af.cons xA5 ?_))))
     |(refine ae.aP ?_ ?_ (b4) ?_;(· simp only[go_sem,reduceIte,Nat.reduceEqDiff,Nat.reduceAdd,bx]);(· simp only[go_sem,reduceIte,Nat.reduceEqDiff,Nat.reduceAdd,bx,List.map];first|exact af.refl _|(repeat (first|exact af.nil|refine af.cons xA5 ?_))))
     |(refine ae.aP ?_ ?_ (b5) ?_;(· simp only[go_sem,reduceIte,Nat.reduceEqDiff,Nat.reduceAdd,bx]);(· simp only[go_sem,reduceIte,Nat.reduceEqDiff,Nat.reduceAdd,bx,List.map];first|exact af.refl _|(repeat (first|exact af.nil|refine af.cons xA5 ?_)))));apply ae.evR));(· simp only[go_sem,reduceIte,Nat.reduceEqDiff,Nat.reduceAdd,bx,ax,if_true,if_false,Nat.reduceMul,Nat.reduceLeDiff,Bool.not_true,lb,lp,d1,d2];exact rfl))
   |(refine ae.nil ⟨?_,?_⟩;(· first|trivial|simp[aJ,ar,apart,aC]))
   |(apply Wp.aK;(· simp only[go_sem,reduceIte,Nat.reduceEqDiff,Nat.reduceAdd,bx,ax,if_true,if_false,Nat.reduceMul,Nat.reduceLeDiff,Bool.not_true,lb,lp,d1,d2];exact rfl);(· rfl))
   |refine Wp.skip ?_
   |refine Wp.label ?_
   |refine Wp.block ?_
   |refine Wp.exit ?_
   |refine Wp.seq ?_)
  refine Wp.le (s':=stB m B L 3) (aF.of (bk ?_) (fun a o ho=>⟨o,?_,cK.refl _⟩) (fun _ h=>h) (Nat.le_refl _) (Nat.le_refl _)) (W hB hL (fun s h=>⟨trivial,_,rfl,by rw[h];exact ag.refl _⟩) _ (by omega))
  ·exact xSb
  ·simp only[upd,ah] at ho ⊢
   by_cases a0:a=0
   ·subst a0;simpa using ho
   ·rw[if_neg a0] at ho;cases ho
end Go.Proofs.YtjnoobmaedgooaaGreat.Arch
end
section
set_option maxRecDepth 100000
namespace Go.Proofs.YtjnoobmaedgooaaGreat.Arch
open Go Go.Av Go.Proofs Go.Proofs.YtjnoobmaedgooaaGreat.C Go.Proofs.YtjnoobmaedgooaaGreat.Batch
theorem laid:laidOutB Tryz.prog=true:=by kernel_rfl
theorem IM:mapsRowed Tryz.prog=true:=by kernel_rfl
theorem full:∀t e,t<Tryz.prog.types.size→Tryz.prog.underlying t=some (.slice e)→0<Tryz.prog.cellsOf e:=slices_full_of Tryz.prog (by kernel_rfl)
theorem own:ownKnob Tryz.prog.godebug=none:=by kernel_rfl
theorem Ja {H:Type}:po (H:=H) Rows.uptoBulk Rows.uptoBulkAll:=
 ⟨fun l=>by simp[Rows.uptoBulk],fun k n=>by simp[Rows.uptoBulk],fun b=>by simp[Rows.uptoBulk],by simp[Rows.uptoBulk],fun a b=>by simp[Rows.uptoBulk],fun a=>by simp[Rows.uptoBulk],by simp[Rows.uptoBulkAll],fun d l=>by simp[Rows.uptoBulkAll]⟩
theorem sD {α:Type} {t:TypeId} {k:Nat} {enc:α→AV} {Q:α→Prop} (h1:∀cs,Fits Tryz.prog k t cs→∃x,cO Tryz.prog t cs=enc x∧Q x):∀{ys:List AV},(∀y∈ys,∃cs,Fits Tryz.prog k t cs∧y=cO Tryz.prog t cs)→∃l:List α,ys=l.map enc∧∀x∈l,Q x
 |[],_=>⟨[],rfl,by simp⟩
 |y::ys,h=>by
  obtain ⟨l,rfl,hl⟩:=sD h1 (ys:=ys) (fun z hz=>h z (by simp[hz]))
  obtain ⟨cs,g1,g2⟩:=h y (by simp)
  obtain ⟨x,e,q⟩:=h1 cs g1
  refine ⟨x::l,by simp[g2,e],fun z hz=>?_⟩
  rcases List.mem_cons.1 hz with rfl|hz
  ·exact q
  ·exact hl z hz
theorem xZ {n b:Nat} (hb:4≤b) (h:n*b≤reachBytes):n≤35184372088832:=by
 have:n*4≤n*b:=Nat.mul_le_mul_left n hb
 have e:reachBytes=140737488351232:=rfl
 omega
def IN (v:Vs):Prop:=v.o.length≤reachBytes∧v.b.length≤reachBytes∧v.id<9223372036854775808
theorem Fi {k:Nat} {cs:List AV} (h:Fits Tryz.prog (k+4) 88 cs):∃v:Vs,cO Tryz.prog 88 cs=cM v∧IN v:=by
 have hw:∀cs,cO Tryz.prog 88 cs= .agg cs:=fun cs=>by
  unfold cO;rw[if_pos (by kernel_rfl)]
 rw[hw]
 unfold Fits at h
 rw[Tryz.underlying88] at h
 obtain ⟨xss,rfl,h⟩:=h
 cases h with|cons h0 h=>cases h with|cons h1 h=>cases h with|cons h2 h=>cases h with|cons h3 h=>
 cases h
 unfold Fits at h0 h1 h2 h3
 simp only at h0 h1 h2 h3
 rw[Tryz.underlying9] at h0 h3
 rw[Tryz.underlying3] at h1
 rw[Tryz.underlying86] at h2
 obtain ⟨o,rfl,ho⟩:=h0
 obtain ⟨id,rfl,hid⟩:=h1
 obtain ⟨b,rfl,hb⟩:=h3
 obtain ⟨yss,rfl,h2⟩:=h2
 cases h2 with|cons g0 h2=>cases h2 with|cons g1 h2=>cases h2 with|cons g2 h2=>cases h2 with|cons g3 h2=>
 cases h2
 unfold Fits at g0 g1 g2 g3
 simp only at g0 g1 g2 g3
 rw[Tryz.underlying3] at g0
 rw[Tryz.underlying84] at g1
 rw[Tryz.underlying4] at g2 g3
 obtain ⟨sz,rfl,-⟩:=g0
 obtain ⟨g,rfl⟩:=g2
 obtain ⟨u,rfl⟩:=g3
 obtain ⟨zss,rfl,g1⟩:=g1
 cases g1 with|cons e0 g1=>cases g1 with|cons e1 g1=>
 cases g1
 unfold Fits at e0 e1
 simp only at e0 e1
 rw[Tryz.underlying3] at e0 e1
 obtain ⟨re,rfl,-⟩:=e0
 obtain ⟨im,rfl,-⟩:=e1
 refine ⟨⟨o,id,sz,re,im,g,u,b⟩,rfl,ho,hb,?_⟩
 simp only
 have:=hid
 simp[Lit.wf,IntKind.max,IntKind.min,IntKind.signed,IntKind.bits] at this
 omega
structure IP (b:Bk):Prop where
 n:b.n.length≤reachBytes
 l:b.l.length≤35184372088832
 v:∀v∈b.l,IN v
theorem Fj {k:Nat} {cs:List AV} (h:Fits Tryz.prog (k+6) 77 cs):∃b:Bk,cO Tryz.prog 77 cs=fe b∧IP b:=by
 have hw:∀cs,cO Tryz.prog 77 cs= .agg cs:=fun cs=>by
  unfold cO;rw[if_pos (by kernel_rfl)]
 rw[hw]
 unfold Fits at h
 rw[Tryz.underlying77] at h
 obtain ⟨xss,rfl,h⟩:=h
 cases h with|cons h0 h=>cases h with|cons h1 h=>cases h with|cons h2 h=>
 cases h
 unfold Fits at h0 h1 h2
 simp only at h0 h1 h2
 rw[Tryz.underlying9] at h0
 rw[Tryz.underlying74] at h1
 rw[Tryz.underlying75] at h2
 obtain ⟨n,rfl,hn⟩:=h0
 obtain ⟨st,rfl,-⟩:=h1
 obtain ⟨xs,rfl,hlx,hx⟩:=h2
 obtain ⟨l,rfl,hv⟩:=sD (fun cs h=>Fi h) hx
 have c1:Tryz.prog.cellsOf 88=8:=by kernel_rfl
 have c2:4≤Tryz.prog.bytesOf 88:=by decide+kernel
 rw[List.length_map] at hlx
 refine ⟨⟨n,st,l⟩,?_,hn,xZ c2 hlx,hv⟩
 simp[fe,vss,c1]
theorem Fk {a:AV} (h:kE Tryz.prog 9 24 a):∃m:List Bk,a=bP m∧m.length≤35184372088832∧∀b∈m,IP b:=by
 obtain ⟨cs,h,rfl⟩:=h
 unfold Fits at h
 rw[Tryz.underlying24] at h
 obtain ⟨xss,rfl,h⟩:=h
 cases h with|cons h0 h=>
 cases h
 unfold Fits at h0
 simp only at h0
 rw[Tryz.underlying22] at h0
 obtain ⟨xs,rfl,hlx,hx⟩:=h0
 obtain ⟨l,rfl,hv⟩:=sD (fun cs h=>Fj h) hx
 have c1:Tryz.prog.cellsOf 77=3:=by kernel_rfl
 have c2:4≤Tryz.prog.bytesOf 77:=by decide+kernel
 rw[List.length_map] at hlx
 refine ⟨l,?_,xZ c2 hlx,hv⟩
 unfold cO;rw[if_pos (by kernel_rfl)]
 simp[bP,bks,c1]
def IQ (p:Pr):Prop:=p.k.length≤reachBytes∧p.v.length≤reachBytes
theorem As {k:Nat} {cs:List AV} (h:Fits Tryz.prog (k+2) 50 cs):∃p:Pr,cO Tryz.prog 50 cs=gR p∧IQ p:=by
 have hw:∀cs,cO Tryz.prog 50 cs= .agg cs:=fun cs=>by
  unfold cO;rw[if_pos (by kernel_rfl)]
 rw[hw]
 unfold Fits at h
 rw[Tryz.underlying50] at h
 obtain ⟨xss,rfl,h⟩:=h
 cases h with|cons h0 h=>cases h with|cons h1 h=>
 cases h
 unfold Fits at h0 h1
 simp only at h0 h1
 rw[Tryz.underlying9] at h0 h1
 obtain ⟨s,rfl,hs⟩:=h0
 obtain ⟨v,rfl,hv⟩:=h1
 exact ⟨⟨s,v⟩,rfl,hs,hv⟩
theorem Dq {a:AV} (h:kE Tryz.prog 9 33 a):∃l:List Pr,a= .sl 2 (prs l) .any∧∀p∈l,IQ p:=by
 obtain ⟨cs,h,rfl⟩:=h
 unfold Fits at h
 rw[Tryz.underlying33] at h
 obtain ⟨ys,rfl,hl,he⟩:=h
 obtain ⟨l,rfl,hq⟩:=sD (fun cs h=>As h) he
 have c1:Tryz.prog.cellsOf 50=2:=by kernel_rfl
 refine ⟨l,?_,hq⟩
 rw[c1]
 unfold cO;rw[if_neg (by rw[show bB Tryz.prog 33=false by kernel_rfl];simp)];rfl
theorem ya {k:Nat} {t:TypeId} (ht:Tryz.prog.underlying t=some (.int .u8)) (ha:bB Tryz.prog t=false):∀{ys:List AV},(∀y∈ys,∃cs,Fits Tryz.prog (k+1) t cs∧y=cO Tryz.prog t cs)→∃l:List UInt8,ys=al l
 |[],_=>⟨[],rfl⟩
 |y::ys,h=>by
  obtain ⟨l,rfl⟩:=ya ht ha (ys:=ys) (fun z hz=>h z (by simp[hz]))
  obtain ⟨cs,h1,h2⟩:=h y (by simp)
  unfold Fits at h1
  rw[ht] at h1
  obtain ⟨s,rfl,hs⟩:=h1
  have hb:0≤s∧s≤255:=by simpa [Lit.wf,IntKind.min,IntKind.max,IntKind.signed,IntKind.bits] using hs
  refine ⟨UInt8.ofNat s.toNat::l,?_⟩
  simp only[al,List.map_cons,h2,cO,ha,Bool.false_eq_true,if_false,List.headD_cons,byte]
  congr 2
  have:(UInt8.ofNat s.toNat).toNat=s.toNat:=by simp[UInt8.toNat_ofNat];omega
  rw[this];omega
theorem wK {a:AV} (h:kE Tryz.prog 9 27 a):∃l,a= .sl 1 (al l) .any∧l.length≤reachBytes:=by
 obtain ⟨cs,h,rfl⟩:=h
 unfold Fits at h
 rw[Tryz.underlying27] at h
 obtain ⟨ys,rfl,hl,he⟩:=h
 obtain ⟨l,rfl⟩:=ya Tryz.underlying5 (by kernel_rfl) he
 have b1:Tryz.prog.bytesOf 5=1:=by kernel_rfl
 have c1:Tryz.prog.cellsOf 5=1:=by kernel_rfl
 rw[b1,aS,Nat.mul_one] at hl
 refine ⟨l,?_,hl⟩
 rw[c1]
 unfold cO;rw[if_neg (by rw[show bB Tryz.prog 27=false by kernel_rfl];simp)];rfl
theorem n5 {b:Nat} (avs:List AV) (h:tv (kE Tryz.prog 9) Tryz.f5.params.toList avs) (_:bO avs≤b):aE Tryz.prog 5 avs (.bool true):=by
 rw[Tryz.params5] at h
 cases h with|cons h0 h=>cases h with|cons h1 h=>cases h with|cons h2 h=>
 cases h
 obtain ⟨m,rfl,hl,hb⟩:=Fk h0
 obtain ⟨B,rfl,-⟩:=wK h1
 obtain ⟨L,rfl,hp⟩:=Dq h2
 have er:reachBytes=140737488351232:=rfl
 exact Ar m hl (fun b hx=>(hb b hx).l) B L (fun p h=>by have:=(hp p h).1;omega) (fun p h=>by have:=(hp p h).2;omega)
end Go.Proofs.YtjnoobmaedgooaaGreat.Arch
end
section
namespace Go.Proofs.YtjnoobmaedgooaaGreat.Arch
open Go Go.Av Go.Proofs Go.Proofs.YtjnoobmaedgooaaGreat.C
open Go.ChangeShapes Go.WideShapes Go.ChangeAt Go.RowKit
set_option maxRecDepth 100000 in
theorem lN (os:Os) (started:os.Started) (H:Type) (enc:TypeId × Value→H):
  ReturnsInHanded {} Tryz.checked os 5 .any (Rows.archiveBackSpec.pre6 enc Tryz.prog Tryz.f5 Rows.archiveBackRow.domain false) (Rows.archiveBackSpec.post enc Tryz.prog Tryz.f5 false true false false):=by
 refine returnsInHanded_of_change_sized (C:=Tryz.checked) own started (by kernel_rfl) Tryz.func5
  (ChangeSpec.witness6 (enc:=enc) (C:=Tryz.checked) false ⟨#[],#[.agg #[.slice none 0 0],.slice none 0 0,.slice none 0 0],[]⟩ 8 (by kernel_rfl) (by kernel_rfl) (by kernel_rfl) (by kernel_rfl)) ?_
 intro W base args ds gs before hval hW _ hwt _
 exact ze laid Ja IM full rfl (fun l hl=>by match l,hl with|[_,_,_],_=>rfl) rfl Tryz.underlying4 (by kernel_rfl) (by kernel_rfl) hval hW hwt (fun avs h hb=>n5 avs h hb)
theorem said_ArchiveBack:Rows.ArchiveBackSaid:=
 OpenClaim.holds_of_wide 5 Tryz.f5 rfl rfl rfl rfl rfl rfl rfl ⟨rfl,rfl,rfl,rfl,rfl⟩ rfl rfl rfl rfl rfl (by kernel_rfl) Tryz.func5 (by kernel_rfl)
  (of_decide_eq_true (by kernel_rfl)) (by unfold Func.isWrapper;first|(rw [if_pos (by decide+kernel)];kernel_rfl)|(rw [if_neg (by decide+kernel)];exact ⟨rfl,rfl⟩))
  (fun os started H enc _=>lN os started H enc)
#print axioms said_ArchiveBack
end Go.Proofs.YtjnoobmaedgooaaGreat.Arch
end
