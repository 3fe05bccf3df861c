/- Parts of a proof: a layer of abstract values over the model, the functions' walks, plain laws. -/
import Derived.Deep.CondSized
import Derived.Defers
import Derived.IntWalk
import Derived.KernelRfl
import Derived.Laws.Append
import Derived.Laws.AppendOwn
import Derived.Laws.BytesArg
import Derived.Laws.ComplexArith
import Derived.Laws.Cover3
import Derived.Laws.Entries
import Derived.Laws.FloatBits
import Derived.Laws.IdiomCopy
import Derived.Laws.IdiomStrings
import Derived.Laws.Pointers
import Derived.Laws.Small
import Derived.Laws.Strings
import Derived.Laws.StructEq
import Derived.Lib.Small
import Derived.Lib.Walk
import Derived.MapKept
import Derived.OpenShut
import Derived.Orders
import Derived.OrdersIn
import Derived.ProofKit
import Derived.RangeFuncRecord
import Derived.RangeFuncSeq
import Derived.ReadAgain
import Derived.Recover
import Derived.Scope
import Derived.Shelf.Lay
import Derived.Shelf.SlSortCmp.InsertionK
import Derived.Shelf.SlSortCmp.WholeK
import Derived.SizedLaws
import Derived.Tactics
import Derived.Tactics2
import Derived.Test.YtjnoobmaedgooaaGreatProg
import Derived.Test.YtjnoobmaedgooaaGreatRows
import Derived.WalkKit
import Derived.WalkSmall
import Derived.Test.YtjnoobmaedgooaaGreatABD
set_option linter.unusedSimpArgs false
set_option linter.unusedVariables false
section
set_option maxRecDepth 100000
namespace Go.Proofs.YtjnoobmaedgooaaGreat.Arch
open Go Go.Av Go.Proofs Go.Proofs.YtjnoobmaedgooaaGreat.C Go.Proofs.YtjnoobmaedgooaaGreat.Batch Go.Proofs.YtjnoobmaedgooaaGreat.Desk
def I5 (O:Option (List Pt)):AV:= .tup [.sl 3 (pts (O.getD [])) .any,.int .i64 (if O.isSome then 0 else 4)]
def QDe (O:Option (List Pt)):az→St→Prop:=fun e s'=>gh e∧∃q,gg [.tmp 2,.tmp 3] s'.t s'.h=some q∧af q (I5 O)
abbrev QDs (O:Option (List Pt)):az→St→Prop:=az.within Tryz.prog 99 mC (QDe O)
theorem dQ {N:Nat} {c rest:AC} {l:Nat} {s:St} {Q:az→St→Prop} (h:dS c l=some (.seq .skip rest)) (hw:Wp Tryz.prog N rest s (az.within Tryz.prog N c Q)):az.within Tryz.prog N c Q (.goto l) s:=by
 simp only[az.within,h]
 exact WpS.step (Wp.seq (Wp.skip hw))
theorem sr {t:Tm} {h:H}:QDs none (.goto 3) ⟨t,h⟩:=by
 refine dQ wo ?_
 unfold wm
 refine fO ?_
 refine Wp.ret (show QDe none .ret _ from ⟨trivial,_,rfl,?_⟩)
 exact af.tup (ae.cons af.cap (ae.cons (af.refl _) ae.nil))
theorem wq {t:Tm} {f:Nat→Option Av.Obj} {n m a:Nat} {K:List Nat} {l:List (Nat × AV)} (ha:a∈K) (h:au t l):aE ⟨t,⟨f,n,K,m⟩⟩ ⟨tm l,⟨ag,n,[a],m⟩⟩:=
 aE.of (bj h) (fun a o ho=>by cases ho) (fun x hx=>(List.mem_singleton.1 hx)▸ha) (Nat.le_refl _) (Nat.le_refl _)
set_option maxHeartbeats 4000000 in
theorem CA (s:List UInt8) (hs:s.length≤128) (i:Nat) (out:List Pt) (a n m:Nat) (d:Bool) (hi:i<s.length) (ho:out.length≤i) (ha:a<m) (h2:s.getD i 0=if d then 4 else 3)
  (ih:∀out' a' m',i+1+8≤s.length→out'.length≤i+1+8→a'<m'→Wp Tryz.prog 99 lG ⟨tm [(0,.str s),(4,.sl 3 (pts out') (.own a')),(6,.int .i64 (i+1+8:Nat))],⟨ag,n,[a'],m'⟩⟩ (QDs (stO s out' (i+1+8)))):
  Wp Tryz.prog 99 sq ⟨tm [(0,.str s),(4,.sl 3 (pts out) (.own a)),(6,.int .i64 (i+1:Nat))],⟨ag,n,[a],m⟩⟩ (QDs (stO s out i)):=by
 rw[Er out hi d h2]
 unfold sq
 have w0:IntKind.i64.wrap (((s.length:Nat):Int) - ((i+1:Nat):Int))=((s.length - (i+1):Nat):Int):=by rw[IntWalk.i64_in _ (by omega)];omega
 by_cases h8:s.length - (i+1)<8
 ·have d1:decide (((s.length - (i+1):Nat):Int)<8)=true:=decide_eq_true (by omega)
  rw[if_pos h8]
  refine rf0 (cj2 w0 d1) ?_
  exact Wp.goto (show QDs none (.goto 3) _ from sr)
 ·have d1:decide (((s.length - (i+1):Nat):Int)<8)=false:=decide_eq_false (by omega)
  rw[if_neg h8]
  have w2:IntKind.i64.wrap (((i+1:Nat):Int) - 1)=(i:Int):=by rw[IntWalk.i64_in _ (by omega)];omega
  have w3:IntKind.i64.wrap (((i+1:Nat):Int)+8)=((i+1+8:Nat):Int):=by rw[IntWalk.i64_in _ (by omega)];omega
  have x1:(0:Int)≤(i:Int):=by omega
  have x2:(i:Int)<(s.length:Int):=by omega
  have x3:(0:Int)≤((i+1:Nat):Int):=by omega
  have x4:((i+1:Nat):Int)≤((i+1+8:Nat):Int):=by omega
  have x5:((i+1+8:Nat):Int)≤(s.length:Int):=by omega
  have x6:(0:Int)≤((i+1+8:Nat):Int):=by omega
  have hcut:(s.take (i+1+8)).drop (i+1)=(s.drop (i+1)).take 8:=by
   rw[List.drop_take];congr 1;omega
  have q3:=kI (s.getD i 0) 3 (by decide)
  have hbyte:((3:Nat):Int)=3:=rfl
  rw[hbyte] at q3
  have hb:((s.drop (i+1)).take 8).length=8:=by simp;omega
  have lp:=dI out
  have e6:(out.length+1)*32≤140737488355328:=by omega
  have e7:out.length+1<4611686018427387904:=by omega
  generalize hbb:(s.drop (i+1)).take 8=b at*
  cases d with
  |false=>
   have c1:=Ci b hb 0
   rw[show decide (s.getD i 0=UInt8.ofNat 3)=true from by rw[h2];rfl] at q3
   have z:((0:UInt8).toNat:Int)=0:=rfl
   rw[z] at c1
   refine rf1 (bL w0 d1 w2 w3 x1 x2 x3 x4 x5 x6 @byte.eq_1 (bL q3 hcut lp e6 e7 @Int.toNat_natCast @List.length_cons.{0} @List.length_nil.{0} @Nat.zero_add @List.mem_singleton.{0} @true_or @and_self)) c1 ?_
   have W:=ih (out++[⟨2,rdN 0 b,[]⟩]) m (m+1) (by omega) (by simp only[List.length_append,List.length_cons,List.length_nil];omega) (by omega)
   refine Wp.goto ?_
   refine dQ (Q:=QDe _) lH ?_
   refine Wp.le (wq (a:=m) List.mem_cons_self ?_) W
   simp only[au,go_sem,reduceIte,Nat.reduceEqDiff,Nat.reduceAdd,bx];and_intros<;>first|exact trivial|exact af.refl _|exact af.any _|exact af.of_eq (by rw[jS];rfl)|(refine af.int ?_;omega)
  |true=>
   have c1:=Ci b hb 255
   rw[show decide (s.getD i 0=UInt8.ofNat 3)=false from by rw[h2];rfl] at q3
   have z:((255:UInt8).toNat:Int)=255:=rfl
   rw[z] at c1
   refine rf1 (bL w0 d1 w2 w3 x1 x2 x3 x4 x5 x6 @byte.eq_1 (bL q3 hcut lp e6 e7 @Int.toNat_natCast @List.length_cons.{0} @List.length_nil.{0} @Nat.zero_add @List.mem_singleton.{0} @true_or @and_self)) c1 ?_
   have W:=ih (out++[⟨3,rdN 255 b,[]⟩]) m (m+1) (by omega) (by simp only[List.length_append,List.length_cons,List.length_nil];omega) (by omega)
   refine Wp.goto ?_
   refine dQ (Q:=QDe _) lH ?_
   refine Wp.le (wq (a:=m) List.mem_cons_self ?_) W
   simp only[au,go_sem,reduceIte,Nat.reduceEqDiff,Nat.reduceAdd,bx];and_intros<;>first|exact trivial|exact af.refl _|exact af.any _|exact af.of_eq (by rw[jS];rfl)|(refine af.int ?_;omega)
set_option maxHeartbeats 4000000 in
theorem EB (s:List UInt8) (hs:s.length≤128):∀(k:Nat),
  (∀(i:Nat) (out:List Pt) (a n m:Nat),s.length - i≤k→i≤s.length→out.length≤i→a<m→
   Wp Tryz.prog 99 lG ⟨tm [(0,.str s),(4,.sl 3 (pts out) (.own a)),(6,.int .i64 i)],⟨ag,n,[a],m⟩⟩ (QDs (stO s out i)))
  ∧(∀(i:Nat) (out:List Pt) (t:List UInt8) (a b n m:Nat),s.length - i≤k→i≤s.length→out.length+1≤i→t.length≤i→a<m→b<m→a≠b→
   Wp Tryz.prog 99 pL ⟨tm [(0,.str s),(4,.sl 3 (pts out) (.own a)),(5,.sl 1 (ak t) (.own b)),(6,.int .i64 i)],⟨ag,n,[b,a],m⟩⟩ (QDs (txO s out t i))):=by
 intro k
 induction k with
 |zero=>
  constructor
  ·intro i out a n m hk hi ho ha
   have hi2:i=s.length:=by omega
   subst hi2
   rw[Em]
   unfold lG
   have d1:decide (((s.length:Nat):Int)=((s.length:Nat):Int))=true:=decide_eq_true rfl
   refine rf0 d1 ?_
   refine Wp.ret (show QDe (some out) .ret _ from ⟨trivial,_,rfl,?_⟩)
   exact af.tup (ae.cons af.cap (ae.cons (af.refl _) ae.nil))
  ·intro i out t a b n m hk hi ho ht ha hb hab
   have hi2:i=s.length:=by omega
   subst hi2
   rw[En]
   unfold pL
   have d1:decide (((s.length:Nat):Int)=((s.length:Nat):Int))=true:=decide_eq_true rfl
   refine rf0 d1 ?_
   exact Wp.goto (show QDs none (.goto 3) _ from sr)
 |succ k ih=>
  obtain ⟨ih0,ih1⟩:=ih
  constructor
  ·intro i out a n m hk hi ho ha
   by_cases hc:i<s.length
   ·have d1:decide (((i:Nat):Int)=((s.length:Nat):Int))=false:=decide_eq_false (by omega)
    have w1:IntKind.i64.wrap ((i:Int)+1)=((i+1:Nat):Int):=by rw[IntWalk.i64_in _ (by omega)];omega
    have w2:IntKind.i64.wrap (((i+1:Nat):Int) - 1)=(i:Int):=by rw[IntWalk.i64_in _ (by omega)];omega
    have x1:(0:Int)≤(i:Int):=by omega
    have x2:(i:Int)<(s.length:Int):=by omega
    have q3:=kI (s.getD i 0) 3 (by decide)
    have q4:=kI (s.getD i 0) 4 (by decide)
    have q2:=kI (s.getD i 0) 2 (by decide)
    have hbyte:((3:Nat):Int)=3:=rfl
    have hbyte4:((4:Nat):Int)=4:=rfl
    have hbyte2:((2:Nat):Int)=2:=rfl
    rw[hbyte] at q3
    rw[hbyte4] at q4
    rw[hbyte2] at q2
    unfold lG
    by_cases b2:s.getD i 0=2
    ·rw[Ck out hc b2]
     rw[show decide (s.getD i 0=UInt8.ofNat 2)=true from decide_eq_true b2] at q2
     refine rf0 (cj9 d1 w1 w2 x1 x2 @and_self @byte.eq_1 q2 @Int.toNat_natCast) ?_
     refine Wp.le (aE.tok _ _) ?_
     have W:=ih1 (i+1) out [] a m n (m+1) (by omega) (by omega) (by omega) (by simp) (by omega) (by omega) (by omega)
     refine Wp.goto ?_
     refine dQ (Q:=QDe _) lI ?_
     refine Wp.le (aE.of (bj ?_) (OLe.cO _) (fun a ha=>ha) (Nat.le_refl _) (Nat.le_refl _)) W
     simp only[au,go_sem,reduceIte,Nat.reduceEqDiff,Nat.reduceAdd,bx,ak,List.map_nil];and_intros<;>first|exact trivial|exact af.refl _|exact af.any _|exact af.dD rfl|(refine af.int ?_;omega)
    ·rw[show decide (s.getD i 0=UInt8.ofNat 2)=false from decide_eq_false b2] at q2
     by_cases b3:s.getD i 0=3
     ·rw[show decide (s.getD i 0=UInt8.ofNat 3)=true from decide_eq_true b3] at q3
      refine rf0 (nS d1 w1 w2 x1 x2 @and_self @byte.eq_1 q2 q3 @Int.toNat_natCast) ?_
      have W:=CA s hs i out a n m false hc ho ha (by simpa using b3) (fun out' a' m' h1 h2 h3=>ih0 (i+1+8) out' a' n m' (by omega) h1 h2 h3)
      refine Wp.goto ?_
      refine dQ (Q:=QDe _) pM ?_
      refine Wp.le (aE.of (bj ?_) (OLe.cO _) (fun a ha=>ha) (Nat.le_refl _) (Nat.le_refl _)) W
      exact xSb
     ·rw[show decide (s.getD i 0=UInt8.ofNat 3)=false from decide_eq_false b3] at q3
      by_cases b4:s.getD i 0=4
      ·rw[show decide (s.getD i 0=UInt8.ofNat 4)=true from decide_eq_true b4] at q4
       refine rf0 (nT d1 w1 w2 x1 x2 @and_self @byte.eq_1 q2 q3 q4 @Int.toNat_natCast) ?_
       have W:=CA s hs i out a n m true hc ho ha (by simpa using b4) (fun out' a' m' h1 h2 h3=>ih0 (i+1+8) out' a' n m' (by omega) h1 h2 h3)
       refine Wp.goto ?_
       refine dQ (Q:=QDe _) pM ?_
       refine Wp.le (aE.of (bj ?_) (OLe.cO _) (fun a ha=>ha) (Nat.le_refl _) (Nat.le_refl _)) W
       exact xSb
      ·rw[show decide (s.getD i 0=UInt8.ofNat 4)=false from decide_eq_false b4] at q4
       rw[Es out hc b2 b3 b4]
       refine rf0 (nT d1 w1 w2 x1 x2 @and_self @byte.eq_1 q2 q3 q4 @Int.toNat_natCast) ?_
       exact Wp.goto (show QDs none (.goto 3) _ from sr)
   ·exact ih0 i out a n m (by omega) hi ho ha
  ·intro i out t a b n m hk hi ho ht ha hb hab
   have lp:=dI out
   have lb:=aR t
   have e6:(out.length+1)*32≤140737488355328:=by omega
   have e7:out.length+1<4611686018427387904:=by omega
   have e3:t.length+1≤140737488355328:=by omega
   have e4:t.length+1<4611686018427387904:=by omega
   by_cases hc:i<s.length
   ·have d1:decide (((i:Nat):Int)=((s.length:Nat):Int))=false:=decide_eq_false (by omega)
    have w1:IntKind.i64.wrap ((i:Int)+1)=((i+1:Nat):Int):=by rw[IntWalk.i64_in _ (by omega)];omega
    have w2:IntKind.i64.wrap (((i+1:Nat):Int) - 1)=(i:Int):=by rw[IntWalk.i64_in _ (by omega)];omega
    have x1:(0:Int)≤(i:Int):=by omega
    have x2:(i:Int)<(s.length:Int):=by omega
    unfold pL
    by_cases hz:s.getD i 0=0
    ·have z0:((0:UInt8).toNat:Int)=0:=rfl
     have zd:decide ((0:Int)=0)=true:=rfl
     by_cases hn:i+1<s.length
     ·have y1:decide (((i+1:Nat):Int)=(s.length:Int))=false:=decide_eq_false (by omega)
      have y2:(0:Int)≤((i+1:Nat):Int):=by omega
      have y3:((i+1:Nat):Int)<(s.length:Int):=by omega
      have v1:IntKind.i64.wrap (((i+1:Nat):Int)+1)=((i+1+1:Nat):Int):=by rw[IntWalk.i64_in _ (by omega)];omega
      have v2:IntKind.i64.wrap (((i+1+1:Nat):Int) - 1)=((i+1:Nat):Int):=by rw[IntWalk.i64_in _ (by omega)];omega
      have p1:=kI (s.getD (i+1) 0) 1 (by decide)
      have p255:=kI (s.getD (i+1) 0) 255 (by decide)
      have n1:((1:Nat):Int)=1:=rfl
      have n255:((255:Nat):Int)=255:=rfl
      rw[n1] at p1
      rw[n255] at p255
      rw[Ep out t hn hz]
      by_cases b2:s.getD (i+1) 0=255
      ·rw[show decide (s.getD (i+1) 0=UInt8.ofNat 255)=true from decide_eq_true b2] at p255
       rw[if_pos b2]
       refine rf0 (bL d1 w1 w2 x1 x2 @and_self @byte.eq_1 hz z0 zd y1 (bL y2 y3 v1 v2 p255 lb e3 e4 @Int.toNat_natCast @Nat.mul_one @Nat.one_mul (cj6 @true_and @List.length_cons.{0} @List.length_nil.{0} @Nat.zero_add @List.mem_cons.{0} @true_or))) ?_
       have W:=ih1 (i+1+1) out (t++[0]) a m n (m+1) (by omega) (by omega) (by omega) (by simp only[List.length_append,List.length_cons,List.length_nil];omega) (by omega) (by omega) (by omega)
       refine Wp.goto ?_
       refine dQ (Q:=QDe _) lI ?_
       refine Wp.le (aE.of (bj ?_) (OLe.cO _) (fun x hx=>?_) (Nat.le_refl _) (Nat.le_refl _)) W
       ·simp only[au,go_sem,reduceIte,Nat.reduceEqDiff,Nat.reduceAdd,bx];and_intros<;>first|exact trivial|exact af.refl _|exact af.any _|exact af.of_eq (by simp[ak,byte])|(refine af.int ?_;omega)
       ·have hne:decide (¬a=b)=true:=decide_eq_true hab
        simpa [hne] using hx
      ·rw[show decide (s.getD (i+1) 0=UInt8.ofNat 255)=false from decide_eq_false b2] at p255
       rw[if_neg b2]
       by_cases b1:s.getD (i+1) 0=1
       ·rw[show decide (s.getD (i+1) 0=UInt8.ofNat 1)=true from decide_eq_true b1] at p1
        rw[if_pos b1]
        refine rf0 (bL d1 w1 w2 x1 x2 @and_self @byte.eq_1 hz z0 zd y1 (bL y2 y3 v1 v2 p255 p1 lp e6 e7 @bU @Option.map_some.{0,0} (nT @Int.toNat_natCast @Nat.mul_one @Nat.one_mul @true_and @List.length_cons.{0} @List.length_nil.{0} @Nat.zero_add @List.mem_cons.{0} @List.mem_singleton.{0} @true_or @or_true))) ?_
        have W:=ih0 (i+1+1) (out++[⟨1,0,t⟩]) m n (m+1) (by omega) (by omega) (by simp only[List.length_append,List.length_cons,List.length_nil];omega) (by omega)
        refine Wp.goto ?_
        refine dQ (Q:=QDe _) lH ?_
        refine Wp.le (wq (a:=m) List.mem_cons_self ?_) W
        simp only[au,go_sem,reduceIte,Nat.reduceEqDiff,Nat.reduceAdd,bx];and_intros<;>first|exact trivial|exact af.refl _|exact af.any _|exact af.of_eq (by rw[jS];rfl)|(refine af.int ?_;omega)
       ·rw[show decide (s.getD (i+1) 0=UInt8.ofNat 1)=false from decide_eq_false b1] at p1
        rw[if_neg b1]
        refine rf0 (bL d1 w1 w2 x1 x2 @and_self @byte.eq_1 hz z0 zd y1 (cj7 y2 y3 v1 v2 p255 p1 @Int.toNat_natCast)) ?_
        refine Wp.ret (show QDe none .ret _ from ⟨trivial,_,rfl,?_⟩)
        exact af.tup (ae.cons af.cap (ae.cons (af.refl _) ae.nil))
     ·have y1:decide (((i+1:Nat):Int)=(s.length:Int))=true:=decide_eq_true (by omega)
      rw[Eo out t (by omega) hz]
      refine rf0 (bL d1 w1 w2 x1 x2 @and_self @byte.eq_1 hz z0 zd y1 @Int.toNat_natCast) ?_
      exact Wp.goto (show QDs none (.goto 3) _ from sr)
    ·have d3:=BY hz
     rw[Gu out t hc hz]
     refine rf0 (bL d1 w1 w2 x1 x2 @and_self @byte.eq_1 d3 lb e3 e4 (cj9 @Int.toNat_natCast @Nat.mul_one @Nat.one_mul @true_and @List.length_cons.{0} @List.length_nil.{0} @Nat.zero_add @List.mem_cons.{0} @true_or)) ?_
     have W:=ih1 (i+1) out (t++[s.getD i 0]) a m n (m+1) (by omega) (by omega) (by omega) (by simp only[List.length_append,List.length_cons,List.length_nil];omega) (by omega) (by omega) (by omega)
     refine Wp.goto ?_
     refine dQ (Q:=QDe _) lI ?_
     refine Wp.le (aE.of (bj ?_) (OLe.cO _) (fun x hx=>?_) (Nat.le_refl _) (Nat.le_refl _)) W
     ·simp only[au,go_sem,reduceIte,Nat.reduceEqDiff,Nat.reduceAdd,bx];and_intros<;>first|exact trivial|exact af.refl _|exact af.any _|exact af.of_eq (by simp[ak,byte])|(refine af.int ?_;omega)
     ·have hne:decide (¬a=b)=true:=decide_eq_true hab
      simpa [hne] using hx
   ·exact ih1 i out t a b n m (by omega) hi ho ht ha hb hab
theorem CB (s:List UInt8) (hs:s.length≤140737488355328):aD Tryz.prog 156 [.str s] (.tup [.sl 3 (pts (kP s)) .any,.int .i64 (nW s)]):=by
 refine f156.aC (by simp) rfl (by simp[aN,ay,bB,Cj]) ?_
 rw[EA]
 by_cases hb:128<s.length
 ·have g0:decide ((128:Int)<((s.length:Nat):Int))=true:=decide_eq_true (by omega)
  have e1:kP s=[]:=by unfold kP;rw[if_pos hb]
  have e2:nW s=5:=by unfold nW;rw[if_pos hb]
  rw[e1,e2]
  have hp:pts []=[]:=rfl
  rw[hp]
  refine Wp.cz xA1 (by trivial) ?_
  refine Wp.scope (WpS.step ?_)
  unfold mC
  refine rf0 g0 ?_
  refine Wp.ret ⟨trivial,_,rfl,?_⟩
  exact af.tup (ae.cons (af.cap) (ae.cons (af.refl _) ae.nil))
 ·have g0:decide ((128:Int)<((s.length:Nat):Int))=false:=decide_eq_false (by omega)
  have e1:kP s=(stO s [] 0).getD []:=by unfold kP stO;rw[if_neg hb];simp
  have e2:nW s=if (stO s [] 0).isSome then 0 else 4:=by unfold nW stO;rw[if_neg hb];simp
  rw[e1,e2]
  show Wp Tryz.prog 99 _ _ (QDe (stO s [] 0))
  refine Wp.cz xA1 (by trivial) ?_
  refine Wp.scope (WpS.step ?_)
  show Wp Tryz.prog 99 mC _ (QDs (stO s [] 0))
  have W:=(EB s (by omega) s.length).1 0 [] 0 0 1 (by omega) (by omega) (by simp) (by omega)
  unfold mC
  generalize lG=R at*
  refine rf0 g0 ?_
  refine Wp.le (aE.tok _ _) ?_
  refine Wp.le (s':=⟨tm [(0,.str s),(4,.sl 3 (pts []) (.own 0)),(6,.int .i64 (0:Nat))],⟨ag,0,[0],1⟩⟩) (aE.of (bj ?_) (OLe.cO _) (fun a ha=>ha) (Nat.le_refl _) (Nat.le_refl _)) W
  simp only[au,go_sem,reduceIte,Nat.reduceEqDiff,Nat.reduceAdd,bx,pts,List.map_nil];and_intros<;>first|exact trivial|exact af.refl _|exact af.any _|exact af.dD rfl|(refine af.int ?_;omega)
def lets:List UInt8:=[98,111,99,117,112,113]
def ru (s:List UInt8) (c:UInt8):Int:=match (List.range s.length).find? fun i=>s.getD i 0 == c with|some i=>(i:Int)|none=> -1
theorem EC (s:List UInt8) (c:UInt8):aD Tryz.prog 219 [.str s,.int .u8 c.toNat] (.int .i64 (ru s c)):=by
 refine f219.aC (by simp) rfl rfl ?_
 unfold HJ
 simp only[C.zz]
 have b0:(0:Int)≤((c.toNat:Nat):Int):=by omega
 have b1:((c.toNat:Nat):Int)<256:=by have:=c.toNat_lt;omega
 have b2:UInt8.ofNat c.toNat=c:=UInt8.ofNat_toNat
 refine rf0 (cj5 b0 b1 @and_self @Int.toNat_natCast b2) ?_
 refine aK ?_
 exact af.refl _
theorem CC (s:List UInt8) (c:UInt8) (hs:1<s.length) (hs2:s.length≤1000000):aD Tryz.prog 200 [.str s,.str [c]] (.int .i64 (ru s c)):=by
 refine f200.aC (by simp) rfl rfl ?_
 unfold HC
 simp only[C.zz]
 have ci:=EC s c
 have d1:decide (((1:Nat):Int)=1)=true:=rfl
 have d0:decide (((1:Nat):Int)=0)=false:=rfl
 have dn:decide ([c]=s)=false:=decide_eq_false (by rintro rfl;simp at hs)
 have x0:(0:Int)<((1:Nat):Int):=by decide
 have l1:[c].length=1:=rfl
 have g0:[c].getD 0 0=c:=rfl
 refine rf1 (nS l1 d1 d0 dn x0 g0 @byte.eq_1 Int.toNat_zero @Int.le_refl @and_self) ci ?_
 refine aK ?_
 exact af.refl _
theorem ED (s:List UInt8) (c:UInt8) (hs:1<s.length) (hs2:s.length≤1000000):aD Tryz.prog 157 [.str s,.str [c]] (.int .i64 (ru s c)):=by
 refine f157.aC (by simp) rfl rfl ?_
 unfold Hp
 simp only[C.zz]
 have ci:=CC s c hs hs2
 refine u9 ci ?_
 refine aK ?_
 exact af.refl _
def eR (c:UInt8):Int:=ru lets c+1
theorem CD (c:UInt8):eR c=if c=98 then 1 else if c=111 then 2 else if c=99 then 3 else if c=117 then 4 else if c=112 then 5 else if c=113 then 6 else 0:=by
 by_cases h1:c=98
 ·subst h1;decide
 by_cases h2:c=111
 ·subst h2;decide
 by_cases h3:c=99
 ·subst h3;decide
 by_cases h4:c=117
 ·subst h4;decide
 by_cases h5:c=112
 ·subst h5;decide
 by_cases h6:c=113
 ·subst h6;decide
 rw[if_neg h1,if_neg h2,if_neg h3,if_neg h4,if_neg h5,if_neg h6]
 have hf:(List.range lets.length).find? (fun i=>lets.getD i 0 == c)=none:=by
  rw[List.find?_eq_none]
  intro i hi
  have:i<6:=by simpa [lets] using hi
  obtain rfl|rfl|rfl|rfl|rfl|rfl:i=0∨i=1∨i=2∨i=3∨i=4∨i=5:=by omega
  all_goals simp[lets,beq_iff_eq]
  ·exact fun h=>h1 h.symm
  ·exact fun h=>h2 h.symm
  ·exact fun h=>h3 h.symm
  ·exact fun h=>h4 h.symm
  ·exact fun h=>h5 h.symm
  ·exact fun h=>h6 h.symm
 unfold eR ru
 rw[hf];rfl
theorem EE (n:Int):IntKind.i64.wrap n<9223372036854775808:=by
 rw[IntKind.wrap_i64];omega
theorem CE (m:UInt8) (b:List UInt8):rdN m b<9223372036854775808:=EE _
def xG (p:Pt):Prop:=p.n<9223372036854775808
theorem GA {s:List UInt8} {p:Pt} {n:Nat} (h:rdP s=some (p,n)):xG p:=by
 cases s with
 |nil=>simp[rdP] at h
 |cons a r=>
  simp only[rdP] at h
  split at h
  ·obtain ⟨x,hx,he⟩:=Option.map_eq_some_iff.1 h
   simp only[Prod.mk.injEq] at he
   rw[←he.1];show (0:Int)<_;decide
  ·split at h
   ·split at h
    ·cases h
    ·simp only[Option.some.injEq,Prod.mk.injEq] at h
     rw[←h.1];exact CE _ _
   ·split at h
    ·split at h
     ·cases h
     ·simp only[Option.some.injEq,Prod.mk.injEq] at h
      rw[←h.1];exact CE _ _
    ·cases h
theorem xH:∀{k:Nat} {s:List UInt8} {l:List Pt},nV k s=some l→(∀p∈l,xG p)∧l.length≤s.length
 |0,s,l,h=>by
  simp only[nV] at h
  split at h
  ·simp only[Option.some.injEq] at h;subst h;exact ⟨by simp,by simp⟩
  ·cases h
 |k+1,s,l,h=>by
  simp only[nV] at h
  split at h
  ·simp only[Option.some.injEq] at h;subst h;exact ⟨by simp,by simp⟩
  ·cases hp:rdP s with
   |none=>rw[hp] at h;cases h
   |some x=>
    obtain ⟨p,n⟩:=x
    rw[hp] at h
    obtain ⟨l',h1,rfl⟩:=Option.map_eq_some_iff.1 h
    obtain ⟨i1,i2⟩:=xH h1
    have hn:=sf hp
    have hd:(s.drop n).length=s.length - n:=List.length_drop
    refine ⟨fun q hq=>?_,by simp only[List.length_cons];omega⟩
    rcases List.mem_cons.1 hq with rfl|hq
    ·exact GA hp
    ·exact i1 q hq
theorem xI (s:List UInt8):(∀p∈kP s,xG p)∧(kP s).length≤128:=by
 unfold kP
 split
 ·exact ⟨by simp,by simp⟩
 ·unfold qc
  cases h:nV s.length s with
  |none=>exact ⟨by simp,by simp⟩
  |some l=>
   obtain ⟨h1,h2⟩:=xH h
   exact ⟨h1,by show l.length≤128;omega⟩
def pN:List UInt8→Int
 |[c]=>eR c
 |_=>0
def jq (l:List Pt):Ky:=
 let k:=pN (l.getD 0 default).s
 let r:=l.drop 2
 if k≠1∧r≠[] then ⟨k,(l.getD 1 default).s,(r.getD 0 default).s,(r.drop 1).map Pt.n⟩ else ⟨k,(l.getD 1 default).s,[],r.map Pt.n⟩
theorem tW {l:List Pt} (h:∀p∈l,xG p) (hl:l.length≤128):(jq l).fit:=by
 have key:∀(r:List Pt),(∀p∈r,p∈l)→r.length≤128→(r.map Pt.n).length≤1000000∧∀n∈r.map Pt.n,n<9223372036854775808:=fun r hr hl=>by
  refine ⟨by simp;omega,fun n hn=>?_⟩
  obtain ⟨p,hp,rfl⟩:=List.mem_map.1 hn
  exact h p (hr p hp)
 unfold jq
 simp only
 split
 ·exact key ((l.drop 2).drop 1) (fun p hp=>List.mem_of_mem_drop (List.mem_of_mem_drop hp)) (by simp only[List.length_drop];omega)
 ·exact key (l.drop 2) (fun p hp=>List.mem_of_mem_drop hp) (by simp only[List.length_drop];omega)
def jZ (s:List UInt8) (l:List Pt):Bool:=decide (2≤l.length)&&decide (iM (jq l)=0)&&decide (fq (jq l)=s)
def CG:Ky:=⟨0,[],[],[]⟩
def eI (s:List UInt8):Bool:=decide (nW s=0)&&jZ s (kP s)
def bm (s:List UInt8):Ky:=if eI s then jq (kP s) else CG
def wu (s:List UInt8):Int:=if eI s then 0 else 4
theorem wv (c:UInt8):0≤eR c∧eR c≤6:=by
 rw[CD]
 repeat' split
 all_goals decide
theorem zZ {x:Ky} (h:x.k=0):iM x=2:=by
 have:iL x=false:=by
  unfold iL
  have:fM x.k= -1:=by rw[h];rfl
  rw[this]
  have:decide (((x.ns.length:Nat):Int)= -1)=false:=decide_eq_false (by omega)
  rw[this];simp
 unfold iM
 rw[this];rfl
theorem CH (l:List Pt):(jq l).k=pN (l.getD 0 default).s:=by
 unfold jq
 simp only
 split<;>rfl
theorem z6 {s:List UInt8} {l:List Pt} (h:pN (l.getD 0 default).s=0):jZ s l=false:=by
 unfold jZ
 rw[zZ (by rw[CH,h])]
 simp
def hdA:AC→AC
 | .seq a _=>a
 |c=>c
def tlA:AC→AC
 | .seq _ b=>b
 |c=>c
def oC:AC:=tlA (tlA (tlA (tlA (tlA (tlA pc)))))
def kyO (k:Int) (b o:List UInt8) (v:AV):Nat→Option Av.Obj:=upd (upd ag 0 (some (.cells [.int .i64 0,.str [],.str [],.sl 1 [] (.exact 0)]))) 1 (some (.cells [.int .i64 k,.str b,.str o,v]))
def QK (s:List UInt8) (x:Ky):az→St→Prop:=fun e s'=>gh e∧∃q,gg [.cell 2 (some 4),.tmp 3] s'.t s'.h=some q∧af q (.tup [eQ (if (decide (iM x=0)&&decide (fq x=s))=true then x else CG),.int .i64 (if (decide (iM x=0)&&decide (fq x=s))=true then 0 else 4)])
theorem wx (s:List UInt8) (k:Int) (b o:List UInt8) (r:List Pt) (hr:r.length≤128) (hf:(⟨k,b,o,r.map Pt.n⟩:Ky).fit):
  Wp Tryz.prog 88 oC ⟨tm [(0,.str s),(2,.ptr 0 0),(4,.sl 3 (pts r) .any),(6,.ptr 1 0)],⟨kyO k b o (.sl 1 [] (.exact 0)),2,[],0⟩⟩ (QK s ⟨k,b,o,r.map Pt.n⟩):=by
 have lp:=dI r
 have ck:=Fy _ hf
 have hno:eQ CG= .agg [.int .i64 0,.str [],.str [],.sl 1 [] .any]:=rfl
 have hen:eQ ⟨k,b,o,r.map Pt.n⟩= .agg [.int .i64 k,.str b,.str o,.sl 1 (ints (r.map Pt.n)) .any]:=rfl
 unfold QK
 rw[hen] at ck
 generalize iM ⟨k,b,o,r.map Pt.n⟩=ke at*
 generalize fq ⟨k,b,o,r.map Pt.n⟩=ks at*
 unfold oC pc kyO
 simp only[tlA]
 refine rf0 lp ?_
 refine Wp.le (aE.tok _ _) ?_
 refine Wp.le (s':=⟨tm [(0,.str s),(2,.ptr 0 0),(6,.ptr 1 0),(60,.sl 3 (pts r) .any),(61,.int .i64 r.length),(62,.int .i64 (0:Nat))],⟨kyO k b o (.sl 1 (ints []) (.own 0)),2,[0],1⟩⟩) (aE.of (bj ?_) (OLe.upd (OLe.cO _) (ae.cons (af.refl _) (ae.cons (af.refl _) (ae.cons (af.refl _) (ae.cons (af.dD rfl) ae.nil))))) (fun a ha=>ha) (Nat.le_refl _) (Nat.le_refl _)) ?_
 ·exact xSb
 refine Wp.eM [0,2,6,60,61] xA7 (fun j:Nat × Nat × Nat × Nat=>[(62,.int .i64 (j.1:Nat))]) (fun j=>⟨kyO k b o (.sl 1 (ints ((r.take j.1).map Pt.n)) (.own j.2.1)),j.2.2.1,[j.2.1],j.2.2.2⟩) (fun j=>j.1≤r.length∧2≤j.2.2.1∧j.2.1<j.2.2.2) (fun j=>r.length - j.1) (0,0,2,1) ⟨Nat.zero_le _,by decide,by decide⟩ rfl ?_ ?_
 ·exact xSb
 rintro ⟨j,tk,n,m⟩ ⟨hj,hn2,htm⟩
 simp only at hj hn2 htm
 have n0:¬(0=n):=by omega
 have n1:¬(n=0):=by omega
 have n2:¬(1=n):=by omega
 have n3:¬(n=1):=by omega
 by_cases hc:j<r.length
 ·obtain ⟨g1,h2,h3,e1⟩:=ixF (j:=j) (n:=r.length) (by omega) (by omega)
  have hat:=iK r j .any hc
  have hsn:ints ((r.take (j+1)).map Pt.n)=ints ((r.take j).map Pt.n)++[.int .i64 (r.getD j default).n]:=by
   have e:r.getD j default=r[j]:=by simp[List.getD,List.getElem?_eq_getElem hc]
   rw[e,List.take_succ_eq_append_getElem hc,List.map_append]
   simp only[ints,List.map_append,List.map_cons,List.map_nil]
  have li:(ints ((r.take j).map Pt.n)).length=j:=by rw[fD];simp;omega
  have e6:(j+1)*8≤140737488355328:=by omega
  have e7:j+1<4611686018427387904:=by omega
  unfold dH at hat
  unfold kyO
  refine rf0 (bL g1 h2 h3 lp hat n0 n1 n2 n3 li e6 (cj8 e7 @Int.toNat_natCast @and_self @List.length_cons.{0} @List.length_nil.{0} @Nat.zero_add @List.mem_singleton.{0} @true_or)) ?_
  refine ⟨(j+1,m,n+1,m+1),⟨hc,by simp only;omega,by simp⟩,Nat.sub_lt_sub_left hc (Nat.lt_succ_self _),?_⟩
  rw[hsn]
  refine aE.of (bj ?_) (fun a u hu=>⟨u,?_,cJ.refl _⟩) (fun x hx=>by simpa using hx) (Nat.le_refl _) (Nat.le_refl _)
  ·simp only[au,go_sem,reduceIte,Nat.reduceEqDiff,Nat.reduceAdd,bx,e1];and_intros<;>first|exact trivial|exact af.refl _|exact af.any _|(refine af.int ?_;omega)
  ·simp only[upd,ag,kyO] at hu ⊢
   by_cases a1:a=1
   ·subst a1;simpa using hu
   ·by_cases a0:a=0
    ·subst a0;simpa [n0] using hu
    ·simp[a1,a0] at hu
 ·have hj2:j=r.length:=by omega
  subst hj2
  have g1:=ixE (r.length)
  rw[List.take_length]
  unfold kyO
  have hv:af (.agg [.int .i64 k,.str b,.str o,.sl 1 (ints (r.map Pt.n)) (.own tk)]) (.agg [.int .i64 k,.str b,.str o,.sl 1 (ints (r.map Pt.n)) .any]):=af.agg (ae.cons (af.refl _) (ae.cons (af.refl _) (ae.cons (af.refl _) (ae.cons af.cap ae.nil))))
  have hz:af (.agg [.int .i64 0,.str [],.str [],.sl 1 [] (.exact 0)]) (.agg [.int .i64 0,.str [],.str [],.sl 1 [] .any]):=af.agg (ae.cons (af.refl _) (ae.cons (af.refl _) (ae.cons (af.refl _) (ae.cons af.cap ae.nil))))
  cases dk:decide (ke=0) with
  |true=>
   cases ds:decide (ks=s) with
   |true=>
    repeat (first
     |refine aa.nil ?_
     |((first|apply Wp.ar|apply Wp.bI|((first
       |(refine aa.aO ?_ ?_ (ck) ?_;(· simp only[go_sem,reduceIte,Nat.reduceEqDiff,Nat.reduceAdd,bx]);(· simp only[go_sem,reduceIte,Nat.reduceEqDiff,Nat.reduceAdd,bx,List.map,ax,if_true,if_false,Nat.reduceMul,Nat.reduceLeDiff,g1,dk,ds];exact ae.cons hv ae.nil)));apply aa.evF));(· simp only[go_sem,reduceIte,Nat.reduceEqDiff,Nat.reduceAdd,bx,ax,if_true,if_false,Nat.reduceMul,Nat.reduceLeDiff,g1,dk,ds];exact rfl))
     |(apply Wp.aJ;(· simp only[go_sem,reduceIte,Nat.reduceEqDiff,Nat.reduceAdd,bx,ax,if_true,if_false,Nat.reduceMul,Nat.reduceLeDiff,g1,dk,ds];exact rfl);(· rfl))
     |refine Wp.skip ?_
     |refine Wp.label ?_
     |refine Wp.block ?_
     |refine Wp.exit ?_
     |refine Wp.seq ?_)
    refine aK ?_
    rw[hen]
    exact af.tup (ae.cons hv (ae.cons (af.refl _) ae.nil))
   |false=>
    repeat (first
     |refine aa.nil ?_
     |((first|apply Wp.ar|apply Wp.bI|((first
       |(refine aa.aO ?_ ?_ (ck) ?_;(· simp only[go_sem,reduceIte,Nat.reduceEqDiff,Nat.reduceAdd,bx]);(· simp only[go_sem,reduceIte,Nat.reduceEqDiff,Nat.reduceAdd,bx,List.map,ax,if_true,if_false,Nat.reduceMul,Nat.reduceLeDiff,g1,dk,ds];exact ae.cons hv ae.nil)));apply aa.evF));(· simp only[go_sem,reduceIte,Nat.reduceEqDiff,Nat.reduceAdd,bx,ax,if_true,if_false,Nat.reduceMul,Nat.reduceLeDiff,g1,dk,ds];exact rfl))
     |(apply Wp.aJ;(· simp only[go_sem,reduceIte,Nat.reduceEqDiff,Nat.reduceAdd,bx,ax,if_true,if_false,Nat.reduceMul,Nat.reduceLeDiff,g1,dk,ds];exact rfl);(· rfl))
     |refine Wp.skip ?_
     |refine Wp.label ?_
     |refine Wp.block ?_
     |refine Wp.exit ?_
     |refine Wp.seq ?_)
    refine aK ?_
    rw[hno]
    exact af.tup (ae.cons hz (ae.cons (af.refl _) ae.nil))
  |false=>
   repeat (first
    |refine aa.nil ?_
    |((first|apply Wp.ar|apply Wp.bI|((first
      |(refine aa.aO ?_ ?_ (ck) ?_;(· simp only[go_sem,reduceIte,Nat.reduceEqDiff,Nat.reduceAdd,bx]);(· simp only[go_sem,reduceIte,Nat.reduceEqDiff,Nat.reduceAdd,bx,List.map,ax,if_true,if_false,Nat.reduceMul,Nat.reduceLeDiff,g1,dk];exact ae.cons hv ae.nil)));apply aa.evF));(· simp only[go_sem,reduceIte,Nat.reduceEqDiff,Nat.reduceAdd,bx,ax,if_true,if_false,Nat.reduceMul,Nat.reduceLeDiff,g1,dk];exact rfl))
    |(apply Wp.aJ;(· simp only[go_sem,reduceIte,Nat.reduceEqDiff,Nat.reduceAdd,bx,ax,if_true,if_false,Nat.reduceMul,Nat.reduceLeDiff,g1,dk];exact rfl);(· rfl))
    |refine Wp.skip ?_
    |refine Wp.label ?_
    |refine Wp.block ?_
    |refine Wp.exit ?_
    |refine Wp.seq ?_)
   refine aK ?_
   rw[if_neg (by simp),if_neg (by simp),hno]
   exact af.tup (ae.cons hz (ae.cons (af.refl _) ae.nil))
theorem CI:pc= .seq (hdA pc) (.seq (hdA (tlA pc)) (.seq (hdA (tlA (tlA pc))) (.seq (hdA (tlA (tlA (tlA pc)))) (.seq (hdA (tlA (tlA (tlA (tlA pc))))) (.seq (hdA (tlA (tlA (tlA (tlA (tlA pc)))))) oC))))):=rfl
theorem tX (l:List Pt) (k:Nat):(pts l).drop k=pts (l.drop k):=by simp[pts]
theorem EF (s:List UInt8) (hs:s.length≤140737488355328):aD Tryz.prog 110 [.str s] (.tup [eQ (bm s),.int .i64 (wu s)]):=by
 refine f110.aC (by simp) rfl (by simp[aN,ay,gw]) ?_
 rw[CI]
 have PR:=wx s
 generalize oC=R at*
 unfold pc
 simp only[C.zz]
 simp only[hdA,tlA]
 have cd:=CB s hs
 obtain ⟨hin,hl⟩:=xI s
 have hP:eI s=(decide (nW s=0)&&jZ s (kP s)):=rfl
 have hO:bm s=if eI s then jq (kP s) else CG:=rfl
 have hE:wu s=if eI s then 0 else 4:=rfl
 rw[hO,hE]
 rw[hP]
 clear hO hE hP
 generalize kP s=l at*
 have lp:=dI l
 have i3:ints []=[]:=rfl
 have hno:eQ CG= .agg [.int .i64 0,.str [],.str [],.sl 1 [] .any]:=rfl
 by_cases he:nW s=0
 ·have d1:decide (nW s=0)=true:=decide_eq_true he
  by_cases h2:2≤l.length
  ·have x0:(0:Int)<((l.length:Nat):Int):=by omega
   have x1:(1:Int)<((l.length:Nat):Int):=by omega
   have d2:decide (((l.length:Nat):Int)<2)=false:=decide_eq_false (by omega)
   have a0:=iK l 0 .any (by omega)
   have a1:=iK l 1 .any (by omega)
   unfold dH at a0 a1
   by_cases h1:(l.getD 0 default).s.length=1
   ·obtain ⟨c,hc⟩:∃c,(l.getD 0 default).s=[c]:=by
     generalize (l.getD 0 default).s=t at*
     match t with
     |[]=>simp at h1
     |[c]=>exact ⟨c,rfl⟩
     |_::_::_=>simp at h1
    have l1:([c].length:Nat)=1:=rfl
    have d3:decide (((1:Nat):Int)=1)=true:=rfl
    have cx:aD Tryz.prog 157 [.str [98,111,99,117,112,113],.str [c]] (.int .i64 (eR c - 1)):=by
     have:=ED lets c (by decide) (by decide)
     have e:eR c - 1=ru lets c:=by unfold eR;omega
     rw[e];exact this
    obtain ⟨r1,r2⟩:=wv c
    have w1:IntKind.i64.wrap (eR c - 1+1)=eR c:=by rw[IntWalk.i64_in _ (by omega)];omega
    have hck:=CH l
    have hkc:pN (l.getD 0 default).s=eR c:=by rw[hc];rfl
    rw[hc] at a0
    have t1:Int.toNat 1=1:=rfl
    have t2:Int.toNat 2=2:=rfl
    have x2:(0:Int)≤1:=by decide
    have x3:(0:Int)≤2:=by decide
    have x4:(2:Int)≤((l.length:Nat):Int):=by omega
    have hcut:((pts l).take l.length).drop 2=pts (l.drop 2):=by rw[←lp,List.take_length,tX]
    have hgd:jZ s l=(decide (iM (jq l)=0)&&decide (fq (jq l)=s)):=by
     unfold jZ;rw[decide_eq_true h2,Bool.true_and]
    rw[hgd,d1,Bool.true_and]
    have hfit:=tW hin hl
    have hl2:(l.drop 2).length=l.length - 2:=List.length_drop
    have lr:=dI (l.drop 2)
    by_cases hk1:eR c=1
    ·have hC:jq l=⟨eR c,(l.getD 1 default).s,[],(l.drop 2).map Pt.n⟩:=by
      unfold jq
      simp only[hkc,hk1,ne_eq,not_true,false_and,if_false]
     rw[hC] at hfit ⊢
     have dk:decide (eR c=1)=true:=decide_eq_true hk1
     have W:=PR (eR c) (l.getD 1 default).s [] (l.drop 2) (by omega) hfit
     refine rn2 (bL d1 d2 d3 x0 x1 x2 x3 x4 t1 t2 l1 (nS a0 a1 lp w1 dk hcut Int.toNat_zero @Int.le_refl @and_self @Int.toNat_natCast)) cd cx ?_
     show Wp Tryz.prog 88 R _ _
     refine Wp.le (aE.of (bj ?_) (fun a u hu=>⟨u,?_,cJ.refl _⟩) (fun x hx=>hx) (Nat.le_refl _) (Nat.le_refl _)) W
     ·simp only[au,go_sem,reduceIte,Nat.reduceEqDiff,Nat.reduceAdd,bx,hcut];and_intros<;>first|exact trivial|exact af.refl _|exact af.any _|(refine af.int ?_;omega)
     ·simp only[upd,ag,kyO] at hu ⊢
      by_cases a1:a=1
      ·subst a1;simpa using hu
      ·by_cases a0:a=0
       ·subst a0;simpa using hu
       ·simp[a1,a0] at hu
    ·have dk:decide (eR c=1)=false:=decide_eq_false hk1
     by_cases hr0:l.drop 2=[]
     ·have hC:jq l=⟨eR c,(l.getD 1 default).s,[],(l.drop 2).map Pt.n⟩:=by
       unfold jq
       simp only[hkc,hr0,ne_eq,not_true,and_false,if_false]
      rw[hC] at hfit ⊢
      have W:=PR (eR c) (l.getD 1 default).s [] (l.drop 2) (by omega) hfit
      have hl0:(l.drop 2).length=0:=by rw[hr0];rfl
      have z0:decide ((0:Int)<(((l.drop 2).length:Nat):Int))=false:=decide_eq_false (by omega)
      refine rn2 (bL d1 d2 d3 x0 x1 x2 x3 x4 t1 t2 l1 (bL a0 a1 lp w1 dk hcut lr z0 Int.toNat_zero @Int.le_refl @and_self @Int.toNat_natCast)) cd cx ?_
      show Wp Tryz.prog 88 R _ _
      refine Wp.le (aE.of (bj ?_) (fun a u hu=>⟨u,?_,cJ.refl _⟩) (fun x hx=>hx) (Nat.le_refl _) (Nat.le_refl _)) W
      ·simp only[au,go_sem,reduceIte,Nat.reduceEqDiff,Nat.reduceAdd,bx,hcut];and_intros<;>first|exact trivial|exact af.refl _|exact af.any _|(refine af.int ?_;omega)
      ·simp only[upd,ag,kyO] at hu ⊢
       by_cases a1:a=1
       ·subst a1;simpa using hu
       ·by_cases a0:a=0
        ·subst a0;simpa using hu
        ·simp[a1,a0] at hu
     ·have hC:jq l=⟨eR c,(l.getD 1 default).s,((l.drop 2).getD 0 default).s,((l.drop 2).drop 1).map Pt.n⟩:=by
       unfold jq
       simp only[hkc,hr0,hk1,ne_eq,not_false_eq_true,and_true,if_true]
      rw[hC] at hfit ⊢
      have hpos:=List.length_pos_iff.2 hr0
      have W:=PR (eR c) (l.getD 1 default).s ((l.drop 2).getD 0 default).s ((l.drop 2).drop 1) (by rw[List.length_drop];omega) hfit
      have z0:decide ((0:Int)<(((l.drop 2).length:Nat):Int))=true:=decide_eq_true (by omega)
      have x5:(0:Int)<(((l.drop 2).length:Nat):Int):=by omega
      have x6:(1:Int)≤(((l.drop 2).length:Nat):Int):=by omega
      have a2:=iK (l.drop 2) 0 .any hpos
      unfold dH at a2
      have hcut2:((pts (l.drop 2)).take (l.drop 2).length).drop 1=pts ((l.drop 2).drop 1):=by rw[←lr,List.take_length,tX]
      generalize l.drop 2=r at*
      refine rn2 (bL d1 d2 d3 x0 x1 x2 x3 x4 x5 x6 t1 (bL t2 l1 a0 a1 a2 lp w1 dk hcut hcut2 lr (cj5 z0 Int.toNat_zero @Int.le_refl @and_self @Int.toNat_natCast))) cd cx ?_
      show Wp Tryz.prog 88 R _ _
      refine Wp.le (aE.of (bj ?_) (fun a u hu=>⟨u,?_,cJ.refl _⟩) (fun x hx=>hx) (Nat.le_refl _) (Nat.le_refl _)) W
      ·simp only[au,go_sem,reduceIte,Nat.reduceEqDiff,Nat.reduceAdd,bx,hcut2];and_intros<;>first|exact trivial|exact af.refl _|exact af.any _|(refine af.int ?_;omega)
      ·simp only[upd,ag,kyO] at hu ⊢
       by_cases a1:a=1
       ·subst a1;simpa using hu
       ·by_cases a0:a=0
        ·subst a0;simpa using hu
        ·simp[a1,a0] at hu
   ·have d3:decide ((((l.getD 0 default).s.length:Nat):Int)=1)=false:=decide_eq_false (by omega)
    have hk:pN (l.getD 0 default).s=0:=by
     generalize (l.getD 0 default).s=t at*
     match t with
     |[]=>rfl
     |[c]=>simp at h1
     |_::_::_=>rfl
    have hg:jZ s l=false:=z6 hk
    rw[hg,Bool.and_false,if_neg (by simp),if_neg (by simp),hno]
    refine rf1 (cj9 d1 d2 d3 x0 a0 lp Int.toNat_zero @Int.le_refl @and_self) cd ?_
    refine aK ?_
    exact af.tup (ae.cons (af.agg (ae.cons (af.refl _) (ae.cons (af.refl _) (ae.cons (af.refl _) (ae.cons af.cap ae.nil))))) (ae.cons (af.refl _) ae.nil))
  ·have d2:decide (((l.length:Nat):Int)<2)=true:=decide_eq_true (by omega)
   have hg:jZ s l=false:=by unfold jZ;rw[decide_eq_false h2];rfl
   rw[hg,Bool.and_false,if_neg (by simp),if_neg (by simp),hno]
   refine rf1 (cj3 d1 d2 lp) cd ?_
   refine aK ?_
   exact af.tup (ae.cons (af.agg (ae.cons (af.refl _) (ae.cons (af.refl _) (ae.cons (af.refl _) (ae.cons af.cap ae.nil))))) (ae.cons (af.refl _) ae.nil))
 ·have d1:decide (nW s=0)=false:=decide_eq_false he
  rw[d1,Bool.false_and,if_neg (by simp),if_neg (by simp),hno]
  refine rf1 d1 cd ?_
  refine aK ?_
  exact af.tup (ae.cons (af.agg (ae.cons (af.refl _) (ae.cons (af.refl _) (ae.cons (af.refl _) (ae.cons af.cap ae.nil))))) (ae.cons (af.refl _) ae.nil))
def pO (s:List UInt8):Bool:=decide (s.length=1)&&(decide (48≤(s.getD 0 0).toNat)&&decide ((s.getD 0 0).toNat≤50))
def stV (s:List UInt8):Int:=if pO s then (((s.getD 0 0).toNat - 48:Nat):Int) else 0
def stR (s:List UInt8):Int:=if pO s then 0 else 4
theorem tY (s:List UInt8):aD Tryz.prog 111 [.str s] (.tup [.int .i64 (stV s),.int .i64 (stR s)]):=by
 refine f111.aC (by simp) rfl rfl ?_
 unfold He stV stR
 by_cases h1:s.length=1
 ·have d1:decide (((s.length:Nat):Int)=1)=true:=decide_eq_true (by omega)
  have l0:(0:Int)<((s.length:Nat):Int):=by omega
  have hi:pO s=(decide (48≤(s.getD 0 0).toNat)&&decide ((s.getD 0 0).toNat≤50)):=by unfold pO;rw[decide_eq_true h1,Bool.true_and]
  rw[hi]
  obtain ⟨c,hg⟩:∃c,s.getD 0 0=c:=⟨_,rfl⟩
  rw[hg]
  have hc:=c.toNat_lt
  by_cases h2:48≤c.toNat
  ·have d2:decide (((c.toNat:Nat):Int)<48)=false:=decide_eq_false (by omega)
   by_cases h3:c.toNat≤50
   ·have d3:decide ((50:Int)<((c.toNat:Nat):Int))=false:=decide_eq_false (by omega)
    have w1:IntKind.u8.wrap (((c.toNat:Nat):Int) - 48)=((c.toNat - 48:Nat):Int):=by rw[IntWalk.u8_in _ (by omega)];omega
    have w2:IntKind.i64.wrap ((c.toNat - 48:Nat):Int)=((c.toNat - 48:Nat):Int):=IntWalk.i64_in _ (by omega)
    rw[decide_eq_true h2,decide_eq_true h3]
    refine rf0 (nT d1 l0 hg d2 d3 w1 w2 @byte.eq_1 Int.toNat_zero @Int.le_refl @and_self) ?_
    refine aK ?_
    exact af.refl _
   ·have d3:decide ((50:Int)<((c.toNat:Nat):Int))=true:=decide_eq_true (by omega)
    rw[decide_eq_true h2,decide_eq_false h3]
    refine rf0 (cj9 d1 l0 hg d2 d3 @byte.eq_1 Int.toNat_zero @Int.le_refl @and_self) ?_
    refine aK ?_
    exact af.refl _
  ·have d2:decide (((c.toNat:Nat):Int)<48)=true:=decide_eq_true (by omega)
   rw[decide_eq_false h2]
   refine rf0 (cj8 d1 l0 hg d2 @byte.eq_1 Int.toNat_zero @Int.le_refl @and_self) ?_
   refine aK ?_
   exact af.refl _
 ·have d1:decide (((s.length:Nat):Int)=1)=false:=decide_eq_false (by omega)
  have hi:pO s=false:=by unfold pO;rw[decide_eq_false h1];rfl
  rw[hi]
  refine rf0 d1 ?_
  refine aK ?_
  exact af.refl _
structure Hd where
 sz:Int
 re:Int
 im:Int
 g:Bool
 u:Bool
def EG:Hd:=⟨0,0,0,false,false⟩
def tZ (h:Hd):AV:=jP h.sz h.re h.im h.g h.u
def hdC (s:List UInt8):Hd:=⟨(val ((s.drop 1).take 2):Nat),(val ((s.drop 3).take 4):Nat),(val ((s.drop 7).take 4):Nat),decide ((s.getD 0 0).toNat%2=1),decide ((s.getD 0 0).toNat/2%2=1)⟩
def hdB (s:List UInt8):Bool:=decide (s.length=11)&&(eE (hdC s).sz (hdC s).re (hdC s).im (hdC s).g&&decide (dT (hdC s).sz.toNat (hdC s).re.toNat (hdC s).im.toNat (hdC s).g (hdC s).u=s))
def hdO (s:List UInt8):Hd:=if hdB s then hdC s else EG
def hdE (s:List UInt8):Int:=if hdB s then 0 else 4
theorem z7 {l:List UInt8} (h:l.length≤7):i64 l=((val l:Nat):Int):=by
 have h1:=fJ l
 have h2:(256:Nat)^l.length≤256^7:=Nat.pow_le_pow_right (by omega) h
 have e:(256:Nat)^7=72057594037927936:=by decide
 unfold i64
 exact IntWalk.i64_in _ (by omega)
def rdX (b:List UInt8) (p:Nat) (e:Int):Av.Obj:= .cells [.bool true,.sl 1 (ak b) .any,.int .i64 p,.int .i64 e]
theorem EH (b:List UInt8) (p:Nat) (e:Int) (id:Nat) (f:Nat→Option Av.Obj) (n m:Nat) (K:List Nat) (ho:f id=some (rdX b p e)):
  dX Tryz.prog 223 [.ptr id 0] ⟨f,n,K,m⟩ fun r h'=>r= .bool (decide (e=0))∧h'=⟨f,n,K,m⟩:=by
 refine f223.fI (by simp) ?_
 unfold HK
 simp only[C.zz]
 unfold rdX at ho
 refine rf0 ho ?_
 refine Wp.ret ⟨trivial,_,rfl,?_,rfl⟩
 simp only[go_sem,reduceIte,Nat.reduceEqDiff]
theorem Ip (b:List UInt8) (p:Nat) (e:Int) (id:Nat) (f:Nat→Option Av.Obj) (n m:Nat) (K:List Nat) (ho:f id=some (rdX b p e)):
  dX Tryz.prog 204 [.ptr id 0] ⟨f,n,K,m⟩ fun r h'=>r= .int .i64 e∧h'=⟨f,n,K,m⟩:=by
 refine f204.fI (by simp) ?_
 unfold HF
 simp only[C.zz]
 unfold rdX at ho
 refine rf0 ho ?_
 refine Wp.ret ⟨trivial,_,rfl,?_,rfl⟩
 simp only[go_sem,reduceIte,Nat.reduceEqDiff]
def iR (b:List UInt8) (p w:Nat):List UInt8:=(b.drop p).take w
theorem CJ (b:List UInt8) (hb:b.length≤140737488355328) (p:Nat) (hp:p≤b.length) (e:Int) (w:Nat) (hw:w≤4) (id:Nat) (f:Nat→Option Av.Obj) (n m:Nat) (K:List Nat) (ho:f id=some (rdX b p e)):
  dX Tryz.prog 224 [.ptr id 0,.int .i64 p,.int .i64 w] ⟨f,n,K,m⟩ fun r h'=>r= .tup [.int .u64 (if p+w≤b.length then (val (iR b p w):Nat) else 0),.bool (decide (p+w≤b.length))]∧h'=⟨f,n,K,m⟩:=by
 refine f224.fI (by simp) ?_
 unfold HL
 simp only[C.zz]
 unfold rdX at ho
 have lb:=aR b
 have g1:IntKind.i64.wrap ((b.length:Int) - (p:Int))=((b.length - p:Nat):Int):=by rw[IntWalk.i64_in _ (by omega)];omega
 by_cases hc:p+w≤b.length
 ·have g2:decide (((b.length - p:Nat):Int)<(w:Int))=false:=decide_eq_false (by omega)
  have g3:IntKind.i64.wrap ((p:Int)+(w:Int))=((p+w:Nat):Int):=by rw[IntWalk.i64_in _ (by omega)];omega
  have x1:(0:Int)≤(p:Int):=by omega
  have x2:(p:Int)≤((p+w:Nat):Int):=by omega
  have x3:((p+w:Nat):Int)≤(b.length:Int):=by omega
  have x4:(0:Int)≤((p+w:Nat):Int):=by omega
  rw[if_pos hc,decide_eq_true hc]
  have lp:((ak b).take (p+w)).drop p=ak (iR b p w):=by
   unfold iR
   simp only[ak,←List.map_take,←List.map_drop]
   rw[List.drop_take]
   congr 2;omega
  have lc:(iR b p w).length=w:=by unfold iR;simp;omega
  have lbc:=aR (iR b p w)
  have hv:∀j,j≤w→val ((iR b p w).take j)<256^j:=fun j hj=>by
   have:=fJ ((iR b p w).take j)
   rwa [List.length_take,lc,Nat.min_eq_left hj] at this
  generalize iR b p w=s at*
  refine rf0 (bL ho lb g1 g2 g3 x1 x2 x3 x4 @ite_self.{1} lp (cj4 lbc lc @Int.toNat_natCast @and_self)) ?_
  refine Wp.eM [28,29] xA7 (fun j:Nat=>[(8,.int .u64 (val (s.take j))),(30,.int .i64 j)]) (fun j=>⟨f,n,K,m⟩) (fun j=>j≤w) (fun j=>w - j) 0 (Nat.zero_le _) rfl ?_ ?_
  ·simp only[au,go_sem,reduceIte,Nat.reduceEqDiff,Nat.reduceAdd,bx,List.take_zero];and_intros<;>first|exact trivial|exact af.refl _|exact af.any _|(refine af.int ?_;omega)
  rintro j hj
  by_cases hlt:j<w
  ·have d1:decide ((j:Int)<(w:Int))=true:=decide_eq_true (by omega)
   have h1:(0:Int)≤(j:Int):=by omega
   have h2:(j:Int)<(w:Int):=by omega
   have h2':(j:Int)<(s.length:Int):=by omega
   have h3:j<s.length:=by omega
   have hvj:=hv j hj
   have hpw:(256:Nat)^j≤256^3:=Nat.pow_le_pow_right (by omega) (by omega)
   have e7:(256:Nat)^3=16777216:=by decide
   rw[e7] at hpw
   have hc:=(s.getD j 0).toNat_lt
   have hat:=gq s j .any h3
   unfold byte at hat
   have hs:=pG s j h3
   have o1:=pJ (val (s.take j)) _ (by omega) hc
   generalize val (s.take j)=v at*
   have e1:IntKind.u64.wrap ((v:Int)*2^(min (Int.toNat 8) 64))=((v*256:Nat):Int):=by
    rw[show min (Int.toNat 8) 64=8 from rfl,IntWalk.u64_in _ (by omega)];omega
   have e2:¬(8:Int)<0:=by omega
   generalize (s.getD j 0).toNat=c at*
   have e3:IntKind.u64.wrap (c:Int)=(c:Int):=IntWalk.u64_in _ (by omega)
   have e5:IntKind.i64.wrap ((j:Int)+1)=((j+1:Nat):Int):=by rw[IntWalk.i64_in _ (by omega)];omega
   repeat (first
    |refine aa.nil ?_
    |((first|apply Wp.ar|apply Wp.bI);(· simp only[go_sem,reduceIte,Nat.reduceEqDiff,Nat.reduceAdd,bx,ax,if_true,if_false,Nat.reduceMul,Nat.reduceLeDiff,d1,h1,h2,h2',lbc,lc,hat,IntKind.bits,e1,e2,e3,o1,Int.toNat_natCast,and_self];exact rfl))
    |(apply Wp.aJ;(· simp only[go_sem,reduceIte,Nat.reduceEqDiff,Nat.reduceAdd,bx,ax,if_true,if_false,Nat.reduceMul,Nat.reduceLeDiff,d1,h1,h2,h2',lbc,lc,hat,IntKind.bits,e1,e2,e3,o1,Int.toNat_natCast,and_self];exact rfl);(· rfl))
    |refine Wp.skip ?_
    |refine Wp.label ?_
    |refine Wp.block ?_
    |refine Wp.exit ?_
    |refine Wp.seq ?_)
   refine ⟨j+1,by omega,by omega,?_⟩
   rw[hs]
   refine aE.of (bj ?_) (OLe.cO _) (fun a ha=>ha) (Nat.le_refl _) (Nat.le_refl _)
   simp only[au,go_sem,reduceIte,Nat.reduceEqDiff,Nat.reduceAdd,bx,e5];and_intros<;>first|exact trivial|exact af.refl _|exact af.any _|(refine af.int ?_;omega)
  ·obtain rfl:j=w:=by omega
   have d1:decide ((j:Int)<(j:Int))=false:=decide_eq_false (by omega)
   have hPt:s.take j=s:=List.take_of_length_le (by omega)
   rw[hPt]
   refine rf0 d1 ?_
   refine Wp.ret ⟨trivial,_,rfl,?_,rfl⟩
   simp only[go_sem,reduceIte,Nat.reduceEqDiff]
 ·have g2:decide (((b.length - p:Nat):Int)<(w:Int))=true:=decide_eq_true (by omega)
  rw[if_neg hc,decide_eq_false hc]
  refine rf0 (cj4 ho lb g1 g2) ?_
  refine Wp.ret ⟨trivial,_,rfl,?_,rfl⟩
  simp only[go_sem,reduceIte,Nat.reduceEqDiff]
def ik (b:List UInt8) (p:Nat) (e:Int) (w:Nat):Int:=if e=0∧p+w≤b.length then ((val (iR b p w):Nat):Int) else 0
def aZ (b:List UInt8) (p:Nat) (e:Int) (w:Nat):Nat:=if e=0∧p+w≤b.length then p+w else p
def aW (b:List UInt8) (p:Nat) (e:Int) (w:Nat):Int:=if e=0 then (if p+w≤b.length then 0 else 3) else e
theorem GB {f:Nat→Option Av.Obj} {id:Nat} {o:Av.Obj} (h:f id=some o):upd f id (some o)=f:=by
 funext j;simp only[upd];split
 ·rename_i e;rw[e,h]
 ·rfl
theorem CL (v:Nat):aD Tryz.prog 203 [.int .u64 v] (.int .i64 (IntKind.i64.wrap (v:Int))):=by
 refine f203.aC (by simp) rfl rfl ?_
 unfold HE
 simp only[C.zz]
 refine fO ?_
 refine aK ?_
 exact af.refl _
theorem wy (b:List UInt8) (hb:b.length≤140737488355328) (p:Nat) (hp:p≤b.length) (e:Int) (w:Nat) (hw:w≤4) (id:Nat) (f:Nat→Option Av.Obj) (n m:Nat) (K:List Nat) (ho:f id=some (rdX b p e)):
  dX Tryz.prog 202 [.ptr id 0,.int .i64 w,.clo (.func 203) [] []] ⟨f,n,K,m⟩ fun r h'=>r= .int .i64 (ik b p e w)∧h'=⟨upd f id (some (rdX b (aZ b p e w) (aW b p e w))),n,K,m⟩:=by
 refine f202.fI (by simp) ?_
 unfold HD
 simp only[C.zz]
 have hr:=EH b p e id f n m K ho
 have hn:=CJ b hb p hp e w hw id f n m K ho
 by_cases he:e=0
 ·have de:decide (e=0)=true:=decide_eq_true he
  rw[de] at hr
  refine fO ?_
  refine aa.bH (by simp only[go_sem]) xA4 hr fun r h' hq _ _=>?_
  obtain ⟨rfl,rfl⟩:=hq
  have ho2:=ho
  unfold rdX at ho2
  refine aa.evF (by simp only[go_sem,reduceIte,Nat.reduceEqDiff,Nat.reduceAdd,bx,ax,if_true,if_false,Nat.reduceMul,Nat.reduceLeDiff];exact rfl) ?_
  refine rf0 (cj2 ho2 @Bool.not_true) ?_
  refine aa.bH (by simp only[go_sem]) xA4 hn fun r h' hq _ _=>?_
  obtain ⟨rfl,rfl⟩:=hq
  by_cases hc:p+w≤b.length
  ·have hv:ik b p e w=((val (iR b p w):Nat):Int):=by unfold ik;rw[if_pos ⟨he,hc⟩]
   have hpx:aZ b p e w=p+w:=by unfold aZ;rw[if_pos ⟨he,hc⟩]
   have hex:aW b p e w=0:=by unfold aW;rw[if_pos he,if_pos hc]
   rw[hv,hpx,hex,if_pos hc,decide_eq_true hc]
   have g3:IntKind.i64.wrap ((p:Int)+(w:Int))=((p+w:Nat):Int):=by rw[IntWalk.i64_in _ (by omega)];omega
   have hvl:val (iR b p w)<4294967296:=by
    have h1:=fJ (iR b p w)
    have h2:(256:Nat)^(iR b p w).length≤256^4:=Nat.pow_le_pow_right (by omega) (by unfold iR;simp;omega)
    have e4:(256:Nat)^4=4294967296:=by decide
    omega
   have cp:=CL (val (iR b p w))
   rw[IntWalk.i64_in _ (by omega)] at cp
   generalize val (iR b p w)=v at*
   refine aa.evF (by simp only[go_sem,reduceIte,Nat.reduceEqDiff,Nat.reduceAdd,bx,ax,if_true,if_false,Nat.reduceMul,Nat.reduceLeDiff];exact rfl) ?_
   refine aa.nil ?_
   refine rn0 (cj3 ho2 g3 @Bool.not_true) ?_
   refine ab.rJ (by simp only[go_sem,reduceIte,Nat.reduceEqDiff]) (by simp only[go_sem,reduceIte,Nat.reduceEqDiff];exact rfl) Tryz.func203 rfl (of_decide_eq_true (by kernel_rfl)) xA4 cp ?_
   refine ab.eval xA1 ?_
   refine ab.nil ⟨by trivial,?_⟩
   refine Wp.ret ⟨trivial,_,rfl,?_,?_⟩
   ·simp only[go_sem,reduceIte,Nat.reduceEqDiff]
   ·unfold rdX;rw[he]
  ·have hv:ik b p e w=0:=by unfold ik;rw[if_neg (fun h=>hc h.2)]
   have hpx:aZ b p e w=p:=by unfold aZ;rw[if_neg (fun h=>hc h.2)]
   have hex:aW b p e w=3:=by unfold aW;rw[if_pos he,if_neg hc]
   rw[hv,hpx,hex,if_neg hc,decide_eq_false hc]
   refine aa.evF (by simp only[go_sem,reduceIte,Nat.reduceEqDiff,Nat.reduceAdd,bx,ax,if_true,if_false,Nat.reduceMul,Nat.reduceLeDiff];exact rfl) ?_
   refine rf0 (cj2 ho2 @Bool.not_false) ?_
   refine Wp.ret ⟨trivial,_,rfl,?_,rfl⟩
   simp only[go_sem,reduceIte,Nat.reduceEqDiff]
 ·have de:decide (e=0)=false:=decide_eq_false he
  rw[de] at hr
  have hv:ik b p e w=0:=by unfold ik;rw[if_neg (fun h=>he h.1)]
  have hpx:aZ b p e w=p:=by unfold aZ;rw[if_neg (fun h=>he h.1)]
  have hex:aW b p e w=e:=by unfold aW;rw[if_neg he]
  rw[hv,hpx,hex]
  refine fO ?_
  refine aa.bH (by simp only[go_sem]) xA4 hr fun r h' hq _ _=>?_
  obtain ⟨rfl,rfl⟩:=hq
  refine aa.evF (by simp only[go_sem,reduceIte,Nat.reduceEqDiff,Nat.reduceAdd,bx,ax,if_true,if_false,Nat.reduceMul,Nat.reduceLeDiff];exact rfl) ?_
  refine rf0 @Bool.not_false ?_
  refine Wp.ret ⟨trivial,_,rfl,?_,?_⟩
  ·simp only[go_sem,reduceIte,Nat.reduceEqDiff]
  ·rw[GB ho]
theorem I6 (b:List UInt8) (hb:b.length≤140737488355328) (p:Nat) (hp:p≤b.length) (e:Int) (id:Nat) (f:Nat→Option Av.Obj) (n m:Nat) (K:List Nat) (ho:f id=some (rdX b p e)):
  dX Tryz.prog 159 [.ptr id 0] ⟨f,n,K,m⟩ fun r h'=>r= .int .i64 (ik b p e 1)∧h'=⟨upd f id (some (rdX b (aZ b p e 1) (aW b p e 1))),n,K,m⟩:=by
 refine f159.fI (by simp) ?_
 unfold Hr
 simp only[C.zz]
 have hc:=wy b hb p hp e 1 (by decide) id f n m K ho
 have hw:((1:Nat):Int)=1:=rfl
 rw[hw] at hc
 refine fO ?_
 refine aa.bH (by simp only[go_sem]) xA4 hc fun r h' hq _ _=>?_
 obtain ⟨rfl,rfl⟩:=hq
 refine aa.evF (by simp only[go_sem,reduceIte,Nat.reduceEqDiff,Nat.reduceAdd,bx,ax,if_true,if_false,Nat.reduceMul,Nat.reduceLeDiff];exact rfl) ?_
 refine aa.nil ?_
 refine Wp.ret ⟨trivial,_,rfl,?_,rfl⟩
 simp only[go_sem,reduceIte,Nat.reduceEqDiff]
theorem Iq (b:List UInt8) (hb:b.length≤140737488355328) (p:Nat) (hp:p≤b.length) (e:Int) (id:Nat) (f:Nat→Option Av.Obj) (n m:Nat) (K:List Nat) (ho:f id=some (rdX b p e)):
  dX Tryz.prog 160 [.ptr id 0] ⟨f,n,K,m⟩ fun r h'=>r= .int .i64 (ik b p e 2)∧h'=⟨upd f id (some (rdX b (aZ b p e 2) (aW b p e 2))),n,K,m⟩:=by
 refine f160.fI (by simp) ?_
 unfold Hs
 simp only[C.zz]
 have hc:=wy b hb p hp e 2 (by decide) id f n m K ho
 have hw:((2:Nat):Int)=2:=rfl
 rw[hw] at hc
 refine fO ?_
 refine aa.bH (by simp only[go_sem]) xA4 hc fun r h' hq _ _=>?_
 obtain ⟨rfl,rfl⟩:=hq
 refine aa.evF (by simp only[go_sem,reduceIte,Nat.reduceEqDiff,Nat.reduceAdd,bx,ax,if_true,if_false,Nat.reduceMul,Nat.reduceLeDiff];exact rfl) ?_
 refine aa.nil ?_
 refine Wp.ret ⟨trivial,_,rfl,?_,rfl⟩
 simp only[go_sem,reduceIte,Nat.reduceEqDiff]
theorem FA (b:List UInt8) (hb:b.length≤140737488355328) (p:Nat) (hp:p≤b.length) (e:Int) (id:Nat) (f:Nat→Option Av.Obj) (n m:Nat) (K:List Nat) (ho:f id=some (rdX b p e)):
  dX Tryz.prog 161 [.ptr id 0] ⟨f,n,K,m⟩ fun r h'=>r= .int .i64 (ik b p e 4)∧h'=⟨upd f id (some (rdX b (aZ b p e 4) (aW b p e 4))),n,K,m⟩:=by
 refine f161.fI (by simp) ?_
 unfold Ht
 simp only[C.zz]
 have hc:=wy b hb p hp e 4 (by decide) id f n m K ho
 have hw:((4:Nat):Int)=4:=rfl
 rw[hw] at hc
 refine fO ?_
 refine aa.bH (by simp only[go_sem]) xA4 hc fun r h' hq _ _=>?_
 obtain ⟨rfl,rfl⟩:=hq
 refine aa.evF (by simp only[go_sem,reduceIte,Nat.reduceEqDiff,Nat.reduceAdd,bx,ax,if_true,if_false,Nat.reduceMul,Nat.reduceLeDiff];exact rfl) ?_
 refine aa.nil ?_
 refine Wp.ret ⟨trivial,_,rfl,?_,rfl⟩
 simp only[go_sem,reduceIte,Nat.reduceEqDiff]
def nk (b:List UInt8) (p:Nat) (e:Int):Int:=if e=0 then (if p<b.length then 5 else 0) else e
theorem Ir (b:List UInt8) (hb:b.length≤140737488355328) (p:Nat) (hp:p≤b.length) (e:Int) (id:Nat) (f:Nat→Option Av.Obj) (n m:Nat) (K:List Nat) (ho:f id=some (rdX b p e)):
  dX Tryz.prog 162 [.ptr id 0] ⟨f,n,K,m⟩ fun r h'=>r= .int .i64 (nk b p e)∧h'=⟨f,n,K,m⟩:=by
 refine f162.fI (by simp) ?_
 unfold Hu nk
 have hc:=Ip b p e id f n m K ho
 have lb:=aR b
 unfold rdX at ho
 refine fO ?_
 refine aa.bH (by simp only[go_sem]) xA4 hc fun r h' hq _ _=>?_
 obtain ⟨rfl,rfl⟩:=hq
 refine aa.evF (by simp only[go_sem,reduceIte,Nat.reduceEqDiff,Nat.reduceAdd,bx,ax,if_true,if_false,Nat.reduceMul,Nat.reduceLeDiff];exact rfl) ?_
 refine aa.nil ?_
 by_cases he:e=0
 ·have de:decide (e=0)=true:=decide_eq_true he
  rw[if_pos he]
  by_cases hl:p<b.length
  ·have d1:decide ((p:Int)<(b.length:Int))=true:=decide_eq_true (by omega)
   rw[if_pos hl]
   refine rn0 (cj4 ho de lb d1) ?_
   refine Wp.ret ⟨trivial,_,rfl,?_,rfl⟩
   simp only[go_sem,reduceIte,Nat.reduceEqDiff]
  ·have d1:decide ((p:Int)<(b.length:Int))=false:=decide_eq_false (by omega)
   rw[if_neg hl]
   refine rn0 (cj4 ho de lb d1) ?_
   refine Wp.ret ⟨trivial,_,rfl,?_,rfl⟩
   simp only[go_sem,reduceIte,Nat.reduceEqDiff]
 ·have de:decide (e=0)=false:=decide_eq_false he
  rw[if_neg he]
  refine rn0 (cj2 ho de) ?_
  refine Wp.ret ⟨trivial,_,rfl,?_,rfl⟩
  simp only[go_sem,reduceIte,Nat.reduceEqDiff]
theorem ua (b:List UInt8) (hb:b.length≤140737488355328) (f:Nat→Option Av.Obj) (n m:Nat) (K:List Nat) (hf:f n=none):
  dX Tryz.prog 158 [.sl 1 (ak b) .any] ⟨f,n,K,m⟩ fun r h'=>r= .ptr n 0∧h'=⟨upd f n (some (rdX b 0 0)),n+1,K,m⟩:=by
 refine f158.fI (by simp) ?_
 unfold Hq rdX
 have cc:aD Tryz.prog 201 [.sl 1 (ak b) .any] (.sl 1 (ak b) .any):=yP f201 _ (lz b) (by rw[aR];omega) (by rw[aR];omega)
 refine rn1 hf cc ?_
 refine Wp.ret ⟨trivial,_,rfl,?_,rfl⟩
 simp only[go_sem,reduceIte,Nat.reduceEqDiff]
theorem oD {b:List UInt8} {p:Nat} {e:Int} {w:Nat} (h:p≤b.length):aZ b p e w≤b.length:=by
 unfold aZ;split
 ·rename_i h;exact h.2
 ·exact h
theorem gU {b:List UInt8} {p w:Nat} (h:p+w≤b.length):aZ b p 0 w=p+w∧aW b p 0 w=0∧ik b p 0 w=((val (iR b p w):Nat):Int):=by
 refine ⟨?_,?_,?_⟩
 ·unfold aZ;rw[if_pos ⟨rfl,h⟩]
 ·unfold aW;rw[if_pos rfl,if_pos h]
 ·unfold ik;rw[if_pos ⟨rfl,h⟩]
theorem mD {b:List UInt8} {p w:Nat} (h:¬p+w≤b.length):aW b p 0 w=3:=by
 unfold aW;rw[if_pos rfl,if_neg h]
theorem iS {b:List UInt8} {p w:Nat} {e:Int} (h:e≠0):aW b p e w=e:=by
 unfold aW;rw[if_neg h]
def uc (s:List UInt8):Int:=
 let p1:=aZ s 0 0 1;let e1:=aW s 0 0 1
 let p2:=aZ s p1 e1 2;let e2:=aW s p1 e1 2
 let p3:=aZ s p2 e2 4;let e3:=aW s p2 e2 4
 nk s (aZ s p3 e3 4) (aW s p3 e3 4)
theorem CM {s:List UInt8} (h:s.length≠11):uc s≠0:=by
 unfold uc
 simp only
 by_cases h1:0+1≤s.length
 ·obtain ⟨a1,a2,-⟩:=gU h1
  rw[a1,a2]
  by_cases h2:0+1+2≤s.length
  ·obtain ⟨a1,a2,-⟩:=gU h2
   rw[a1,a2]
   by_cases h3:0+1+2+4≤s.length
   ·obtain ⟨a1,a2,-⟩:=gU h3
    rw[a1,a2]
    by_cases h4:0+1+2+4+4≤s.length
    ·obtain ⟨a1,a2,-⟩:=gU h4
     rw[a1,a2]
     unfold nk
     rw[if_pos rfl,if_pos (by omega)];decide
    ·rw[mD h4];unfold nk;rw[if_neg (by decide)];decide
   ·rw[mD h3,iS (by decide)];unfold nk;rw[if_neg (by decide)];decide
  ·rw[mD h2,iS (by decide),iS (by decide)];unfold nk;rw[if_neg (by decide)];decide
 ·rw[mD h1,iS (by decide),iS (by decide),iS (by decide)];unfold nk;rw[if_neg (by decide)];decide
def oE:AC:=tlA (tlA (tlA (tlA rW)))
theorem CN:rW= .seq (hdA rW) (.seq (hdA (tlA rW)) (.seq (hdA (tlA (tlA rW))) (.seq (hdA (tlA (tlA (tlA rW)))) oE))):=rfl
def zHd:Av.Obj:= .cells [.int .i64 0,.int .i64 0,.int .i64 0,.bool false,.bool false]
def wz (s:List UInt8) (P:Nat) (E:Int) (h:Hd):Bool:=decide (nk s P E=0)&&(decide (nO h.sz h.re h.im h.g=0)&&decide (cH h.sz h.re h.im h.g h.u=s))
def QH (s:List UInt8) (P:Nat) (E:Int) (h:Hd):az→St→Prop:=fun e s'=>gh e∧∃q,gg [.cell 2 (some 5),.tmp 3] s'.t s'.h=some q∧af q (.tup [tZ (if wz s P E h=true then h else EG),.int .i64 (if wz s P E h=true then 0 else 4)])
theorem z8 (s:List UInt8) (hs:s.length≤140737488355328) (P:Nat) (hP:P≤s.length) (E:Int) (h:Hd) (m:Nat):
  Wp Tryz.prog 46 oE ⟨tm [(0,.str s),(2,.ptr 0 0),(4,.ptr 1 0),(6,.ptr 2 0)],⟨upd (upd (upd ag 0 (some zHd)) 1 (some (rdX s P E))) 2 (some (.cells [.int .i64 h.sz,.int .i64 h.re,.int .i64 h.im,.bool h.g,.bool h.u])),3,[],m⟩⟩ (QH s P E h):=by
 obtain ⟨a,b,c,g,u⟩:=h
 have ch:=ot a b c g u
 unfold QH wz
 simp only
 unfold oE rW zHd
 simp only[tlA]
 have ce:=fun f n m K ho=>Ir s hs P hP E 1 f n m K ho
 unfold jP at ch
 unfold tZ jP EG
 have n10:¬(1=0):=by decide
 refine fO ?_
 refine aa.bH (by simp only[go_sem]) xA4 (ce _ _ _ _ (by simp only[upd,reduceIte,Nat.reduceEqDiff])) fun r h' hq _ _=>?_
 obtain ⟨rfl,rfl⟩:=hq
 refine aa.evF (by simp only[go_sem,reduceIte,Nat.reduceEqDiff,Nat.reduceAdd,bx,ax,if_true,if_false,Nat.reduceMul,Nat.reduceLeDiff];exact rfl) ?_
 refine aa.nil ?_
 cases d1:decide (nk s P E=0) with
 |false=>
  rw[Bool.false_and,if_neg (by simp),if_neg (by simp)]
  refine rf0 d1 ?_
  refine aK ?_
  exact af.refl _
 |true=>
  rw[Bool.true_and]
  cases d2:decide (nO a b c g=0) with
  |false=>
   rw[Bool.false_and,if_neg (by simp),if_neg (by simp)]
   refine rf1 (cj2 d1 d2) ch ?_
   refine aK ?_
   exact af.refl _
  |true=>
   rw[Bool.true_and]
   cases d3:decide (cH a b c g u=s) with
   |false=>
    rw[if_neg (by simp),if_neg (by simp)]
    refine rf1 (cj3 d1 d2 d3) ch ?_
    refine aK ?_
    exact af.refl _
   |true=>
    rw[if_pos rfl,if_pos rfl]
    refine rf1 (cj3 d1 d2 d3) ch ?_
    refine aK ?_
    exact af.refl _
theorem I7:∀c,c<256→(!decide (lN .i64 ((c:Nat):Int) 1=0))=decide (c%2=1):=by decide
theorem I8:∀c,c<256→(!decide (lN .i64 ((c:Nat):Int) 2=0))=decide (c/2%2=1):=by decide
theorem val_one (c:UInt8):val [c]=c.toNat:=by simp[Batch.val]
theorem EI {s:List UInt8} (h:s.length=11):ik s 0 0 1=(((s.getD 0 0).toNat:Nat):Int)∧ik s (aZ s 0 0 1) (aW s 0 0 1) 2=(hdC s).sz
  ∧ik s (aZ s (aZ s 0 0 1) (aW s 0 0 1) 2) (aW s (aZ s 0 0 1) (aW s 0 0 1) 2) 4=(hdC s).re
  ∧ik s (aZ s (aZ s (aZ s 0 0 1) (aW s 0 0 1) 2) (aW s (aZ s 0 0 1) (aW s 0 0 1) 2) 4) (aW s (aZ s (aZ s 0 0 1) (aW s 0 0 1) 2) (aW s (aZ s 0 0 1) (aW s 0 0 1) 2) 4) 4=(hdC s).im
  ∧uc s=0:=by
 obtain ⟨a1,a2,a3⟩:=gU (b:=s) (p:=0) (w:=1) (by omega)
 obtain ⟨b1,b2,b3⟩:=gU (b:=s) (p:=0+1) (w:=2) (by omega)
 obtain ⟨c1,c2,c3⟩:=gU (b:=s) (p:=0+1+2) (w:=4) (by omega)
 obtain ⟨d1,d2,d3⟩:=gU (b:=s) (p:=0+1+2+4) (w:=4) (by omega)
 have hend:uc s=nk s (aZ s (aZ s (aZ s (aZ s 0 0 1) (aW s 0 0 1) 2) (aW s (aZ s 0 0 1) (aW s 0 0 1) 2) 4) (aW s (aZ s (aZ s 0 0 1) (aW s 0 0 1) 2) (aW s (aZ s 0 0 1) (aW s 0 0 1) 2) 4) 4) (aW s (aZ s (aZ s (aZ s 0 0 1) (aW s 0 0 1) 2) (aW s (aZ s 0 0 1) (aW s 0 0 1) 2) 4) (aW s (aZ s (aZ s 0 0 1) (aW s 0 0 1) 2) (aW s (aZ s 0 0 1) (aW s 0 0 1) 2) 4) 4):=rfl
 rw[hend,a1,a2,b1,b2,c1,c2,d1,d2,a3,b3,c3,d3]
 refine ⟨?_,rfl,rfl,rfl,?_⟩
 ·have:iR s 0 1=[s.getD 0 0]:=by
   unfold iR
   rw[List.drop_zero]
   match s,h with
   |a::r,_=>rfl
  rw[this,val_one]
 ·unfold nk
  rw[if_pos rfl,if_neg (by omega)]
theorem EJ {s:List UInt8} (h:s.length=11) {P:Nat} {E:Int} (he:nk s P E=0):wz s P E (hdC s)=hdB s:=by
 unfold wz hdB
 rw[decide_eq_true he,decide_eq_true h,Bool.true_and,Bool.true_and]
 unfold nO cH
 cases eE (hdC s).sz (hdC s).re (hdC s).im (hdC s).g<;>rfl
theorem pP (s:List UInt8) (hs:s.length≤140737488355328):aD Tryz.prog 112 [.str s] (.tup [tZ (hdO s),.int .i64 (hdE s)]):=by
 refine f112.aC (by simp) rfl rfl ?_
 have hO:hdO s=if hdB s then hdC s else EG:=rfl
 have hE:hdE s=if hdB s then 0 else 4:=rfl
 have HR:=z8 s hs
 rw[CN]
 generalize oE=R at*
 unfold rW
 simp only[C.zz]
 simp only[hdA,tlA]
 have c0:=ua s hs
 have n10:¬(1=0):=by decide
 have n01:¬(0=1):=by decide
 refine fO ?_
 refine aa.bH (by simp only[go_sem]) (by simp only[go_sem,reduceIte,Nat.reduceEqDiff,List.map];exact ae.cons af.cap ae.nil) (c0 _ _ _ _ (by simp only[upd,ag];rfl)) fun r h' hq _ _=>?_
 obtain ⟨rfl,rfl⟩:=hq
 refine aa.evF (by simp only[go_sem,reduceIte,Nat.reduceEqDiff,Nat.reduceAdd,bx,ax,if_true,if_false,Nat.reduceMul,Nat.reduceLeDiff,n10,n01];exact rfl) ?_
 refine aa.nil ?_
 refine fO ?_
 refine aa.bH (by simp only[go_sem]) xA4 (I6 s hs 0 (Nat.zero_le _) 0 1 _ _ _ _ (by simp only[upd,reduceIte])) fun r h' hq _ _=>?_
 obtain ⟨rfl,rfl⟩:=hq
 refine aa.evF (by simp only[go_sem,reduceIte,Nat.reduceEqDiff,Nat.reduceAdd,bx,ax,if_true,if_false,Nat.reduceMul,Nat.reduceLeDiff,n10,n01];exact rfl) ?_
 refine aa.nil ?_
 have p1:aZ s 0 0 1≤s.length:=oD (Nat.zero_le _)
 have p2:aZ s (aZ s 0 0 1) (aW s 0 0 1) 2≤s.length:=oD p1
 have p3:aZ s (aZ s (aZ s 0 0 1) (aW s 0 0 1) 2) (aW s (aZ s 0 0 1) (aW s 0 0 1) 2) 4≤s.length:=oD p2
 have p4:aZ s (aZ s (aZ s (aZ s 0 0 1) (aW s 0 0 1) 2) (aW s (aZ s 0 0 1) (aW s 0 0 1) 2) 4) (aW s (aZ s (aZ s 0 0 1) (aW s 0 0 1) 2) (aW s (aZ s 0 0 1) (aW s 0 0 1) 2) 4) 4≤s.length:=oD p3
 refine fO ?_
 refine aa.bH (by simp only[go_sem]) xA4 (Iq s hs _ p1 (aW s 0 0 1) 1 _ _ _ _ (by simp only[upd,reduceIte])) fun r h' hq _ _=>?_
 obtain ⟨rfl,rfl⟩:=hq
 refine aa.evF (by simp only[go_sem,reduceIte,Nat.reduceEqDiff,Nat.reduceAdd,bx,ax,if_true,if_false,Nat.reduceMul,Nat.reduceLeDiff,n10,n01];exact rfl) ?_
 refine aa.bH (by simp only[go_sem]) xA4 (FA s hs _ p2 (aW s (aZ s 0 0 1) (aW s 0 0 1) 2) 1 _ _ _ _ (by simp only[upd,reduceIte])) fun r h' hq _ _=>?_
 obtain ⟨rfl,rfl⟩:=hq
 refine aa.evF (by simp only[go_sem,reduceIte,Nat.reduceEqDiff,Nat.reduceAdd,bx,ax,if_true,if_false,Nat.reduceMul,Nat.reduceLeDiff,n10,n01];exact rfl) ?_
 refine aa.bH (by simp only[go_sem]) xA4 (FA s hs _ p3 (aW s (aZ s (aZ s 0 0 1) (aW s 0 0 1) 2) (aW s (aZ s 0 0 1) (aW s 0 0 1) 2) 4) 1 _ _ _ _ (by simp only[upd,reduceIte])) fun r h' hq _ _=>?_
 obtain ⟨rfl,rfl⟩:=hq
 refine aa.evF (by simp only[go_sem,reduceIte,Nat.reduceEqDiff,Nat.reduceAdd,bx,ax,if_true,if_false,Nat.reduceMul,Nat.reduceLeDiff,n10,n01];exact rfl) ?_
 refine aa.nil ?_
 show Wp Tryz.prog 46 R _ _
 by_cases h11:s.length=11
 ·obtain ⟨v0,v1,v2,v3,v4⟩:=EI h11
  have hc:=(s.getD 0 0).toNat_lt
  have g1:=I7 _ hc
  have g2:=I8 _ hc
  have hsm:=EJ h11 v4
  have W:=HR _ p4 (aW s (aZ s (aZ s (aZ s 0 0 1) (aW s 0 0 1) 2) (aW s (aZ s 0 0 1) (aW s 0 0 1) 2) 4) (aW s (aZ s (aZ s 0 0 1) (aW s 0 0 1) 2) (aW s (aZ s 0 0 1) (aW s 0 0 1) 2) 4) 4) (hdC s)
  unfold QH at W
  rw[hsm,←hO,←hE] at W
  have e1:decide ((s.getD 0 0).toNat%2=1)=(hdC s).g:=rfl
  have e2:decide ((s.getD 0 0).toNat/2%2=1)=(hdC s).u:=rfl
  rw[v1,v2,v3,v0,g1,g2,e1,e2]
  refine Wp.le ?_ (W 1)
  refine aE.of (bj ?_) (fun a u hu=>⟨u,?_,cJ.refl _⟩) (fun x hx=>by simp at hx) (Nat.le_refl _) (Nat.le_refl _)
  ·exact xSb
  ·simp only[upd,ag,zHd] at hu ⊢
   by_cases a2:a=2
   ·subst a2;simpa using hu
   ·by_cases a1:a=1
    ·subst a1;simpa using hu
    ·by_cases a0:a=0
     ·subst a0;simpa using hu
     ·simp[a2,a1,a0] at hu
 ·have hne:hdB s=false:=by unfold hdB;rw[decide_eq_false h11];rfl
  have hen:=CM h11
  have W:=fun h=>HR _ p4 (aW s (aZ s (aZ s (aZ s 0 0 1) (aW s 0 0 1) 2) (aW s (aZ s 0 0 1) (aW s 0 0 1) 2) 4) (aW s (aZ s (aZ s 0 0 1) (aW s 0 0 1) 2) (aW s (aZ s 0 0 1) (aW s 0 0 1) 2) 4) 4) h
  have hno:∀h,wz s (aZ s (aZ s (aZ s (aZ s 0 0 1) (aW s 0 0 1) 2) (aW s (aZ s 0 0 1) (aW s 0 0 1) 2) 4) (aW s (aZ s (aZ s 0 0 1) (aW s 0 0 1) 2) (aW s (aZ s 0 0 1) (aW s 0 0 1) 2) 4) 4) (aW s (aZ s (aZ s (aZ s 0 0 1) (aW s 0 0 1) 2) (aW s (aZ s 0 0 1) (aW s 0 0 1) 2) 4) (aW s (aZ s (aZ s 0 0 1) (aW s 0 0 1) 2) (aW s (aZ s 0 0 1) (aW s 0 0 1) 2) 4) 4) h=false:=fun h=>by
   unfold wz
   show (decide (uc s=0)&&_)=false
   rw[decide_eq_false hen];rfl
  unfold QH at W
  simp only[hno] at W
  rw[hO,hE,hne]
  refine Wp.le ?_ (W ⟨ik s (aZ s 0 0 1) (aW s 0 0 1) 2,ik s (aZ s (aZ s 0 0 1) (aW s 0 0 1) 2) (aW s (aZ s 0 0 1) (aW s 0 0 1) 2) 4,ik s (aZ s (aZ s (aZ s 0 0 1) (aW s 0 0 1) 2) (aW s (aZ s 0 0 1) (aW s 0 0 1) 2) 4) (aW s (aZ s (aZ s 0 0 1) (aW s 0 0 1) 2) (aW s (aZ s 0 0 1) (aW s 0 0 1) 2) 4) 4,!decide (lN IntKind.i64 (ik s 0 0 1) 1=0),!decide (lN IntKind.i64 (ik s 0 0 1) 2=0)⟩ 1)
  refine aE.of (bj ?_) (fun a u hu=>⟨u,?_,cJ.refl _⟩) (fun x hx=>by simp at hx) (Nat.le_refl _) (Nat.le_refl _)
  ·exact xSb
  ·simp only[upd,ag,zHd] at hu ⊢
   by_cases a2:a=2
   ·subst a2;simpa using hu
   ·by_cases a1:a=1
    ·subst a1;simpa using hu
    ·by_cases a0:a=0
     ·subst a0;simpa using hu
     ·simp[a2,a1,a0] at hu
theorem xJ:∀(s x:List UInt8),(∀b∈s,b≠0)→rdT (s++0::1::x)=some (s,s.length+2)
 |[],x,_=>by simp[rdT]
 |a::s,x,h=>by
  rw[List.cons_append,xA _ _ (h a (by simp)),xJ s x (fun b hb=>h b (by simp[hb]))]
  simp
theorem Aa (m:UInt8) (l:List UInt8):bq m (bq m l)=l:=by
 unfold bq
 rw[List.map_map]
 conv=>rhs;rw[←List.map_id l]
 refine List.map_congr_left fun x _=>?_
 simp[Function.comp,UInt8.xor_assoc]
theorem EL (l:List UInt8):vT (vT l)=l:=by
 cases l with
 |nil=>rfl
 |cons a r=>
  show ((a ^^^ 128) ^^^ 128)::r=a::r
  rw[UInt8.xor_assoc];simp
theorem fT:∀(w v:Nat),val (be w v)=v%256^w
 |0,v=>by simp[be,Batch.val,Nat.mod_one]
 |w+1,v=>by
  have e:be (w+1) v=UInt8.ofNat (v/256^w)::be w v:=rfl
  rw[e,iN,fT w v,aG,Nat.pow_succ,Nat.mod_mul]
  have:(UInt8.ofNat (v/256^w)).toNat=v/256^w%256:=by simp
  rw[this,Nat.mul_comm,Nat.add_comm]
theorem CO (m:UInt8) (n:Nat) (h:n<9223372036854775808):rdN m (bq m (upB n))=n:=by
 unfold rdN
 rw[Aa]
 have e:upB n=vT (be 8 n):=(Ik n h).symm
 rw[e,EL]
 unfold i64
 have e8:(256:Nat)^8=18446744073709551616:=by decide
 rw[fT,e8,Nat.mod_eq_of_lt (by omega)]
 exact IntWalk.i64_in _ (by omega)
theorem GC {p:Pt} (hp:p.ok) (x:List UInt8):rdP (ptB p++x)=some (p,(ptB p).length):=by
 obtain ⟨pk,pn,ps⟩:=p
 rcases hp.k with hk|hk|hk
 ·simp only at hk
  subst hk
  obtain ⟨hn,hz,hl⟩:=hp.t rfl
  simp only at hn hz hl
  subst hn
  have hB:ptB ⟨1,0,ps⟩=2::(ps++[0,1]):=rfl
  have hA:ptB ⟨1,0,ps⟩++x=2::(ps++0::1::x):=by rw[hB];simp
  rw[hA,hB]
  have:rdP (2::(ps++0::1::x))=(rdT (ps++0::1::x)).map fun x=>(⟨1,0,x.1⟩,x.2+1):=by simp[rdP]
  rw[this,xJ _ _ hz]
  simp
 ·simp only at hk
  subst hk
  obtain ⟨hs,h0,h1⟩:=hp.u (by simp)
  simp only at hs h0 h1
  subst hs
  have hB:ptB ⟨2,pn,[]⟩=3::bq 0 (upB pn.toNat):=rfl
  have hl:(bq 0 (upB pn.toNat)).length=8:=by rw[cU];simp[upB,aG]
  rw[hB,List.cons_append]
  have ht:(bq 0 (upB pn.toNat)++x).take 8=bq 0 (upB pn.toNat):=by rw[List.take_append_of_le_length (by omega),List.take_of_length_le (by omega)]
  have:rdP (3::(bq 0 (upB pn.toNat)++x))=some (⟨2,rdN 0 ((bq 0 (upB pn.toNat)++x).take 8),[]⟩,9):=by
   have hn:¬(bq 0 (upB pn.toNat)++x).length<8:=by rw[List.length_append];omega
   simp only[rdP]
   rw[if_neg (by decide),if_pos trivial,if_neg hn]
  rw[this,ht,CO 0 pn.toNat (by omega),List.length_cons,hl]
  congr 2
  congr 1
  omega
 ·simp only at hk
  subst hk
  obtain ⟨hs,h0,h1⟩:=hp.u (by simp)
  simp only at hs h0 h1
  subst hs
  have hB:ptB ⟨3,pn,[]⟩=4::bq 255 (upB pn.toNat):=rfl
  have hl:(bq 255 (upB pn.toNat)).length=8:=by rw[cU];simp[upB,aG]
  rw[hB,List.cons_append]
  have ht:(bq 255 (upB pn.toNat)++x).take 8=bq 255 (upB pn.toNat):=by rw[List.take_append_of_le_length (by omega),List.take_of_length_le (by omega)]
  have:rdP (4::(bq 255 (upB pn.toNat)++x))=some (⟨3,rdN 255 ((bq 255 (upB pn.toNat)++x).take 8),[]⟩,9):=by
   have hn:¬(bq 255 (upB pn.toNat)++x).length<8:=by rw[List.length_append];omega
   simp only[rdP]
   rw[if_neg (by decide),if_neg (by decide),if_pos trivial,if_neg hn]
  rw[this,ht,CO 255 pn.toNat (by omega),List.length_cons,hl]
  congr 2
  congr 1
  omega
theorem xK:∀(l:List Pt),(∀p∈l,p.ok)→qc (cP l)=some l
 |[],_=>rfl
 |p::l,h=>by
  have hB:cP (p::l)=ptB p++cP l:=rfl
  have hne:cP (p::l)≠[]:=by rw[hB];intro h;exact vR p (List.append_eq_nil_iff.1 h).1
  rw[kH hne,hB,GC (h p (by simp))]
  simp only[List.drop_left]
  rw[xK l (fun q hq=>h q (by simp[hq]))]
  rfl
theorem ud {k:Int} (h:1≤k∧k≤6):pN [dc k]=k:=by
 obtain ⟨h1,h2⟩:=h
 obtain rfl|rfl|rfl|rfl|rfl|rfl:k=1∨k=2∨k=3∨k=4∨k=5∨k=6:=by omega
 all_goals decide
theorem ue (k:Int) (ns:List Int):(ns.map (bQ k)).map Pt.n=ns:=by
 rw[List.map_map]
 conv=>rhs;rw[←List.map_id ns]
 exact List.map_congr_left fun x _=>rfl
def FB (k:Int) (b:List UInt8) (r:List Pt):Ky:=if k≠1∧r≠[] then ⟨k,b,(r.getD 0 default).s,(r.drop 1).map Pt.n⟩ else ⟨k,b,[],r.map Pt.n⟩
theorem CQ {k:Ky} (h:k.ok):jq (eH k)=k:=by
 have hC:jq (eH k)=FB (pN [dc k.k]) k.b ((if k.o=[] then [] else [txt k.o])++k.ns.map (bQ k.k)):=rfl
 rw[hC,ud h.k]
 obtain ⟨kk,b,o,ns⟩:=k
 simp only at*
 unfold FB
 by_cases hk1:kk=1
 ·have ho:=h.e hk1
  simp only at ho
  subst ho
  rw[if_neg (fun x=>x.1 hk1),if_pos rfl,List.nil_append,ue]
 ·have ho:=dd (h.o hk1)
  simp only at ho
  have ho0:o≠[]:=by rintro rfl;simp at ho
  rw[if_neg ho0]
  rw[if_pos ⟨hk1,by simp⟩]
  have e:([txt o]++ns.map (bQ kk)).drop 1=ns.map (bQ kk):=rfl
  rw[e,ue];rfl
theorem fW {k:Ky} (h:k.ok):eI (cg k)=true∧bm (cg k)=k:=by
 have hl:=r9 h
 have hd:=xK (eH k) (jm h)
 have hd2:qc (cg k)=some (eH k):=hd
 have hO:kP (cg k)=eH k:=by unfold kP;rw[if_neg (by omega),hd2];rfl
 have hE:nW (cg k)=0:=by unfold nW;rw[if_neg (by omega),hd2];rfl
 have hc:=CQ h
 have hke:iM k=0:=by
  have ha:iL k=true:=by
   unfold iL
   have a1:mX k.ns=true:=List.all_eq_true.2 fun n hn=>decide_eq_true (h.r n hn).1
   rw[a1,decide_eq_true h.n.symm]
   by_cases hk:k.k=1
   ·rw[h.e hk];simp
   ·simp[hk]
  unfold iM
  rw[if_pos ha,if_pos h.b]
  by_cases hk:k.k=1
  ·rw[if_pos hk]
  ·rw[if_neg hk,h.o hk]
 have hks:fq k=cg k:=by unfold fq;rw[if_pos hke]
 have hB:eI (cg k)=true:=by
  unfold eI jZ
  rw[hE,hO,hc,hke,hks]
  simp[eH]
 exact ⟨hB,by unfold bm;rw[if_pos hB,hO,hc]⟩
theorem wA {s:List UInt8} (h:eI s=true):(bm s).ok∧cg (bm s)=s:=by
 have hO:bm s=jq (kP s):=by unfold bm;rw[if_pos h]
 unfold eI jZ at h
 simp only[Bool.and_eq_true,decide_eq_true_eq] at h
 obtain ⟨h1,⟨h2,h3⟩,h4⟩:=h
 obtain ⟨hin,hl⟩:=xI s
 have hok:=B4 (tW hin hl) h3
 rw[hO]
 refine ⟨hok,?_⟩
 unfold fq at h4
 rw[if_pos h3] at h4
 exact h4
theorem ba (c:UInt8) (a b:List UInt8):Op.bytesLess (c::a) (c::b)=Op.bytesLess a b:=by
 have:¬(c<c):=fun h=>by have:=UInt8.lt_iff_toNat_lt.1 h;omega
 simp[Op.bytesLess,this]
theorem lJ {c d:UInt8} (h:c.toNat<d.toNat) (a b:List UInt8):Op.bytesLess (c::a) (d::b)=true:=by
 have:c<d:=UInt8.lt_iff_toNat_lt.2 h
 simp[Op.bytesLess,this]
theorem nq:∀{s s':List UInt8} (x y:List UInt8),(∀b∈s,b≠0)→(∀b∈s',b≠0)→Op.bytesLess s s'=true→Op.bytesLess (s++0::1::x) (s'++0::1::y)=true
 |[],[],x,y,_,_,h=>by simp[Op.bytesLess] at h
 |[],b::s',x,y,_,h2,_=>by
  have hb:=h2 b (by simp)
  refine lJ ?_ _ _
  have:b.toNat≠0:=fun e=>hb (UInt8.toNat_inj.1 (by simpa using e))
  simp;omega
 |a::s,[],x,y,_,_,h=>by simp[Op.bytesLess] at h
 |a::s,b::s',x,y,h1,h2,h=>by
  simp only[Op.bytesLess,Bool.or_eq_true,Bool.and_eq_true,decide_eq_true_eq,beq_iff_eq] at h
  simp only[List.cons_append,Op.bytesLess,Bool.or_eq_true,Bool.and_eq_true,decide_eq_true_eq,beq_iff_eq]
  rcases h with h|⟨h,h'⟩
  ·exact .inl h
  ·exact .inr ⟨h,nq x y (fun c hc=>h1 c (by simp[hc])) (fun c hc=>h2 c (by simp[hc])) h'⟩
theorem mE (k:List UInt8):∀a b:List UInt8,Op.bytesLess (k++a) (k++b)=Op.bytesLess a b:=by
 induction k with
 |nil=>intro a b;rfl
 |cons c k ih=>intro a b;rw[List.cons_append,List.cons_append,ba,ih]
theorem ry:∀{a b:List UInt8},a.length=b.length→Op.bytesLess a b=true→Batch.val a<Batch.val b
 |[],[],_,h=>by simp[Op.bytesLess] at h
 |[],_::_,h,_=>by simp at h
 |_::_,[],h,_=>by simp at h
 |c::a,d::b,hl,h=>by
  simp only[List.length_cons,Nat.add_right_cancel_iff] at hl
  rw[Arch.iN,Arch.iN,hl]
  simp only[Op.bytesLess,Bool.or_eq_true,Bool.and_eq_true,decide_eq_true_eq,beq_iff_eq] at h
  rcases h with h|⟨h,h'⟩
  ·have h1:=Batch.fJ a
   have h2:c.toNat+1≤d.toNat:=UInt8.lt_iff_toNat_lt.1 h
   rw[hl] at h1
   have h3:=Nat.mul_le_mul_right (256^b.length) h2
   rw[Nat.add_mul,Nat.one_mul] at h3
   omega
  ·subst h
   have:=ry hl h'
   omega
theorem uf {a b:List UInt8} (hl:a.length=b.length) (h:Batch.val a<Batch.val b):Op.bytesLess a b=true:=by
 rcases Batch.dF a b with h1|h1|h1
 ·exact h1
 ·subst h1;omega
 ·have:=ry hl.symm h1;omega
theorem EM {w a b:Nat} (h:a<b) (hb:b<256^w):Op.bytesLess (be w a) (be w b)=true:=
 uf (by simp[aG]) (by rw[fT,fT,Nat.mod_eq_of_lt (by omega),Nat.mod_eq_of_lt hb];exact h)
theorem CR (a:UInt8):(a ^^^ 255).toNat=255 - a.toNat:=by
 rw[UInt8.toNat_xor]
 have h:∀n:Fin 256,n.val ^^^ (255:UInt8).toNat=255 - n.val:=by decide
 exact h ⟨a.toNat,a.toNat_lt⟩
theorem Ab (l:List UInt8):bq 0 l=l:=by simp[bq]
theorem rA:∀{a b:List UInt8},a.length=b.length→Op.bytesLess a b=true→Op.bytesLess (bq 255 b) (bq 255 a)=true
 |[],[],_,h=>by simp[Op.bytesLess] at h
 |[],_::_,h,_=>by simp at h
 |_::_,[],h,_=>by simp at h
 |c::a,d::b,hl,h=>by
  simp only[List.length_cons,Nat.add_right_cancel_iff] at hl
  simp only[Op.bytesLess,Bool.or_eq_true,Bool.and_eq_true,decide_eq_true_eq,beq_iff_eq] at h
  have e1:bq 255 (d::b)=(d ^^^ 255)::bq 255 b:=rfl
  have e2:bq 255 (c::a)=(c ^^^ 255)::bq 255 a:=rfl
  rw[e1,e2]
  rcases h with h|⟨h,h'⟩
  ·refine lJ ?_ _ _
   have h2:=UInt8.lt_iff_toNat_lt.1 h
   have:=CR c
   have:=CR d
   have:=c.toNat_lt
   have:=d.toNat_lt
   omega
  ·subst h
   rw[ba]
   exact rA hl h'
theorem xL {a b:Nat} (h:a<b) (hb:b<9223372036854775808):Op.bytesLess (upB a) (upB b)=true:=by
 have e:(256:Nat)^8=18446744073709551616:=by decide
 exact EM (by omega) (by rw[e];omega)
theorem pQ (x:Ky):cg x=2::dc x.k::0::1::2::(x.b++0::1::cP ((if x.o=[] then [] else [txt x.o])++x.ns.map (bQ x.k))):=by
 simp[cg,eH,cP,ptB,txt]
theorem su {x:Ky} (h:x.o≠[]):cg x=2::dc x.k::0::1::2::(x.b++0::1::2::(x.o++0::1::cP (x.ns.map (bQ x.k)))):=by
 rw[pQ,if_neg h]
 simp[cP,ptB,txt]
theorem pR {x y:Ky} (h:(dc x.k).toNat<(dc y.k).toNat):Op.bytesLess (cg x) (cg y)=true:=by
 rw[pQ,pQ,ba]
 exact lJ h _ _
theorem Is {x:Ky} (h:x.ok):∀b∈x.b,b≠0:=fun b hb=>by
 have:=(eW h.b).2.2 b hb
 exact xu (n:=0) (by omega)
theorem It {x:Ky} (h:x.ok) (hk:x.k≠1):∀b∈x.o,b≠0:=fun b hb=>by
 have:=(dd (h.o hk)).2.2 b hb
 exact xu (n:=0) (by omega)
theorem EN {x:Ky} (h:x.ok) (hk:x.k≠1):x.o≠[]:=fun e=>by
 have:=(dd (h.o hk)).1
 rw[e] at this;simp at this
theorem ug {x y:Ky} (hx:x.ok) (hy:y.ok) (hk:x.k=y.k) (h:Op.bytesLess x.b y.b=true):Op.bytesLess (cg x) (cg y)=true:=by
 rw[pQ,pQ,hk,ba,ba,ba,ba,ba]
 exact nq _ _ (Is hx) (Is hy) h
theorem EO {x y:Ky} (hx:x.ok) (hy:y.ok) (h1:x.k≠1) (hk:x.k=y.k) (hb:x.b=y.b) (h:Op.bytesLess x.o y.o=true):Op.bytesLess (cg x) (cg y)=true:=by
 rw[su (EN hx h1),su (EN hy (hk▸h1)),hk,hb,ba,ba,ba,ba,ba,mE,ba,ba,ba]
 exact nq _ _ (It hx h1) (It hy (hk▸h1)) h
theorem xM {x y:Ky} (hx:x.ok) (hy:y.ok) (h1:x.k≠1) (hk:x.k=y.k) (hb:x.b=y.b) (ho:x.o=y.o) (h:Op.bytesLess (cP (x.ns.map (bQ x.k))) (cP (y.ns.map (bQ y.k)))=true):Op.bytesLess (cg x) (cg y)=true:=by
 rw[su (EN hx h1),su (EN hy (hk▸h1)),hk,hb,ho,ba,ba,ba,ba,ba,mE,ba,ba,ba,mE,ba,ba]
 rw[hk] at h
 exact h
theorem Iu {n:Int} (h:0≤n) (k:Int) (hk:k≠2):ptB (bQ k n)=3::upB n.toNat:=by
 simp[bQ,hk,ptB,Ab]
theorem Iv {n:Int} (h:0≤n):ptB (bQ 2 n)=4::bq 255 (upB n.toNat):=by
 simp[bQ,ptB]
theorem EP (n:Nat):(upB n).length=8:=by simp[upB,aG]
theorem ER {n o:List UInt8} {i j:Int} (hx:(⟨2,n,o,[i]⟩:Ky).ok) (hy:(⟨2,n,o,[j]⟩:Ky).ok) (h:j<i):Op.bytesLess (cg ⟨2,n,o,[i]⟩) (cg ⟨2,n,o,[j]⟩)=true:=by
 have ri:=hx.r i (by simp)
 have rj:=hy.r j (by simp)
 refine xM hx hy (by simp) rfl rfl rfl ?_
 simp only[List.map_cons,List.map_nil,cP,List.flatten_cons,List.flatten_nil,List.append_nil]
 rw[Iv ri.1,Iv rj.1,ba]
 exact rA (by simp[EP]) (xL (by omega) (by omega))
theorem ES {n o:List UInt8} {i:Int} {a b:Nat} (hx:(⟨3,n,o,[i,a]⟩:Ky).ok) (hy:(⟨3,n,o,[i,b]⟩:Ky).ok) (h:a<b):Op.bytesLess (cg ⟨3,n,o,[i,a]⟩) (cg ⟨3,n,o,[i,b]⟩)=true:=by
 have ra:=hx.r a (by simp)
 have rb:=hy.r b (by simp)
 refine xM hx hy (by simp) rfl rfl rfl ?_
 simp only[List.map_cons,List.map_nil,cP,List.flatten_cons,List.flatten_nil,List.append_nil]
 rw[mE,Iu ra.1 3 (by decide),Iu rb.1 3 (by decide),ba]
 exact xL (by omega) (by omega)
theorem ka:∀{a b:List Pr},(a.Pairwise fun x y=>Op.bytesLess x.k y.k=true)→(b.Pairwise fun x y=>Op.bytesLess x.k y.k=true)→(∀p,p∈a↔p∈b)→a=b
 |[],[],_,_,_=>rfl
 |[],y::b,_,_,h=>by have:=(h y).2 (by simp);simp at this
 |x::a,[],_,_,h=>by have:=(h x).1 (by simp);simp at this
 |x::a,y::b,ha,hb,h=>by
  have ha':=List.pairwise_cons.1 ha
  have hb':=List.pairwise_cons.1 hb
  have ir:∀{u:List UInt8},¬Op.bytesLess u u=true:=fun {u} e=>by rw[Batch.bE] at e;cases e
  have hxy:x=y:=by
   rcases List.mem_cons.1 ((h x).1 (by simp)) with e|hx
   ·exact e
   ·rcases List.mem_cons.1 ((h y).2 (by simp)) with e|hy
    ·exact e.symm
    ·exact absurd (jW (hb'.1 x hx) (ha'.1 y hy)) ir
  subst hxy
  congr 1
  refine ka ha'.2 hb'.2 fun p=>⟨fun hp=>?_,fun hp=>?_⟩
  ·rcases List.mem_cons.1 ((h p).1 (by simp[hp])) with e|h1
   ·subst e;exact absurd (ha'.1 p hp) ir
   ·exact h1
  ·rcases List.mem_cons.1 ((h p).2 (by simp[hp])) with e|h1
   ·subst e;exact absurd (hb'.1 p hp) ir
   ·exact h1
end Go.Proofs.YtjnoobmaedgooaaGreat.Arch
end
section
set_option maxRecDepth 100000
namespace Go.Proofs.YtjnoobmaedgooaaGreat.Arch
open Go Go.Av Go.Proofs Go.Proofs.YtjnoobmaedgooaaGreat.C Go.Proofs.YtjnoobmaedgooaaGreat.Batch Go.Proofs.YtjnoobmaedgooaaGreat.Desk
theorem wB {α β:Type} {f:α→β}:∀{l:List α},(l.Pairwise fun a b=>f a≠f b)→∀a∈l,∀b∈l,f a=f b→a=b
 |[],_,a,ha,_,_,_=>by cases ha
 |x::l,h,a,ha,b,hb,e=>by
  obtain ⟨h1,h2⟩:=List.pairwise_cons.1 h
  rcases List.mem_cons.1 ha with ha1|ha1
  ·rcases List.mem_cons.1 hb with hb1|hb1
   ·rw[ha1,hb1]
   ·exact absurd (ha1▸e) (h1 b hb1)
  ·rcases List.mem_cons.1 hb with hb1|hb1
   ·exact absurd (hb1▸e.symm) (h1 a ha1)
   ·exact wB h2 a ha1 b hb1 e
section
variable {m:List Bk} (h:imB m=true)
include h
theorem Ac {b:Bk} (hb:b∈m):(kyB b).ok:=jX h _ (List.mem_flatten.2 ⟨_,List.mem_map.2 ⟨b,hb,rfl⟩,by simp[sk]⟩)
theorem uh {b:Bk} (hb:b∈m) {v:Vs} (hv:v∈b.l):(kyV b.n v).ok:=
 jX h _ (List.mem_flatten.2 ⟨_,List.mem_map.2 ⟨b,hb,rfl⟩,List.mem_cons.2 (.inr (List.mem_flatten.2 ⟨_,List.mem_map.2 ⟨v,hv,rfl⟩,by simp[sj]⟩))⟩)
theorem ui {b:Bk} (hb:b∈m) {v:Vs} (hv:v∈b.l) {k:Nat} (hk:k<ey v.b):(kyC b.n v k).ok:=
 jX h _ (List.mem_flatten.2 ⟨_,List.mem_map.2 ⟨b,hb,rfl⟩,List.mem_cons.2 (.inr (List.mem_flatten.2 ⟨_,List.mem_map.2 ⟨v,hv,rfl⟩,List.mem_cons.2 (.inr (List.mem_map.2 ⟨k,List.mem_range.2 hk,rfl⟩))⟩))⟩)
theorem CS (p:Pr):p∈aT m↔(∃b∈m,p=⟨cg (kyB b),stS b.st⟩)∨(∃b∈m,∃v∈b.l,p=⟨cg (kyV b.n v),gS v⟩)∨(∃b∈m,∃v∈b.l,∃k,k<ey v.b∧p=⟨cg (kyC b.n v k),chunk v.b k⟩):=by
 unfold aT
 rw[List.mem_flatten]
 constructor
 ·rintro ⟨l,hl,hp⟩
  obtain ⟨b,hb,rfl⟩:=List.mem_map.1 hl
  unfold ff at hp
  obtain ⟨c,hc,rfl⟩:=List.mem_map.1 hp
  obtain ⟨r,hr,hc⟩:=List.mem_flatten.1 hc
  unfold cB at hr
  rcases List.mem_cons.1 hr with rfl|hr
  ·simp only[List.mem_singleton] at hc
   subst hc
   exact .inl ⟨b,hb,by simp[dY,vN,fS (Ac h hb)]⟩
  ·obtain ⟨v,hv,rfl⟩:=List.mem_map.1 hr
   unfold dw at hc
   rcases List.mem_cons.1 hc with rfl|hc
   ·exact .inr (.inl ⟨b,hb,v,hv,by simp[dY,chV,fS (uh h hb hv)]⟩)
   ·obtain ⟨k,hk,rfl⟩:=List.mem_map.1 hc
    have hk:=List.mem_range.1 hk
    exact .inr (.inr ⟨b,hb,v,hv,k,hk,by simp[dY,chC,fS (ui h hb hv hk)]⟩)
 ·rintro (⟨b,hb,rfl⟩|⟨b,hb,v,hv,rfl⟩|⟨b,hb,v,hv,k,hk,rfl⟩)
  ·refine ⟨ff b,List.mem_map.2 ⟨b,hb,rfl⟩,?_⟩
   exact List.mem_map.2 ⟨vN b,List.mem_flatten.2 ⟨[vN b],by simp[cB],by simp⟩,by simp[dY,vN,fS (Ac h hb)]⟩
  ·refine ⟨ff b,List.mem_map.2 ⟨b,hb,rfl⟩,?_⟩
   exact List.mem_map.2 ⟨chV b.n v,List.mem_flatten.2 ⟨dw b.n v,List.mem_cons.2 (.inr (List.mem_map.2 ⟨v,hv,rfl⟩)),by simp[dw]⟩,by simp[dY,chV,fS (uh h hb hv)]⟩
  ·refine ⟨ff b,List.mem_map.2 ⟨b,hb,rfl⟩,?_⟩
   exact List.mem_map.2 ⟨chC b.n v k,List.mem_flatten.2 ⟨dw b.n v,List.mem_cons.2 (.inr (List.mem_map.2 ⟨v,hv,rfl⟩)),List.mem_cons.2 (.inr (List.mem_map.2 ⟨k,List.mem_range.2 hk,rfl⟩))⟩,by simp[dY,chC,fS (ui h hb hv hk)]⟩
theorem kJ (p:Pr):p∈aP (aT m)↔(∃b∈m,p=⟨cg (kyB b),stS b.st⟩)∨(∃b∈m,∃v∈b.l,p=⟨cg (kyV b.n v),gS v⟩)∨(∃b∈m,∃v∈b.l,∃k,k<ey v.b∧p=⟨cg (kyC b.n v k),chunk v.b k⟩):=
 ((lF (dJ h) (jn h)).2 p).trans (CS h p)
theorem CT {a b:Bk} (ha:a∈m) (hb:b∈m) (e:a.n=b.n):a=b:=
 wB (f:=Bk.n) ((iP h).imp fun hn=>ow hn) a ha b hb e
theorem ET {b:Bk} (hb:b∈m) {u v:Vs} (hu:u∈b.l) (hv:v∈b.l) (e1:u.o=v.o) (e2:u.id=v.id):u=v:=
 wB (f:=fun v:Vs=>(v.o,v.id)) ((oA (jy h hb)).imp fun hn e=>by
  simp only[Prod.mk.injEq] at e
  rcases next_ne hn with h1|h1
  ·exact h1 e.1
  ·exact h1 e.2) u hu v hv (by rw[e1,e2])
theorem pB {b:Bk} (hb:b∈m):bm (cg (kyB b))=kyB b:=(fW (Ac h hb)).2
theorem pV {b:Bk} (hb:b∈m) {v:Vs} (hv:v∈b.l):bm (cg (kyV b.n v))=kyV b.n v:=(fW (uh h hb hv)).2
theorem pC {b:Bk} (hb:b∈m) {v:Vs} (hv:v∈b.l) {k:Nat} (hk:k<ey v.b):bm (cg (kyC b.n v k))=kyC b.n v k:=(fW (ui h hb hv hk)).2
end
theorem eS {m:List Bk} (q:Pr→Bool):((aP (aT m)).filter q).Pairwise fun x y=>Op.bytesLess x.k y.k=true:=(gT (aT m)).sublist List.filter_sublist
def BP (m:List Bk):List Pr:=m.map fun b=>⟨cg (kyB b),stS b.st⟩
def VP (b:Bk):List Pr:=b.l.map fun v=>⟨cg (kyV b.n v),gS v⟩
def CP (n:List UInt8) (v:Vs):List Pr:=(List.range (ey v.b)).map fun k=>⟨cg (kyC n v k),chunk v.b k⟩
def isK (k:Int) (p:Pr):Bool:=decide ((bm p.k).k=k)
def gA (n o:List UInt8) (id:Int) (p:Pr):Bool:=decide ((bm p.k).k=3)&&(decide ((bm p.k).b=n)&&(decide ((bm p.k).o=o)&&decide ((bm p.k).ns.getD 0 0=id)))
section
variable {m:List Bk} (h:imB m=true)
include h
theorem EU:(BP m).Pairwise fun x y=>Op.bytesLess x.k y.k=true:=by
 unfold BP
 refine List.pairwise_map.2 (List.Pairwise.imp_of_mem (fun {a b} ha hb hn=>?_) (iP h))
 exact ug (Ac h ha) (Ac h hb) rfl hn
theorem EV {b:Bk} (hb:b∈m):(VP b).Pairwise fun x y=>Op.bytesLess x.k y.k=true:=by
 unfold VP
 refine List.pairwise_map.2 (List.Pairwise.imp_of_mem (fun {u v} hu hv hn=>?_) (oA (jy h hb)))
 unfold Vs.next at hn
 simp only[Bool.or_eq_true,Bool.and_eq_true,decide_eq_true_eq] at hn
 have ou:=uh h hb hu
 have ov:=uh h hb hv
 rcases hn with hn|⟨e,hn⟩
 ·exact EO ou ov (by simp[kyV]) rfl rfl hn
 ·obtain ⟨o,i⟩:=u
  obtain ⟨o',j⟩:=v
  simp only at e hn
  subst e
  exact ER ou ov hn
theorem EW {b:Bk} (hb:b∈m) {v:Vs} (hv:v∈b.l):(CP b.n v).Pairwise fun x y=>Op.bytesLess x.k y.k=true:=by
 unfold CP
 refine List.pairwise_map.2 (List.Pairwise.imp_of_mem (fun {x y} hx hy hn=>?_) List.pairwise_lt_range)
 exact ES (ui h hb hv (List.mem_range.1 hx)) (ui h hb hv (List.mem_range.1 hy)) hn
theorem EX:((m.map VP).flatten).Pairwise fun x y=>Op.bytesLess x.k y.k=true:=by
 refine List.pairwise_flatten.2 ⟨fun l hl=>?_,?_⟩
 ·obtain ⟨b,hb,rfl⟩:=List.mem_map.1 hl
  exact EV h hb
 ·refine List.pairwise_map.2 (List.Pairwise.imp_of_mem (fun {a b} ha hb hn x hx y hy=>?_) (iP h))
  obtain ⟨u,hu,rfl⟩:=List.mem_map.1 hx
  obtain ⟨v,hv,rfl⟩:=List.mem_map.1 hy
  exact ug (uh h ha hu) (uh h hb hv) rfl hn
theorem Iw:(aP (aT m)).filter (isK 1)=BP m:=by
 refine ka (eS _) (EU h) fun p=>?_
 rw[List.mem_filter,kJ h]
 unfold BP isK
 rw[List.mem_map]
 constructor
 ·rintro ⟨⟨b,hb,rfl⟩|⟨b,hb,v,hv,rfl⟩|⟨b,hb,v,hv,k,hk,rfl⟩,hq⟩
  ·exact ⟨b,hb,rfl⟩
  ·simp only[pV h hb hv] at hq;simp[kyV] at hq
  ·simp only[pC h hb hv hk] at hq;simp[kyC] at hq
 ·rintro ⟨b,hb,rfl⟩
  exact ⟨.inl ⟨b,hb,rfl⟩,by simp only[pB h hb];simp[kyB]⟩
theorem FC {b:Bk} (hb:b∈m) {v:Vs} (hv:v∈b.l):(aP (aT m)).filter (gA b.n v.o v.id)=CP b.n v:=by
 refine ka (eS _) (EW h hb hv) fun p=>?_
 rw[List.mem_filter,kJ h]
 unfold CP gA
 rw[List.mem_map]
 constructor
 ·rintro ⟨⟨c,hc,rfl⟩|⟨c,hc,u,hu,rfl⟩|⟨c,hc,u,hu,k,hk,rfl⟩,hq⟩
  ·simp only[pB h hc] at hq;simp[kyB] at hq
  ·simp only[pV h hc hu] at hq;simp[kyV] at hq
  ·simp only[pC h hc hu hk] at hq
   simp[kyC] at hq
   obtain ⟨e1,e2,e3⟩:=hq
   obtain rfl:=CT h hc hb (of_decide_eq_true e1)
   obtain rfl:=ET h hc hu hv (of_decide_eq_true e2) e3
   exact ⟨k,List.mem_range.2 hk,rfl⟩
 ·rintro ⟨k,hk,rfl⟩
  have hk:=List.mem_range.1 hk
  exact ⟨.inr (.inr ⟨b,hb,v,hv,k,hk,rfl⟩),by simp only[pC h hb hv hk];simp[kyC]⟩
theorem GD:(aP (aT m)).filter (isK 2)=(m.map VP).flatten:=by
 refine ka (eS _) (EX h) fun p=>?_
 rw[List.mem_filter,kJ h,List.mem_flatten]
 unfold isK
 constructor
 ·rintro ⟨⟨c,hc,rfl⟩|⟨c,hc,v,hv,rfl⟩|⟨c,hc,v,hv,k,hk,rfl⟩,hq⟩
  ·simp only[pB h hc] at hq;simp[kyB] at hq
  ·exact ⟨VP c,List.mem_map.2 ⟨c,hc,rfl⟩,List.mem_map.2 ⟨v,hv,rfl⟩⟩
  ·simp only[pC h hc hv hk] at hq;simp[kyC] at hq
 ·rintro ⟨l,hl,hp⟩
  obtain ⟨b,hb,rfl⟩:=List.mem_map.1 hl
  obtain ⟨v,hv,rfl⟩:=List.mem_map.1 hp
  exact ⟨.inr (.inl ⟨b,hb,v,hv,rfl⟩),by simp only[pV h hb hv];simp[kyV]⟩
theorem Ad:aP (aT m)=(aP (aT m)).filter (isK 1)++((aP (aT m)).filter (isK 3)++(aP (aT m)).filter (isK 2)):=by
 have kind:∀p∈aP (aT m),∃x:Ky,p.k=cg x∧bm p.k=x∧(x.k=1∨x.k=2∨x.k=3):=fun p hp=>by
  rcases (kJ h p).1 hp with ⟨b,hb,rfl⟩|⟨b,hb,v,hv,rfl⟩|⟨b,hb,v,hv,k,hk,rfl⟩
  ·exact ⟨_,rfl,pB h hb,.inl rfl⟩
  ·exact ⟨_,rfl,pV h hb hv,.inr (.inl rfl)⟩
  ·exact ⟨_,rfl,pC h hb hv hk,.inr (.inr rfl)⟩
 refine ka (gT _) (List.pairwise_append.2 ⟨eS _,List.pairwise_append.2 ⟨eS _,eS _,?_⟩,?_⟩) fun p=>?_
 ·intro x hx y hy
  obtain ⟨hx,kx⟩:=List.mem_filter.1 hx
  obtain ⟨hy,ky⟩:=List.mem_filter.1 hy
  obtain ⟨a,e1,e2,-⟩:=kind x hx
  obtain ⟨b,f1,f2,-⟩:=kind y hy
  unfold isK at kx ky
  rw[e2] at kx
  rw[f2] at ky
  have k1:a.k=3:=by simpa using kx
  have k2:b.k=2:=by simpa using ky
  rw[e1,f1]
  exact pR (by rw[k1,k2];decide)
 ·intro x hx y hy
  obtain ⟨hx,kx⟩:=List.mem_filter.1 hx
  obtain ⟨a,e1,e2,-⟩:=kind x hx
  unfold isK at kx
  rw[e2] at kx
  have k1:a.k=1:=by simpa using kx
  rcases List.mem_append.1 hy with hy|hy
  all_goals
   obtain ⟨hy,ky⟩:=List.mem_filter.1 hy
   obtain ⟨b,f1,f2,-⟩:=kind y hy
   unfold isK at ky
   rw[f2] at ky
   rw[e1,f1]
  ·have k2:b.k=3:=by simpa using ky
   exact pR (by rw[k1,k2];decide)
  ·have k2:b.k=2:=by simpa using ky
   exact pR (by rw[k1,k2];decide)
 ·rw[List.mem_append,List.mem_append,List.mem_filter,List.mem_filter,List.mem_filter]
  constructor
  ·intro hp
   obtain ⟨a,e1,e2,hk⟩:=kind p hp
   unfold isK
   rw[e2]
   rcases hk with hk|hk|hk
   ·exact .inl ⟨hp,by simp[hk]⟩
   ·exact .inr (.inr ⟨hp,by simp[hk]⟩)
   ·exact .inr (.inl ⟨hp,by simp[hk]⟩)
  ·rintro (hp|hp|hp)
   all_goals exact hp.1
end
end Go.Proofs.YtjnoobmaedgooaaGreat.Arch
end
section
set_option maxRecDepth 100000
namespace Go.Proofs.YtjnoobmaedgooaaGreat.Arch
open Go Go.Av Go.Proofs Go.Proofs.YtjnoobmaedgooaaGreat.C Go.Proofs.YtjnoobmaedgooaaGreat.Batch Go.Proofs.YtjnoobmaedgooaaGreat.Desk
theorem nR (s:List UInt8):∀n:Nat,((List.range n).map (chunk s)).flatten=s.take (160*n)
 |0=>by simp
 |n+1=>by
  rw[List.range_succ,List.map_append,List.flatten_append,nR s n]
  simp only[List.map_cons,List.map_nil,List.flatten_cons,List.flatten_nil,List.append_nil,chunk]
  have e:s.take (min s.length (160*n+160))=s.take (160*n+160):=by
   by_cases h:s.length≤160*n+160
   ·rw[Nat.min_eq_left h,List.take_of_length_le h,List.take_of_length_le (Nat.le_refl _)]
   ·rw[Nat.min_eq_right (by omega)]
  rw[e,show 160*(n+1)=160*n+160 by omega,List.drop_take,show 160*n+160 - 160*n=160 by omega,List.take_add]
theorem wC (s:List UInt8):((List.range (ey s)).map (chunk s)).flatten=s:=by
 rw[nR,List.take_of_length_le (by unfold ey;omega)]
theorem EY {v:Int} (h:nU v=true):stV (stS v)=v∧pO (stS v)=true:=by
 rcases tC v with (rfl|rfl|rfl)|⟨h2,-⟩
 ·exact ⟨by decide,by decide⟩
 ·exact ⟨by decide,by decide⟩
 ·exact ⟨by decide,by decide⟩
 ·rw[h] at h2;cases h2
theorem EZ {sz re im:Int} {g:Bool} (h:eE sz re im g=true) (u:Bool):hdB (cH sz re im g u)=true∧hdO (cH sz re im g u)=⟨sz,re,im,g,u⟩:=by
 have h':=h
 unfold eE jk at h'
 simp only[Bool.and_eq_true,decide_eq_true_eq] at h'
 have hs:cH sz re im g u=dT sz.toNat re.toNat im.toNat g u:=by unfold cH;rw[if_pos h]
 have hl:(dT sz.toNat re.toNat im.toNat g u).length=11:=da _ _ _ _ _
 have e2:(256:Nat)^2=65536:=by decide
 have e4:(256:Nat)^4=4294967296:=by decide
 have hc:hdC (dT sz.toNat re.toNat im.toNat g u)=⟨sz,re,im,g,u⟩:=by
  have f1:dT sz.toNat re.toNat im.toNat g u=UInt8.ofNat (flN g u)::(be 2 sz.toNat++be 4 re.toNat++be 4 im.toNat):=by
   have e1:be 1 (flN g u)=[UInt8.ofNat (flN g u)]:=by simp[be]
   unfold dT
   rw[e1]
   simp
  have d1:((dT sz.toNat re.toNat im.toNat g u).drop 1).take 2=be 2 sz.toNat:=by
   rw[f1,List.drop_succ_cons,List.drop_zero,List.append_assoc,List.take_left' (aG _ _)]
  have d2:((dT sz.toNat re.toNat im.toNat g u).drop 3).take 4=be 4 re.toNat:=by
   rw[f1,List.drop_succ_cons,List.append_assoc,List.drop_left' (aG _ _),List.take_left' (aG _ _)]
  have d3:((dT sz.toNat re.toNat im.toNat g u).drop 7).take 4=be 4 im.toNat:=by
   rw[f1,List.drop_succ_cons,List.drop_left' (by simp[aG]),List.take_of_length_le (by simp[aG])]
  have g0:(dT sz.toNat re.toNat im.toNat g u).getD 0 0=UInt8.ofNat (flN g u):=by rw[f1];rfl
  unfold hdC
  rw[d1,d2,d3,g0,fT,fT,fT,e2,e4,Nat.mod_eq_of_lt (by omega),Nat.mod_eq_of_lt (by omega),Nat.mod_eq_of_lt (by omega)]
  have k1:((sz.toNat:Nat):Int)=sz:=by omega
  have k2:((re.toNat:Nat):Int)=re:=by omega
  have k3:((im.toNat:Nat):Int)=im:=by omega
  rw[k1,k2,k3]
  cases g<;>cases u<;>rfl
 have hb:hdB (dT sz.toNat re.toNat im.toNat g u)=true:=by
  unfold hdB
  rw[hc,hl]
  simp only[h,decide_true,Bool.and_self]
 rw[hs]
 refine ⟨hb,?_⟩
 unfold hdO
 rw[if_pos hb,hc]
theorem CU {v:Vs} (h:v.okV=true):eE v.sz v.re v.im v.g=true:=by
 simp only[Vs.okV,Vs.fit,Vs.rh,Bool.and_eq_true,decide_eq_true_eq] at h
 exact h.2.1.1
theorem FD {b:Bk} (h:gv b=true):nU b.st=true:=by
 unfold gv at h
 simp only[Bool.and_eq_true,decide_eq_true_eq] at h
 exact h.1.2
theorem lK {v:Vs} (h:v.okV=true):hdB (gS v)=true∧hdO (gS v)=⟨v.sz,v.re,v.im,v.g,v.u⟩:=EZ (CU h) v.u
end Go.Proofs.YtjnoobmaedgooaaGreat.Arch
end
section
set_option maxRecDepth 100000
namespace Go.Proofs.YtjnoobmaedgooaaGreat.Arch
open Go Go.Av Go.Proofs Go.Proofs.YtjnoobmaedgooaaGreat.C Go.Proofs.YtjnoobmaedgooaaGreat.Batch Go.Proofs.YtjnoobmaedgooaaGreat.Desk
structure Pc where
 b:List UInt8
 o:List UInt8
 id:Int
 s:List UInt8
 n:Int
def eJ (b o:List UInt8) (id:Int) (p:Pc):Bool:=decide (b=p.b)&&(decide (o=p.o)&&(decide (id=p.id)&&true))
def nY (b o:List UInt8) (id:Int):List AV:=[.str b,.str o,.int .i64 id]
def sv (s:List UInt8) (n:Int):AV:= .agg [.str s,.int .i64 n]
def eX (q:List Pc):List (AV × AV):=q.map fun p=>(.agg (nY p.b p.o p.id),sv p.s p.n)
def il:List Pc→List UInt8→List UInt8→Int→Option (Nat × AV)
 |[],_,_,_=>none
 |p::q,b,o,id=>if eJ b o id p then some (0,sv p.s p.n) else (il q b o id).map fun x=>(x.1+1,x.2)
def cw:List Pc→List UInt8→List UInt8→Int→List UInt8 × Int
 |[],_,_,_=>([],0)
 |p::q,b,o,id=>if eJ b o id p then (p.s,p.n) else cw q b o id
def iT:List Pc→List UInt8→List UInt8→Int→List UInt8→Int→List Pc
 |[],b,o,id,s,n=>[⟨b,o,id,s,n⟩]
 |p::q,b,o,id,s,n=>if eJ b o id p then ⟨b,o,id,s,n⟩::q else p::iT q b o id s n
def iU:List Pc→List UInt8→List UInt8→Int→List Pc
 |[],_,_,_=>[]
 |p::q,b,o,id=>if eJ b o id p then q else p::iU q b o id
theorem wD (b o:List UInt8) (id:Int):∀q:List Pc,dv [.str,.str,.int] (nY b o id) (eX q)=some (il q b o id)
 |[]=>by simp[eX,dv,il,nY,aV,gW]
 |p::q=>by
  have ih:=wD b o id q
  have e:aV [.str,.str,.int] (nY b o id) (nY p.b p.o p.id)=some (eJ b o id p):=by simp[nY,aV,gW,eJ]
  have hq:eX (p::q)=(.agg (nY p.b p.o p.id),sv p.s p.n)::eX q:=rfl
  rw[hq]
  simp only[dv,e,il]
  cases eJ b o id p with
  |true=>rfl
  |false=>simp[ih]
theorem wE (b o:List UInt8) (id:Int):∀q:List Pc,cQ (.agg [.str [],.int .i64 0]) false (il q b o id)=sv (cw q b o id).1 (cw q b o id).2
 |[]=>rfl
 |p::q=>by
  have ih:=wE b o id q
  simp only[il,cw]
  cases eJ b o id p with
  |true=>rfl
  |false=>
   simp only[Bool.false_eq_true,if_false]
   rw[←ih]
   cases il q b o id<;>rfl
theorem FE (b o:List UInt8) (id:Int) (s:List UInt8) (n:Int):∀q:List Pc,oJ (eX q) (nY b o id) (sv s n) (il q b o id)=eX (iT q b o id s n)
 |[]=>rfl
 |p::q=>by
  have ih:=FE b o id s n q
  have hq:eX (p::q)=(.agg (nY p.b p.o p.id),sv p.s p.n)::eX q:=rfl
  rw[hq]
  simp only[il,iT]
  cases eJ b o id p with
  |true=>rfl
  |false=>
   simp only[Bool.false_eq_true,if_false]
   have hr:eX (p::iT q b o id s n)=(.agg (nY p.b p.o p.id),sv p.s p.n)::eX (iT q b o id s n):=rfl
   rw[hr,←ih]
   cases il q b o id<;>rfl
theorem FF (b o:List UInt8) (id:Int):∀q:List Pc,oI (eX q) (il q b o id)=eX (iU q b o id)
 |[]=>rfl
 |p::q=>by
  have ih:=FF b o id q
  have hq:eX (p::q)=(.agg (nY p.b p.o p.id),sv p.s p.n)::eX q:=rfl
  rw[hq]
  simp only[il,iU]
  cases eJ b o id p with
  |true=>rfl
  |false=>
   simp only[Bool.false_eq_true,if_false]
   have hr:eX (p::iU q b o id)=(.agg (nY p.b p.o p.id),sv p.s p.n)::eX (iU q b o id):=rfl
   rw[hr,←ih]
   cases il q b o id<;>rfl
theorem CV (q:List Pc):(eX q).length=q.length:=List.length_map _
theorem di {b o:List UInt8} {id:Int} {p:Pc}:eJ b o id p=true↔b=p.b∧o=p.o∧id=p.id:=by
 simp[eJ]
theorem uj (b o:List UInt8) (id:Int) (s:List UInt8) (n:Int) (b' o':List UInt8) (id':Int):∀q:List Pc,cw (iT q b o id s n) b' o' id'=if b'=b∧o'=o∧id'=id then (s,n) else cw q b' o' id'
 |[]=>by
  simp only[iT,cw]
  by_cases h:b'=b∧o'=o∧id'=id
  ·rw[if_pos h,if_pos (di.2 h)]
  ·rw[if_neg h,if_neg (fun e=>h (di.1 e))]
 |p::q=>by
  have ih:=uj b o id s n b' o' id' q
  simp only[iT]
  by_cases hp:eJ b o id p=true
  ·rw[if_pos hp]
   obtain ⟨e1,e2,e3⟩:=di.1 hp
   simp only[cw]
   by_cases h:b'=b∧o'=o∧id'=id
   ·rw[if_pos h,if_pos (di.2 h)]
   ·rw[if_neg h,if_neg (fun e=>h (di.1 e)),if_neg (fun e=>h (by obtain ⟨x,y,z⟩:=di.1 e;exact ⟨x.trans e1.symm,y.trans e2.symm,z.trans e3.symm⟩))]
  ·rw[if_neg hp]
   simp only[cw]
   by_cases h2:eJ b' o' id' p=true
   ·rw[if_pos h2,if_pos h2,if_neg]
    rintro ⟨rfl,rfl,rfl⟩
    exact hp h2
   ·rw[if_neg h2,if_neg h2,ih]
def jr (q:List Pc):Prop:=q.Pairwise fun x y=>¬(x.b=y.b∧x.o=y.o∧x.id=y.id)
theorem mF {b o:List UInt8} {id:Int} {s:List UInt8} {n:Int} {x:Pc}:∀{q:List Pc},x∈iT q b o id s n→x=⟨b,o,id,s,n⟩∨x∈q
 |[],h=>by simp[iT] at h;exact .inl h
 |p::q,h=>by
  simp only[iT] at h
  split at h
  ·rcases List.mem_cons.1 h with h|h
   ·exact .inl h
   ·exact .inr (by simp[h])
  ·rcases List.mem_cons.1 h with h|h
   ·exact .inr (by simp[h])
   ·rcases mF h with h|h
    ·exact .inl h
    ·exact .inr (by simp[h])
theorem mG {b o:List UInt8} {id:Int} {x:Pc}:∀{q:List Pc},x∈iU q b o id→x∈q
 |[],h=>by simp[iU] at h
 |p::q,h=>by
  simp only[iU] at h
  split at h
  ·simp[h]
  ·rcases List.mem_cons.1 h with h|h
   ·simp[h]
   ·have:=mG h;simp[this]
theorem rB {b o:List UInt8} {id:Int} {s:List UInt8} {n:Int}:∀{q:List Pc},jr q→jr (iT q b o id s n)
 |[],h=>by simp[iT,jr]
 |p::q,h=>by
  obtain ⟨h1,h2⟩:=List.pairwise_cons.1 h
  simp only[iT]
  split
  ·rename_i hp
   obtain ⟨e1,e2,e3⟩:=di.1 hp
   refine List.pairwise_cons.2 ⟨fun y hy=>?_,h2⟩
   have:=h1 y hy
   simp only
   rw[e1,e2,e3];exact this
  ·rename_i hp
   refine List.pairwise_cons.2 ⟨fun y hy=>?_,rB h2⟩
   rcases mF hy with rfl|hy
   ·simp only
    rintro ⟨e1,e2,e3⟩
    exact hp (di.2 ⟨e1.symm,e2.symm,e3.symm⟩)
   ·exact h1 y hy
theorem nt {b o:List UInt8} {id:Int}:∀{q:List Pc},jr q→jr (iU q b o id)∧∀x∈iU q b o id,¬(x.b=b∧x.o=o∧x.id=id)
 |[],h=>by simp[iU,jr]
 |p::q,h=>by
  obtain ⟨h1,h2⟩:=List.pairwise_cons.1 h
  simp only[iU]
  split
  ·rename_i hp
   obtain ⟨e1,e2,e3⟩:=di.1 hp
   refine ⟨h2,fun x hx=>?_⟩
   have:=h1 x hx
   rintro ⟨f1,f2,f3⟩
   exact this ⟨by rw[f1,e1],by rw[f2,e2],by rw[f3,e3]⟩
  ·rename_i hp
   obtain ⟨i1,i2⟩:=nt (b:=b) (o:=o) (id:=id) h2
   refine ⟨List.pairwise_cons.2 ⟨fun y hy=>h1 y (mG hy),i1⟩,fun x hx=>?_⟩
   rcases List.mem_cons.1 hx with rfl|hx
   ·rintro ⟨f1,f2,f3⟩
    exact hp (di.2 ⟨f1.symm,f2.symm,f3.symm⟩)
   ·exact i2 x hx
theorem uk {b o b' o':List UInt8} {id id':Int} (hn:¬(b'=b∧o'=o∧id'=id)):∀q:List Pc,cw (iU q b o id) b' o' id'=cw q b' o' id'
 |[]=>rfl
 |p::q=>by
  have ih:=uk hn q
  simp only[iU]
  by_cases hp:eJ b o id p=true
  ·rw[if_pos hp]
   simp only[cw]
   rw[if_neg]
   intro e
   obtain ⟨e1,e2,e3⟩:=di.1 hp
   obtain ⟨f1,f2,f3⟩:=di.1 e
   exact hn ⟨by rw[f1,e1],by rw[f2,e2],by rw[f3,e3]⟩
  ·rw[if_neg hp]
   simp only[cw]
   rw[ih]
def kX (ns:List (List UInt8)) (nm:List UInt8):Nat→Nat→Nat→Nat
 |0,i,_=>i
 |f+1,i,j=>if i<j then (if Op.bytesLess (ns.getD ((i+j)/2) []) nm then kX ns nm f ((i+j)/2+1) j else kX ns nm f i ((i+j)/2)) else i
def jA (ns:List (List UInt8)) (nm:List UInt8):Nat:=kX ns nm ns.length 0 ns.length
def fu (ns:List (List UInt8)) (nm:List UInt8):Bool:=decide (jA ns nm<ns.length)&&decide (ns.getD (jA ns nm) []=nm)
theorem pS {ns:List (List UInt8)} (hs:ns.Pairwise fun a b=>Op.bytesLess a b=true) {z:Nat} (hz:z<ns.length):∀(f i j:Nat),j - i≤f→i≤z→z≤j→j≤ns.length→kX ns (ns.getD z []) f i j=z
 |0,i,j,h1,h2,h3,h4=>by simp only[kX];omega
 |f+1,i,j,h1,h2,h3,h4=>by
  simp only[kX]
  by_cases hij:i<j
  ·rw[if_pos hij]
   have a1:(i+j)/2<j:=by omega
   have a2:i≤(i+j)/2:=by omega
   have pw:=List.pairwise_iff_getElem.1 hs
   generalize (i+j)/2=c at*
   have gc:ns.getD c []=ns[c]'(by omega):=by simp[List.getD,List.getElem?_eq_getElem (show c<ns.length by omega)]
   have gz:ns.getD z []=ns[z]:=by simp[List.getD,List.getElem?_eq_getElem hz]
   by_cases hl:Op.bytesLess (ns.getD c []) (ns.getD z [])=true
   ·rw[if_pos hl]
    have hcz:c<z:=by
     rcases Nat.lt_trichotomy c z with h|h|h
     ·exact h
     ·subst h;rw[Batch.bE] at hl;cases hl
     ·have:=pw z c hz (by omega) h
      rw[gc,gz] at hl
      have:=Batch.eC this hl
      rw[Batch.bE] at this;cases this
    exact pS hs hz f (c+1) j (by omega) (by omega) h3 h4
   ·rw[if_neg hl]
    have hcz:z≤c:=by
     rcases Nat.lt_or_ge c z with h|h
     ·have:=pw c z (by omega) hz h
      rw[gc,gz] at hl
      exact absurd this hl
     ·exact h
    exact pS hs hz f i c (by omega) h2 hcz (by omega)
  ·rw[if_neg hij];omega
theorem E0 {ns:List (List UInt8)} (hs:ns.Pairwise fun a b=>Op.bytesLess a b=true) {z:Nat} (hz:z<ns.length):jA ns (ns.getD z [])=z∧fu ns (ns.getD z [])=true:=by
 have h:jA ns (ns.getD z [])=z:=pS hs hz _ _ _ (by omega) (by omega) (by omega) (Nat.le_refl _)
 refine ⟨h,?_⟩
 unfold fu
 rw[h]
 simp[hz]
abbrev SS:=List Bk × List Pc
def pT (m:List Bk) (i:Nat) (v:Vs):List Bk:=m.set i ⟨(m.getD i default).n,(m.getD i default).st,(m.getD i default).l++[v]⟩
def um (k:Ky) (hd:Hd) (b:List UInt8):Vs:=⟨k.o,k.ns.getD 0 0,hd.sz,hd.re,hd.im,hd.g,hd.u,b⟩
def jB (S:SS) (k:Ky) (v:List UInt8):Option SS:=
 if k.k=1 then (if pO v=true then some (S.1++[⟨k.b,stV v,[]⟩],S.2) else none)
 else if k.k=3 then (if k.ns.getD 1 0=(cw S.2 k.b k.o (k.ns.getD 0 0)).2 then some (S.1,iT S.2 k.b k.o (k.ns.getD 0 0) ((cw S.2 k.b k.o (k.ns.getD 0 0)).1++v) ((cw S.2 k.b k.o (k.ns.getD 0 0)).2+1)) else none)
 else if k.k=2 then (if hdB v=true then (if fu (S.1.map Bk.n) k.b=true then some (pT S.1 (jA (S.1.map Bk.n) k.b) (um k (hdO v) (cw S.2 k.b k.o (k.ns.getD 0 0)).1),iU S.2 k.b k.o (k.ns.getD 0 0)) else none) else none)
 else none
def js (S:SS) (p:Pr):Option SS:=if eI p.k=true then jB S (bm p.k) p.v else none
def jt (l:List Pr):Nat→Option SS
 |0=>some ([],[])
 |j+1=>(jt l j).bind fun S=>if (decide (j=0)||Op.bytesLess (l.getD (j - 1) default).k (l.getD j default).k)=true then js S (l.getD j default) else none
def fE:SS→List Pr→Option SS
 |S,[]=>some S
 |S,p::l=>(js S p).bind fun S'=>fE S' l
theorem fX:∀(a b:List Pr) (S:SS),fE S (a++b)=(fE S a).bind fun S'=>fE S' b
 |[],b,S=>rfl
 |p::a,b,S=>by
  simp only[List.cons_append,fE]
  cases js S p with
  |none=>rfl
  |some S'=>exact fX a b S'
theorem uo {l:List Pr} (h:l.Pairwise fun x y=>Op.bytesLess x.k y.k=true):∀j,j≤l.length→jt l j=fE ([],[]) (l.take j)
 |0,_=>rfl
 |j+1,hj=>by
  have hlt:j<l.length:=by omega
  have e:l.getD j default=l[j]:=by simp[List.getD,List.getElem?_eq_getElem hlt]
  have hc:(decide (j=0)||Op.bytesLess (l.getD (j - 1) default).k (l.getD j default).k)=true:=by
   rcases Nat.eq_zero_or_pos j with h0|h0
   ·simp[h0]
   ·have e1:l.getD (j - 1) default=l[j - 1]:=by simp[List.getD,List.getElem?_eq_getElem (show j - 1<l.length by omega)]
    rw[e,e1,List.pairwise_iff_getElem.1 h (j - 1) j (by omega) hlt (by omega)]
    simp
  rw[List.take_succ_eq_append_getElem hlt,fX,←uo h j (by omega)]
  simp only[jt]
  congr 1
  funext S
  rw[if_pos hc,e]
  simp only[fE]
  cases js S l[j] <;>rfl
def bare (b:Bk):Bk:=⟨b.n,b.st,[]⟩
section
variable {m:List Bk} (h:imB m=true)
include h
theorem Ix {b:Bk} (hb:b∈m) (S:SS):js S ⟨cg (kyB b),stS b.st⟩=some (S.1++[bare b],S.2):=by
 obtain ⟨e1,e2⟩:=EY (FD (jy h hb))
 unfold js
 rw[if_pos (fW (Ac h hb)).1,pB h hb]
 simp[jB,kyB,e1,e2,bare]
theorem CW:∀(a:List Bk) (S:SS),(∀b∈a,b∈m)→fE S (BP a)=some (S.1++a.map bare,S.2)
 |[],S,_=>by simp[BP,fE]
 |b::a,S,hs=>by
  have e:BP (b::a)=⟨cg (kyB b),stS b.st⟩::BP a:=rfl
  rw[e]
  simp only[fE]
  rw[Ix h (hs b (by simp))]
  simp only[Option.bind_some]
  rw[CW a _ fun c hc=>hs c (by simp[hc])]
  simp
end
def QPc (q:List Pc) (C:List Pr):Prop:=jr q∧(∀n o id,cw q n o id=(((C.filter (gA n o id)).map Pr.v).flatten,((C.filter (gA n o id)).length:Int)))∧∀p∈q,∃x∈C,gA p.b p.o p.id x=true
def FG (C:List Pr):Prop:=∀a p b,C=a++p::b→eI p.k=true∧(bm p.k).k=3∧(bm p.k).ns.getD 1 0=((a.filter (gA (bm p.k).b (bm p.k).o ((bm p.k).ns.getD 0 0))).length:Int)
theorem nv {p:Pr} (hk:(bm p.k).k=3) (n o:List UInt8) (id:Int):gA n o id p=true↔n=(bm p.k).b∧o=(bm p.k).o∧id=(bm p.k).ns.getD 0 0:=by
 unfold gA
 rw[hk]
 simp only[decide_true,Bool.true_and,Bool.and_eq_true,decide_eq_true_eq]
 constructor
 ·rintro ⟨a,b,c⟩;exact ⟨a.symm,b.symm,c.symm⟩
 ·rintro ⟨a,b,c⟩;exact ⟨a.symm,b.symm,c.symm⟩
theorem GF (m:List Bk) (C:List Pr) (hC:FG C):∃q,fE (m,[]) C=some (m,q)∧QPc q C:=by
 induction C using oz with
 |h0=>exact ⟨[],rfl,by simp[jr],fun n o id=>rfl,fun p hp=>by cases hp⟩
 |h1 a x ih=>
  obtain ⟨q,hq,h1,h2,h3⟩:=ih fun u p v e=>hC u p (v++[x]) (by rw[e];simp)
  obtain ⟨g1,g2,g3⟩:=hC a x [] rfl
  have hadd:js (m,q) x=some (m,iT q (bm x.k).b (bm x.k).o ((bm x.k).ns.getD 0 0) ((cw q (bm x.k).b (bm x.k).o ((bm x.k).ns.getD 0 0)).1++x.v) ((cw q (bm x.k).b (bm x.k).o ((bm x.k).ns.getD 0 0)).2+1)):=by
   unfold js
   rw[if_pos g1]
   unfold jB
   rw[if_neg (by rw[g2];decide),if_pos g2,if_pos]
   simp only
   rw[g3,h2]
  refine ⟨_,by rw[fX,hq];simp only[Option.bind_some,fE];rw[hadd];rfl,rB h1,fun n o id=>?_,fun p hp=>?_⟩
  ·rw[uj,List.filter_append]
   by_cases hp:n=(bm x.k).b∧o=(bm x.k).o∧id=(bm x.k).ns.getD 0 0
   ·rw[if_pos hp]
    have hc:=(nv g2 n o id).2 hp
    have e:List.filter (gA n o id) [x]=[x]:=by simp[hc]
    obtain ⟨rfl,rfl,rfl⟩:=hp
    rw[e,h2]
    simp
   ·rw[if_neg hp,h2]
    have e:List.filter (gA n o id) [x]=[]:=by
     simp only[List.filter_cons,List.filter_nil]
     rw[if_neg fun hc=>hp ((nv g2 n o id).1 hc)]
    rw[e,List.append_nil]
  ·rcases mF hp with rfl|hp
   ·exact ⟨x,by simp,(nv g2 _ _ _).2 ⟨rfl,rfl,rfl⟩⟩
   ·obtain ⟨y,hy,e⟩:=h3 p hp
    exact ⟨y,by simp[hy],e⟩
theorem CX {m:List Bk} (n o:List UInt8) (id:Int):((aP (aT m)).filter (isK 3)).filter (gA n o id)=(aP (aT m)).filter (gA n o id):=by
 rw[List.filter_filter]
 refine List.filter_congr fun x _=>?_
 unfold gA isK
 cases decide ((bm x.k).k=3)<;>simp
section
variable {m:List Bk} (h:imB m=true)
include h
theorem GG:FG ((aP (aT m)).filter (isK 3)):=by
 intro a p b e
 have hp:p∈(aP (aT m)).filter (isK 3):=by rw[e];simp
 obtain ⟨hp,hk⟩:=List.mem_filter.1 hp
 rcases (kJ h p).1 hp with ⟨c,hc,rfl⟩|⟨c,hc,v,hv,rfl⟩|⟨c,hc,v,hv,k,hkc,rfl⟩
 ·unfold isK at hk;simp only[pB h hc] at hk;simp[kyB] at hk
 ·unfold isK at hk;simp only[pV h hc hv] at hk;simp[kyV] at hk
 ·have f:=congrArg (List.filter (gA c.n v.o v.id)) e
  rw[CX,FC h hc hv,List.filter_append,List.filter_cons] at f
  have hself:gA c.n v.o v.id ⟨cg (kyC c.n v k),chunk v.b k⟩=true:=by
   unfold gA
   simp only[pC h hc hv hkc]
   simp[kyC]
  rw[if_pos hself] at f
  simp only[pC h hc hv hkc]
  refine ⟨(fW (ui h hc hv hkc)).1,rfl,?_⟩
  show (k:Int)=_
  have hlen:(a.filter (gA c.n v.o v.id)).length<(CP c.n v).length:=by rw[f];simp
  have hcl:(CP c.n v).length=ey v.b:=by simp[CP]
  have g:(CP c.n v)[(a.filter (gA c.n v.o v.id)).length]? =some ⟨cg (kyC c.n v k),chunk v.b k⟩:=by rw[f];simp
  have g2:(CP c.n v)[(a.filter (gA c.n v.o v.id)).length]? =some ⟨cg (kyC c.n v (a.filter (gA c.n v.o v.id)).length),chunk v.b (a.filter (gA c.n v.o v.id)).length⟩:=by
   unfold CP
   rw[List.getElem?_map,List.getElem?_range (by omega)]
   rfl
  rw[g] at g2
  simp only[Option.some.injEq,Pr.mk.injEq] at g2
  have hkey:=key_inj (ui h hc hv hkc) (ui h hc hv (by omega)) g2.1
  have e0:c.n=(kyC c.n v k).b:=rfl
  have ek:(kyC c.n v k).ns.getD 0 0=v.id:=rfl
  rw[ek]
  show (k:Int)=((a.filter (gA c.n v.o v.id)).length:Int)
  simp only[kyC,Ky.mk.injEq,true_and,List.cons.injEq,and_true] at hkey
  exact hkey
end
def Q3 (q:List Pc) (R:List (List UInt8 × Vs)):Prop:=jr q∧(∀r∈R,(cw q r.1 r.2.o r.2.id).1=r.2.b)∧∀p∈q,∃r∈R,p.b=r.1∧p.o=r.2.o∧p.id=r.2.id
def E1 (r:List UInt8 × Vs):Pr:=⟨cg (kyV r.1 r.2),gS r.2⟩
theorem CY {v:Vs} (hv:v.okV=true) (n:List UInt8):um (kyV n v) (hdO (gS v)) v.b=v:=by
 rw[(lK hv).2]
 rfl
theorem Iy {m:List Bk} (h:imB m=true) {b:Bk} (hb:b∈m) {v:Vs} (hv:v∈b.l) (S:SS) (hn:S.1.map Bk.n=m.map Bk.n) {i:Nat} (hi:i<m.length) (hbi:m.getD i default=b) {R:List (List UInt8 × Vs)} (hq:Q3 S.2 ((b.n,v)::R)) (hR:∀r∈R,¬(r.1=b.n∧r.2.o=v.o∧r.2.id=v.id)):
  ∃q',js S (E1 (b.n,v))=some (pT S.1 i v,q')∧Q3 q' R:=by
 obtain ⟨h1,h2,h3⟩:=hq
 have hov:=rl (jy h hb) hv
 have hbody:(cw S.2 b.n v.o v.id).1=v.b:=h2 (b.n,v) (by simp)
 have hrise:(m.map Bk.n).Pairwise fun a b=>Op.bytesLess a b=true:=List.pairwise_map.2 (iP h)
 have hnm:(m.map Bk.n).getD i []=b.n:=by
  have e:m.getD i default=m[i]:=by simp[List.getD,List.getElem?_eq_getElem hi]
  rw[←hbi,e]
  simp[List.getD,List.getElem?_map,List.getElem?_eq_getElem hi]
 obtain ⟨p1,p2⟩:=E0 hrise (z:=i) (by simpa using hi)
 rw[hnm] at p1 p2
 refine ⟨iU S.2 b.n v.o v.id,?_,(nt h1).1,fun r hr=>?_,fun p hp=>?_⟩
 ·unfold js E1
  simp only
  rw[if_pos (fW (uh h hb hv)).1,pV h hb hv]
  unfold jB
  rw[if_neg (by simp[kyV]),if_neg (by simp[kyV]),if_pos (by simp[kyV]),if_pos (lK hov).1,hn]
  have e1:(kyV b.n v).b=b.n:=rfl
  have e2:(kyV b.n v).o=v.o:=rfl
  have e3:(kyV b.n v).ns.getD 0 0=v.id:=rfl
  rw[e1,e2,e3,if_pos p2,p1,hbody,CY hov]
 ·rw[uk (fun e=>hR r hr e)]
  exact h2 r (by simp[hr])
 ·obtain ⟨r,hr,e1,e2,e3⟩:=h3 p (mG hp)
  rcases List.mem_cons.1 hr with rfl|hr
  ·exact absurd ⟨e1,e2,e3⟩ ((nt h1).2 p hp)
  ·exact ⟨r,hr,e1,e2,e3⟩
theorem E2 (a c:List Bk) (b:Bk) (v:Vs):pT (a++b::c) a.length v=a++⟨b.n,b.st,b.l++[v]⟩::c:=by
 unfold pT
 have e:(a++b::c).getD a.length default=b:=by simp[List.getD]
 rw[e]
 simp
def qf (b:Bk):List (List UInt8 × Vs):=b.l.map fun v=>(b.n,v)
theorem GH (b:Bk):VP b=(qf b).map E1:=by
 unfold VP qf
 rw[List.map_map];rfl
def sw (R:List (List UInt8 × Vs)):Prop:=R.Pairwise fun x y=>¬(y.1=x.1∧y.2.o=x.2.o∧y.2.id=x.2.id)
theorem xN {m:List Bk} (h:imB m=true) {b:Bk} (hb:b∈m) {i:Nat} (hi:i<m.length) (hbi:m.getD i default=b) (a c:List Bk) (hai:a.length=i) (hnm:a.map Bk.n++b.n::c.map Bk.n=m.map Bk.n) (R:List (List UInt8 × Vs)):
  ∀(x y:List Vs),b.l=x++y→∀q,Q3 q (y.map (fun v=>(b.n,v))++R)→sw (y.map (fun v=>(b.n,v))++R)→∃q',fE (a++⟨b.n,b.st,x⟩::c,q) ((y.map fun v=>(b.n,v)).map E1)=some (a++b::c,q')∧Q3 q' R
 |x,[],hl,q,hq,_=>by
  rw[List.append_nil] at hl
  refine ⟨q,?_,by simpa using hq⟩
  simp only[List.map_nil,fE]
  rw[←hl]
 |x,v::y,hl,q,hq,hR=>by
  have hv:v∈b.l:=by rw[hl];simp
  rw[List.map_cons,List.cons_append] at hq hR
  obtain ⟨hR1,hR2⟩:=List.pairwise_cons.1 hR
  obtain ⟨q1,e1,hq1⟩:=Iy h hb hv (a++⟨b.n,b.st,x⟩::c,q) (by simpa using hnm) hi hbi hq hR1
  simp only at e1
  rw[←hai,E2] at e1
  obtain ⟨q2,e2,hq2⟩:=xN h hb hi hbi a c hai hnm R (x++[v]) y (by rw[hl];simp) q1 hq1 hR2
  refine ⟨q2,?_,hq2⟩
  rw[List.map_cons,List.map_cons]
  simp only[fE]
  rw[e1]
  exact e2
theorem xO {m:List Bk} (h:imB m=true):∀(a c:List Bk),m=a++c→∀q,Q3 q (c.map qf).flatten→sw (c.map qf).flatten→fE (a++c.map bare,q) ((c.map VP).flatten)=some (m,[])
 |a,[],hm,q,hq,_=>by
  obtain ⟨-,-,h3⟩:=hq
  have:q=[]:=by
   cases q with
   |nil=>rfl
   |cons p q=>obtain ⟨r,hr,-⟩:=h3 p (by simp);simp at hr
  subst this
  simp only[List.map_nil,List.flatten_nil,fE]
  rw[hm]
 |a,b::c,hm,q,hq,hR=>by
  have hb:b∈m:=by rw[hm];simp
  have hi:a.length<m.length:=by rw[hm];simp
  have hbi:m.getD a.length default=b:=by rw[hm];simp[List.getD]
  rw[List.map_cons,List.flatten_cons] at hq hR
  have hnm:a.map Bk.n++b.n::(c.map bare).map Bk.n=m.map Bk.n:=by
   rw[hm,List.map_map,List.map_append,List.map_cons];rfl
  obtain ⟨q1,e1,hq1⟩:=xN h hb hi hbi a (c.map bare) rfl hnm (c.map qf).flatten [] b.l rfl q hq hR
  have hR2:sw (c.map qf).flatten:=(List.pairwise_append.1 hR).2.1
  have ih:=xO h (a++[b]) c (by rw[hm];simp) q1 hq1 hR2
  rw[List.map_cons,List.map_cons,List.flatten_cons,fX,GH]
  have eb:bare b=⟨b.n,b.st,[]⟩:=rfl
  rw[eb]
  have ev:qf b=b.l.map fun v=>(b.n,v):=rfl
  rw[ev,e1]
  simp only[Option.bind_some]
  simpa using ih
theorem Ae {m:List Bk} (h:imB m=true):sw (m.map qf).flatten:=by
 refine List.pairwise_flatten.2 ⟨fun l hl=>?_,?_⟩
 ·obtain ⟨b,hb,rfl⟩:=List.mem_map.1 hl
  unfold qf
  refine List.pairwise_map.2 ((oA (jy h hb)).imp fun hn=>?_)
  rintro ⟨-,e2,e3⟩
  rcases next_ne hn with h1|h1
  ·exact h1 e2.symm
  ·exact h1 e3.symm
 ·refine List.pairwise_map.2 ((iP h).imp fun {a b} hn x hx y hy=>?_)
  obtain ⟨u,-,rfl⟩:=List.mem_map.1 hx
  obtain ⟨v,-,rfl⟩:=List.mem_map.1 hy
  rintro ⟨e1,-⟩
  exact ow hn e1.symm
theorem Af {m:List Bk} (h:imB m=true):jt (aP (aT m)) (aP (aT m)).length=some (m,[]):=by
 rw[uo (gT _) _ (Nat.le_refl _),List.take_length,Ad h,fX,Iw h,CW h m _ fun b hb=>hb]
 simp only[Option.bind_some,List.nil_append]
 rw[fX]
 obtain ⟨q,hq,q1,q2,q3⟩:=GF (m.map bare) _ (GG h)
 rw[hq]
 simp only[Option.bind_some]
 rw[GD h]
 have:=xO h [] m rfl q ⟨q1,fun r hr=>?_,fun p hp=>?_⟩ (Ae h)
 ·simpa using this
 ·obtain ⟨l,hl,hr⟩:=List.mem_flatten.1 hr
  obtain ⟨b,hb,rfl⟩:=List.mem_map.1 hl
  obtain ⟨v,hv,rfl⟩:=List.mem_map.1 hr
  rw[q2,CX,FC h hb hv]
  have e:(CP b.n v).map Pr.v=(List.range (ey v.b)).map (chunk v.b):=by
   unfold CP
   rw[List.map_map];rfl
  simp only
  rw[e,wC]
 ·obtain ⟨x,hx,e⟩:=q3 p hp
  obtain ⟨hx,hk⟩:=List.mem_filter.1 hx
  rcases (kJ h x).1 hx with ⟨c,hc,rfl⟩|⟨c,hc,v,hv,rfl⟩|⟨c,hc,v,hv,k,hkc,rfl⟩
  ·unfold isK at hk;simp only[pB h hc] at hk;simp[kyB] at hk
  ·unfold isK at hk;simp only[pV h hc hv] at hk;simp[kyV] at hk
  ·unfold gA at e
   simp only[pC h hc hv hkc] at e
   simp[kyC] at e
   exact ⟨(c.n,v),List.mem_flatten.2 ⟨qf c,List.mem_map.2 ⟨c,hc,rfl⟩,List.mem_map.2 ⟨v,hv,rfl⟩⟩,(of_decide_eq_true e.1).symm,(of_decide_eq_true e.2.1).symm,e.2.2.symm⟩
end Go.Proofs.YtjnoobmaedgooaaGreat.Arch
end
section
set_option maxRecDepth 100000
namespace Go.Proofs.YtjnoobmaedgooaaGreat.Arch
open Go Go.Av Go.Proofs Go.Proofs.YtjnoobmaedgooaaGreat.C Go.Proofs.YtjnoobmaedgooaaGreat.Batch Go.Proofs.YtjnoobmaedgooaaGreat.Desk
abbrev v4:Value:= .iface 28 (.int .i64 4)
theorem fw:aD Tryz.prog 56 [.bool true] (.tup []):=by
 refine f56.aC (by simp) rfl rfl ?_
 unfold c56
 simp only[C.zz]
 refine fO ?_
 exact ⟨trivial,_,rfl,af.refl _⟩
theorem dx:AT Tryz.prog 56 [.bool false] v4:=by
 intro n m
 obtain ⟨v,h',hc,rfl,rfl⟩:=aH.DH (Q:=fun v h'=>v=v4∧h'=H0 n m) (args:=[.bool false]) (h:=H0 n m) f56 (by simp) (by
  unfold c56
  simp only[C.zz]
  refine Wp.cz xA1 (by trivial) ?_
  refine Wp.cond_true xA2 ?_
  refine Wp.lA (aw.eval (aY xA1) ?_)
  refine aw.here (R:=fun v h'=>∃v',az.panic v= .panic v'∧v'=v4∧h'=H0 n m) (en:=aB) rfl (aU _) (fun ops i o ho hit=>uV ho hit rfl rfl rfl) (fun l hl=>by cases hl) ?_
  exact ⟨_,rfl,rfl,rfl⟩)
 exact hc
theorem Iz (x y:List UInt8):aD Tryz.prog 96 [.str x,.str y] (.int .i64 (nf x y)):=by
 intro n m G w vs hv R F
 simp only[al,ah] at hv
 obtain ⟨_,_,rfl,rfl,_,_,rfl,rfl,rfl⟩:=hv
 refine (q9 x y w).mono ?_
 rintro e w' ⟨rfl,rfl⟩
 exact ⟨_,G,rfl,Trans.refl _ _ _,R,by simp[ah]⟩
theorem E3 (x y:List UInt8):decide (nf x y<0)=Op.bytesLess x y:=by
 unfold nf
 cases h:Op.bytesLess x y<;>cases h2:Op.bytesLess y x<;>simp
theorem E4 (x y:List UInt8):decide (nf x y=0)=decide (x=y):=by
 unfold nf
 rcases Batch.dF x y with h|h|h
 ·have hn:¬x=y:=fun e=>by rw[e,Batch.bE] at h;cases h
  simp[h,hn]
 ·subst h;simp[Batch.bE]
 ·have hn:¬x=y:=fun e=>by rw[e,Batch.bE] at h;cases h
  have:=Batch.pq h
  simp[h,hn,this]
theorem FH (n:List UInt8) (st:Int) (l:List Vs) (nm:List UInt8):aD Tryz.prog 114 [.agg [.str n,.int .i64 st,.sl 8 (vss l) .any],.str nm] (.int .i64 (nf n nm)):=by
 refine f114.aC (by simp) (by simp[ay,aN,bB,mw]) rfl ?_
 unfold Hg
 simp only[C.zz]
 have cc:=Iz n nm
 refine u9 cc ?_
 refine aK ?_
 exact af.refl _
def mH (x:Bk × Nat):List AV:=[.str x.1.n,.int .i64 x.1.st,.sl 8 (vss x.1.l) (.own x.2)]
def dR (bt:List (Bk × Nat)):List AV:=bt.flatMap mH
def bV (bt:List (Bk × Nat)) (k:Nat):AV:=if bt=[] then .sl 3 [] (.exact 0) else .tsl 3 k 0 bt.length none
theorem fF:∀bt:List (Bk × Nat),(dR bt).length=bt.length*3
 |[]=>rfl
 |a::bt=>by
  have:=fF bt
  simp only[dR,List.flatMap_cons,List.length_append,List.length_cons] at*
  have:(mH a).length=3:=rfl
  omega
theorem oF (bt:List (Bk × Nat)) (i:Nat) (h:i<bt.length):dR bt=dR (bt.take i)++(mH (bt.getD i default)++dR (bt.drop (i+1))):=by
 have e:bt.getD i default=bt[i]:=by simp[List.getD,List.getElem?_eq_getElem h]
 unfold dR
 rw[e]
 have e2:bt=bt.take i++bt[i]::bt.drop (i+1):=by rw[←List.drop_eq_getElem_cons h,List.take_append_drop]
 conv=>lhs;rw[e2]
 rw[List.flatMap_append,List.flatMap_cons]
theorem Ag (bt:List (Bk × Nat)) (i:Nat) (h:i<bt.length):((dR bt).drop (i*3)).take 3=mH (bt.getD i default):=by
 have hl:(dR (bt.take i)).length=i*3:=by rw[fF,List.length_take,Nat.min_eq_left (by omega)]
 rw[oF bt i h,←hl,List.drop_left]
 exact List.take_left' rfl
theorem FI (h:H) (bt:List (Bk × Nat)) (k:Nat) (nm:List UInt8) (hk:bt≠[]→h.objs k=some (.cells (dR bt))) (hl:bt.length≤1000000):
  aM Tryz.prog 113 [bV bt k,.str nm,.clo (.func 114) [] []] h (.tup [.int .i64 (jA ((bt.map Prod.fst).map Bk.n) nm),.bool (fu ((bt.map Prod.fst).map Bk.n) nm)]) h:=by
 refine aH.mo f113 (by simp) ?_
 unfold Hf
 simp only[C.zz]
 by_cases hb:bt=[]
 ·subst hb
  have hv:bV [] k= .sl 3 [] (.exact 0):=rfl
  have hp:jA (([]:List (Bk × Nat)).map Prod.fst |>.map Bk.n) nm=0:=rfl
  have ht:fu (([]:List (Bk × Nat)).map Prod.fst |>.map Bk.n) nm=false:=rfl
  rw[hv,hp,ht]
  refine rf0 @List.length_nil.{0} ?_
  refine Wp.eM [0,1,2,8] xA7 (fun _:Nat=>[(9,.int .i64 0),(10,.int .i64 0)]) (fun _=>h) (fun _=>True) (fun j=>j) 0 trivial rfl ?_ ?_
  ·exact xSb
  intro _ _
  have d:decide ((0:Int)<0)=false:=by decide
  refine rf0 (cj2 @List.length_nil.{0} d) ?_
  refine Wp.ret ⟨trivial,_,rfl,?_,rfl⟩
  exact af.refl _
 ·have ho:=hk hb
  have hv:bV bt k= .tsl 3 k 0 bt.length none:=by unfold bV;rw[if_neg hb]
  rw[hv]
  have hrl:=fF bt
  have hcell:=fun i hi=>Ag bt i hi
  have hnl:((bt.map Prod.fst).map Bk.n).length=bt.length:=by simp
  have hng:∀i,i<bt.length→((bt.map Prod.fst).map Bk.n).getD i []=(bt.getD i default).1.n:=fun i hi=>by
   simp[List.getD,List.getElem?_eq_getElem hi]
  generalize dR bt=cs at*
  have hbp:jA ((bt.map Prod.fst).map Bk.n) nm=kX ((bt.map Prod.fst).map Bk.n) nm bt.length 0 bt.length:=by unfold jA;rw[hnl]
  have hbt:fu ((bt.map Prod.fst).map Bk.n) nm=(decide (jA ((bt.map Prod.fst).map Bk.n) nm<bt.length)&&decide (((bt.map Prod.fst).map Bk.n).getD (jA ((bt.map Prod.fst).map Bk.n) nm) []=nm)):=by unfold fu;rw[hnl]
  rw[hbt]
  generalize (bt.map Prod.fst).map Bk.n=ns at*
  generalize jA ns nm=bp at*
  refine fO ?_
  refine Wp.eM [0,1,2,8] xA7 (fun j:Nat × Nat × Nat=>[(9,.int .i64 (j.2.1:Nat)),(10,.int .i64 (j.2.2:Nat))]) (fun _=>h) (fun j=>j.2.2 - j.2.1≤j.1∧j.2.1≤j.2.2∧j.2.2≤bt.length∧kX ns nm j.1 j.2.1 j.2.2=bp) (fun j=>j.1) (bt.length,0,bt.length) ⟨by simp,Nat.zero_le _,Nat.le_refl _,hbp.symm⟩ rfl ?_ ?_
  ·exact xSb
  rintro ⟨f,i,j⟩ ⟨a1,a2,a3,a4⟩
  simp only at a1 a2 a3 a4
  by_cases hc:i<j
  ·have d1:decide ((i:Int)<(j:Int))=true:=decide_eq_true (by omega)
   have e1:IntKind.i64.wrap ((i:Int)+(j:Int))=((i+j:Nat):Int):=by rw[IntWalk.i64_in _ (by omega)];omega
   have e2:IntKind.u64.wrap ((i+j:Nat):Int)=((i+j:Nat):Int):=IntWalk.u64_in _ (by omega)
   have e3:((i+j:Nat):Int).fdiv (2^(min (Int.toNat 1) 64))=(((i+j)/2:Nat):Int):=by
    rw[show min (Int.toNat 1) 64=1 from rfl,Int.fdiv_eq_ediv_of_nonneg _ (by omega)]
    omega
   have e4:IntKind.i64.wrap (((i+j)/2:Nat):Int)=(((i+j)/2:Nat):Int):=IntWalk.i64_in _ (by omega)
   have e5:¬(1:Int)<0:=by omega
   obtain ⟨f,rfl⟩:∃f',f=f'+1:=⟨f - 1,by omega⟩
   have c1:(i+j)/2<j:=by omega
   have c2:i≤(i+j)/2:=by omega
   have hcl:=hcell ((i+j)/2) (by omega)
   have hg:=hng ((i+j)/2) (by omega)
   simp only[kX,if_pos hc] at a4
   generalize (i+j)/2=c at*
   have p1:(0:Int)≤(c:Int):=by omega
   have p2:(c:Int)<(bt.length:Int):=by omega
   have p3:c*3+3≤cs.length:=by omega
   unfold mH at hcl
   have cc:=FH (bt.getD c default).1.n (bt.getD c default).1.st (bt.getD c default).1.l nm
   rw[hg] at a4
   generalize bt.getD c default=bb at*
   have hlt:=E3 bb.1.n nm
   generalize nf bb.1.n nm=r at*
   repeat (first
    |refine aa.nil ?_
    |((first|apply Wp.ar|apply Wp.bI);(· simp only[go_sem,reduceIte,Nat.reduceEqDiff,Nat.reduceAdd,bx,ax,if_true,if_false,Nat.reduceMul,Nat.reduceLeDiff,d1,e1,e2,e3,e4,e5,IntKind.bits,p1,p2,p3,ho,hcl,Int.toNat_natCast];exact rfl))
    |(apply Wp.aJ;(· simp only[go_sem,reduceIte,Nat.reduceEqDiff,Nat.reduceAdd,bx,ax,if_true,if_false,Nat.reduceMul,Nat.reduceLeDiff,d1,e1,e2,e3,e4,e5,IntKind.bits,p1,p2,p3,ho,hcl,Int.toNat_natCast];exact rfl);(· rfl))
    |refine Wp.skip ?_
    |refine Wp.label ?_
    |refine Wp.block ?_
    |refine Wp.exit ?_
    |refine Wp.seq ?_)
   refine aa.rJ (by simp only[go_sem,reduceIte,Nat.reduceEqDiff,Nat.reduceAdd,bx];try rfl) (by simp only[go_sem,reduceIte,Nat.reduceEqDiff];exact rfl) rfl rfl (by decide) (by simp only[go_sem,reduceIte,Nat.reduceEqDiff,List.map];exact ae.cons (af.agg (ae.cons (af.refl _) (ae.cons (af.refl _) (ae.cons af.cap ae.nil)))) (ae.cons (af.refl _) ae.nil)) cc ?_
   cases hb2:Op.bytesLess bb.1.n nm with
   |true=>
    rw[hb2] at hlt a4
    simp only[if_true] at a4
    refine aa.evF (by simp only[go_sem,reduceIte,Nat.reduceEqDiff,Nat.reduceAdd,bx,ax,if_true,if_false,Nat.reduceMul,Nat.reduceLeDiff,hlt];exact rfl) ?_
    have e6:IntKind.i64.wrap ((c:Int)+1)=((c+1:Nat):Int):=by rw[IntWalk.i64_in _ (by omega)];omega
    refine rf0 hlt ?_
    refine ⟨(f,c+1,j),⟨by simp only;omega,by simp only;omega,a3,a4⟩,by simp only;omega,?_⟩
    refine aE.of (bj ?_) (OLe.cO _) (fun a ha=>ha) (Nat.le_refl _) (Nat.le_refl _)
    simp only[au,go_sem,reduceIte,Nat.reduceEqDiff,Nat.reduceAdd,bx,e6];and_intros<;>first|exact trivial|exact af.refl _|exact af.any _|(refine af.int ?_;omega)
   |false=>
    rw[hb2] at hlt a4
    simp only[Bool.false_eq_true,if_false] at a4
    refine aa.evF (by simp only[go_sem,reduceIte,Nat.reduceEqDiff,Nat.reduceAdd,bx,ax,if_true,if_false,Nat.reduceMul,Nat.reduceLeDiff,hlt];exact rfl) ?_
    refine rf0 hlt ?_
    refine ⟨(f,i,c),⟨by simp only;omega,c2,by simp only;omega,a4⟩,by simp only;omega,?_⟩
    refine aE.of (bj ?_) (OLe.cO _) (fun a ha=>ha) (Nat.le_refl _) (Nat.le_refl _)
    exact xSb
  ·obtain rfl:i=j:=by omega
   have hbi:bp=i:=by
    cases f with
    |zero=>exact a4.symm
    |succ f=>simp only[kX,if_neg hc] at a4;exact a4.symm
   subst hbi
   have d1:decide ((bp:Int)<(bp:Int))=false:=decide_eq_false (by omega)
   by_cases hlt:bp<bt.length
   ·have d2:decide ((bp:Int)<(bt.length:Int))=true:=decide_eq_true (by omega)
    have d3:decide (bp<bt.length)=true:=decide_eq_true hlt
    have hcl:=hcell bp hlt
    have hg:=hng bp hlt
    have p1:(0:Int)≤(bp:Int):=by omega
    have p2:(bp:Int)<(bt.length:Int):=by omega
    have p3:bp*3+3≤cs.length:=by omega
    unfold mH at hcl
    have cc:=FH (bt.getD bp default).1.n (bt.getD bp default).1.st (bt.getD bp default).1.l nm
    rw[hg]
    generalize bt.getD bp default=bb at*
    have hlt:=E4 bb.1.n nm
    generalize nf bb.1.n nm=r at*
    refine rf0 (cj8 d1 d2 p1 p2 p3 ho hcl @Int.toNat_natCast) ?_
    refine aa.rJ (by simp only[go_sem,reduceIte,Nat.reduceEqDiff,Nat.reduceAdd,bx];try rfl) (by simp only[go_sem,reduceIte,Nat.reduceEqDiff];exact rfl) rfl rfl (by decide) (by simp only[go_sem,reduceIte,Nat.reduceEqDiff,List.map];exact ae.cons (af.agg (ae.cons (af.refl _) (ae.cons (af.refl _) (ae.cons af.cap ae.nil)))) (ae.cons (af.refl _) ae.nil)) cc ?_
    refine aa.evF (by simp only[go_sem,reduceIte,Nat.reduceEqDiff,Nat.reduceAdd,bx,ax,if_true,if_false,Nat.reduceMul,Nat.reduceLeDiff,hlt];exact rfl) ?_
    refine rf0 hlt ?_
    refine Wp.ret ⟨trivial,_,rfl,?_,rfl⟩
    rw[d3,Bool.true_and]
    exact af.refl _
   ·have d2:decide ((bp:Int)<(bt.length:Int))=false:=decide_eq_false (by omega)
    have d3:decide (bp<bt.length)=false:=decide_eq_false hlt
    refine rf0 (cj2 d1 d2) ?_
    refine Wp.ret ⟨trivial,_,rfl,?_,rfl⟩
    rw[d3,Bool.false_and]
    exact af.refl _
def blX:AC→AC
 | .block _ c=>c
 |c=>c
def thA:AC→AC
 | .cond _ a _=>a
 |c=>c
def elA:AC→AC
 | .cond _ _ b=>b
 |c=>c
def eY:AC:=tlA (tlA (tlA c64))
def gB:AC:=blX (tlA eY)
def kY:AC:=thA (tlA gB)
def el1:AC:=elA (tlA gB)
def kb:AC:=thA (tlA el1)
def el2:AC:=elA (tlA el1)
def kd:AC:=thA (tlA el2)
def elD:AC:=elA (tlA el2)
theorem E5:c64= .seq (hdA c64) (.seq (hdA (tlA c64)) (.seq (hdA (tlA (tlA c64))) eY)):=rfl
theorem wF:eY= .seq (hdA eY) (.block 0 (.seq (hdA gB) (.cond (.t 28) kY (.seq (hdA el1) (.cond (.t 54) kb (.seq (hdA el2) (.cond (.t 93) kd elD))))))):=rfl
structure kQ (L:List Pr) (h:H) (bt:List (Bk × Nat)) (q:List Pc) (J:Nat):Prop where
 row:∃k,h.objs 3=some (.cells [bV bt k,.mp 2])∧(bt≠[]→5≤k∧k<h.n∧∃cs,h.objs k=some (.cells cs)∧ae cs (dR bt))
 mp:h.objs 2=some (.map (eX q))
 o0:h.objs 0=some (.cells [.sl 2 (prs L) .any])
 o1:h.objs 1=some (.cells [.sl 3 [] (.exact 0)])
 o4:h.objs 4=some (.cells [.ptr 3 0])
 hn:5≤h.n
 tk:∀x∈bt,x.2∈h.toks
 tm:∀x∈bt,x.2<h.m
 nd:(bt.map Prod.snd).Nodup
 len:bt.length≤J
 vers:∀x∈bt,x.1.l.length≤J
 pcs:∀p∈q,0≤p.n∧p.n≤J∧p.s.length≤J*140737488355328
structure Mid (L:List Pr) (F:Nat→Option Av.Obj) (n:Nat) (toks:List Nat) (m:Nat) (bt:List (Bk × Nat)) (q:List Pc) (J k:Nat) (p:Pr) (key:Ky):Prop where
 hk:bt≠[]→5≤k∧k<n
 hn:5≤n
 row:F 3=some (.cells [bV bt k,.mp 2])
 cs:bt≠[]→F k=some (.cells (dR bt))
 mp:F 2=some (.map (eX q))
 o0:F 0=some (.cells [.sl 2 (prs L) .any])
 o1:F 1=some (.cells [.sl 3 [] (.exact 0)])
 o4:F 4=some (.cells [.ptr 3 0])
 P:F n=some (.cells [.str p.k,.str p.v])
 K:F (n+1)=some (.cells [.int .i64 key.k,.str key.b,.str key.o,.sl 1 (ints key.ns) .any])
 tk:∀x∈bt,x.2∈toks
 tm:∀x∈bt,x.2<m
 nd:(bt.map Prod.snd).Nodup
 len:bt.length≤J
 vers:∀x∈bt,x.1.l.length≤J
 pcs:∀p∈q,0≤p.n∧p.n≤J∧p.s.length≤J*140737488355328
 hJ:J≤5000
def QA (L:List Pr) (J:Nat) (R:Option SS):az→St→Prop:=fun e s'=>match R with
 |none=>e= .panic v4∧s'.h.objs 1=some (.cells [.sl 3 [] (.exact 0)])
 |some S=>e= .normal∧∃bt',bt'.map Prod.fst=S.1∧kQ L s'.h bt' S.2 (J+1)
theorem Ah (bt:List (Bk × Nat)) (x:Bk × Nat):dR (bt++[x])=dR bt++mH x:=by simp[dR]
theorem ae.IA:∀(A:List AV) {a b:List AV},ae a b→ae (A++a) (A++b)
 |[],_,_,h=>h
 |x::A,_,_,h=>ae.cons (af.refl _) (ae.IA A h)
theorem sx {q:List Pc} {J:Nat} (h:∀p∈q,0≤p.n∧p.n≤J∧p.s.length≤J*140737488355328):∀p∈q,0≤p.n∧p.n≤((J+1:Nat):Int)∧p.s.length≤(J+1)*140737488355328:=fun p hp=>by
 obtain ⟨a,b,c⟩:=h p hp
 exact ⟨a,by omega,Nat.le_trans c (Nat.mul_le_mul_right _ (Nat.le_succ J))⟩
set_option maxHeartbeats 2000000 in
theorem GI {L:List Pr} {F:Nat→Option Av.Obj} {n:Nat} {toks:List Nat} {m:Nat} {bt:List (Bk × Nat)} {q:List Pc} {J k:Nat} {p:Pr} {key:Ky} (M:Mid L F n toks m bt q J k p key) (hk1:key.k=1):
  Wp Tryz.prog 161 kY ⟨tm [(0,.ptr 3 0),(3,.ptr n 0),(4,.ptr (n+1) 0)],⟨F,n+2,toks,m⟩⟩ (QA L J (jB (bt.map Prod.fst,q) key p.v)):=by
 have hR:jB (bt.map Prod.fst,q) key p.v=if pO p.v=true then some (bt.map Prod.fst++[⟨key.b,stV p.v,[]⟩],q) else none:=by
  unfold jB;rw[if_pos hk1]
 rw[hR]
 have cut:kY= .seq (hdA kY) (.seq (hdA (tlA kY)) (tlA (tlA kY))):=rfl
 rw[cut]
 generalize hT:tlA (tlA kY)=T
 unfold kY gB eY c64
 simp only[hdA,tlA,blX,thA]
 have cs:=tY p.v
 have fP:=M.P
 have fK:=M.K
 have f3:=M.row
 have hst:stR p.v=if pO p.v=true then 0 else 4:=rfl
 refine Wp.ar (by simp only[go_sem,reduceIte,Nat.reduceEqDiff,Nat.reduceAdd,bx,ax,if_true,if_false,Nat.reduceMul,Nat.reduceLeDiff,fP];exact rfl) ?_
 refine aa.aO xA2 (by simp only[go_sem,reduceIte,Nat.reduceEqDiff,Nat.reduceAdd,bx,List.map];exact ae.refl _) (cs) ?_
 refine aa.evF (by simp only[go_sem,reduceIte,Nat.reduceEqDiff,Nat.reduceAdd,bx,ax,if_true,if_false,Nat.reduceMul,Nat.reduceLeDiff];exact rfl) ?_
 refine aa.nil ?_
 cases hb:pO p.v with
 |false=>
  rw[hb] at hst
  rw[if_neg (by simp)] at hst ⊢
  rw[hst]
  refine Wp.cG (by simp only[go_sem,reduceIte,Nat.reduceEqDiff,Nat.reduceAdd,bx,ax,if_true,if_false,Nat.reduceMul,Nat.reduceLeDiff];exact rfl) (by simp only[go_sem,reduceIte,Nat.reduceEqDiff,Nat.reduceAdd,bx,List.map];exact ae.refl _) dx (trivial) ?_
  exact ⟨rfl,M.o1⟩
 |true=>
  rw[hb] at hst
  rw[if_pos rfl] at hst ⊢
  rw[hst]
  refine Wp.ar (by simp only[go_sem,reduceIte,Nat.reduceEqDiff,Nat.reduceAdd,bx,ax,if_true,if_false,Nat.reduceMul,Nat.reduceLeDiff];exact rfl) ?_
  refine aa.aO xA2 (by simp only[go_sem,reduceIte,Nat.reduceEqDiff,Nat.reduceAdd,bx,List.map];exact ae.refl _) (fw) ?_
  refine aa.nil ?_
  rw[←hT]
  unfold kY gB eY c64
  simp only[hdA,tlA,blX,thA]
  have hn:=M.hn
  refine Wp.le (aE.tok _ _) ?_
  simp only
  have n3:¬(3=n+2):=by omega
  have n4:¬(4=n+2):=by omega
  have n0:¬(0=n+2):=by omega
  have n1:¬(1=n+2):=by omega
  have n2:¬(2=n+2):=by omega
  have nn:¬(n+1=n+2):=by omega
  by_cases ho:bt=[]
  ·subst ho
   have hv:bV [] k= .sl 3 [] (.exact 0):=rfl
   rw[hv] at f3
   refine Wp.reg ?_
   refine ab.part 11 (by simp only[go_sem,reduceIte,Nat.reduceEqDiff,Nat.reduceAdd,bx,f3,fK,n3,nn];exact rfl) ?_
   simp only[List.drop_succ_cons,List.drop_zero,List.drop_nil]
   refine ab.opT xA2 (by simp only[jz,go_sem,reduceIte,Nat.reduceEqDiff,Nat.reduceAdd,bx,List.all_cons,List.all_nil,List.length_cons,List.length_nil,Nat.reduceMul,Nat.reduceLeDiff,Nat.reduceLT,Nat.zero_lt_succ,and_self,if_true,decide_true,Bool.and_self];exact rfl) rfl ?_
   refine ab.evR (by simp only[go_sem,reduceIte,Nat.reduceEqDiff,Nat.reduceAdd,bx,f3,n3,List.length_cons,List.length_nil];exact rfl) ?_
   refine ab.nil ⟨by simp[aI,aq,apart,aB,n3],?_⟩
   have m3:¬(n+2=3):=by omega
   refine ⟨rfl,[(⟨key.b,stV p.v,[]⟩,m)],rfl,⟨n+2,by simp[upd,bV],fun _=>⟨by omega,by simp only;omega,_,by simp only[upd,m3,if_false,if_true];exact rfl,?_⟩⟩,by simp only[upd,n2,if_false,Nat.reduceEqDiff,reduceIte];exact M.mp,by simp only[upd,n0,if_false,Nat.reduceEqDiff,reduceIte];exact M.o0,by simp only[upd,n1,if_false,Nat.reduceEqDiff,reduceIte];exact M.o1,by simp only[upd,n4,if_false,Nat.reduceEqDiff,reduceIte];exact M.o4,by simp only;omega,by simp,by simp,by simp,by simp,by simp,sx M.pcs⟩
   exact ae.cons (af.refl _) (ae.cons (af.refl _) (ae.cons (af.dD rfl) ae.nil))
  ·have hv:bV bt k= .tsl 3 k 0 bt.length none:=by unfold bV;rw[if_neg ho]
   rw[hv] at f3
   obtain ⟨y1,y2⟩:=M.hk ho
   have fk:=M.cs ho
   have x3:¬(3=k):=by omega
   have x7:¬(k=n+2):=by omega
   have x8:¬(n+1=k):=by omega
   have hcl:=fF bt
   have hlen:=M.len
   have hJ:=M.hJ
   have r1:(bt.length+1)*48≤140737488355328:=by omega
   have r2:bt.length+1<4611686018427387904:=by omega
   refine Wp.reg ?_
   refine ab.part 11 (by simp only[go_sem,reduceIte,Nat.reduceEqDiff,Nat.reduceAdd,bx,f3,fK,n3,nn];exact rfl) ?_
   simp only[List.drop_succ_cons,List.drop_zero,List.drop_nil]
   refine ab.opK xA2 (by simp only[kN,go_sem,reduceIte,Nat.reduceEqDiff,Nat.reduceAdd,bx,List.all_cons,List.all_nil,List.length_cons,List.length_nil,Nat.reduceMul,Nat.reduceLeDiff,Nat.reduceLT,x7,fk,hcl,r1,r2,Nat.zero_lt_succ,and_self,if_true,decide_true,Bool.and_self];exact rfl) rfl ?_
   refine ab.evR (by simp only[go_sem,reduceIte,Nat.reduceEqDiff,Nat.reduceAdd,bx,f3,n3,x3,List.length_cons,List.length_nil];exact rfl) ?_
   refine ab.nil ⟨by simp[aI,aq,apart,aB,n3,x3],?_⟩
   have m3:¬(n+2=3):=by omega
   have k0:¬(0=k):=by omega
   have k1:¬(1=k):=by omega
   have k2:¬(2=k):=by omega
   have k4:¬(4=k):=by omega
   refine ⟨rfl,bt++[(⟨key.b,stV p.v,[]⟩,m)],by simp,⟨n+2,by simp[upd,bV],fun _=>⟨by omega,by simp only;omega,_,by simp only[upd,m3,if_false,if_true];exact rfl,?_⟩⟩,by simp only[upd,n2,k2,if_false,Nat.reduceEqDiff,reduceIte];exact M.mp,by simp only[upd,n0,k0,if_false,Nat.reduceEqDiff,reduceIte];exact M.o0,by simp only[upd,n1,k1,if_false,Nat.reduceEqDiff,reduceIte];exact M.o1,by simp only[upd,n4,k4,if_false,Nat.reduceEqDiff,reduceIte];exact M.o4,by simp only;omega,?_,?_,?_,by simp;omega,?_,sx M.pcs⟩
   ·rw[Ah]
    exact ae.IA _ (ae.cons (af.refl _) (ae.cons (af.refl _) (ae.cons (af.dD rfl) ae.nil)))
   ·intro x hx
    rcases List.mem_append.1 hx with hx|hx
    ·exact List.mem_cons_of_mem _ (M.tk x hx)
    ·simp only[List.mem_singleton] at hx;subst hx;exact List.mem_cons_self
   ·intro x hx
    rcases List.mem_append.1 hx with hx|hx
    ·have:=M.tm x hx;simp only;omega
    ·simp only[List.mem_singleton] at hx;subst hx;exact Nat.lt_succ_self _
   ·rw[List.map_append]
    refine List.nodup_append.2 ⟨M.nd,by simp,fun a ha b hb=>?_⟩
    simp only[List.map_cons,List.map_nil,List.mem_singleton] at hb
    subst hb
    obtain ⟨x,hx,rfl⟩:=List.mem_map.1 ha
    have:=M.tm x hx
    omega
   ·intro x hx
    rcases List.mem_append.1 hx with hx|hx
    ·have:=M.vers x hx;omega
    ·simp only[List.mem_singleton] at hx;subst hx;simp
theorem xP {J:Nat} {b o:List UInt8} {id:Int}:∀{q:List Pc},(∀p∈q,0≤p.n∧p.n≤J∧p.s.length≤J*140737488355328)→0≤(cw q b o id).2∧(cw q b o id).2≤J∧(cw q b o id).1.length≤J*140737488355328
 |[],_=>⟨Int.le_refl _,Int.natCast_nonneg _,Nat.zero_le _⟩
 |p::q,h=>by
  simp only[cw]
  split
  ·exact h p (by simp)
  ·exact xP fun x hx=>h x (by simp[hx])
set_option maxHeartbeats 4000000 in
theorem GJ {L:List Pr} {F:Nat→Option Av.Obj} {n:Nat} {toks:List Nat} {m:Nat} {bt:List (Bk × Nat)} {q:List Pc} {J k:Nat} {p:Pr} {key:Ky} (M:Mid L F n toks m bt q J k p key) (hk3:key.k=3) (hok:key.ok) (hpv:p.v.length≤140737488355328):
  Wp Tryz.prog 161 kb ⟨tm [(0,.ptr 3 0),(3,.ptr n 0),(4,.ptr (n+1) 0)],⟨F,n+2,toks,m⟩⟩ (QA L J (jB (bt.map Prod.fst,q) key p.v)):=by
 have hnl:key.ns.length=2:=by
  have:=hok.n
  rw[hk3] at this
  have e:fM 3=2:=rfl
  rw[e] at this;omega
 obtain ⟨v0,v1,hns⟩:∃v0 v1,key.ns=[v0,v1]:=by
  match hh:key.ns,hnl with
  |[a,b],_=>exact ⟨a,b,rfl⟩
 have hR:jB (bt.map Prod.fst,q) key p.v=if v1=(cw q key.b key.o v0).2 then some (bt.map Prod.fst,iT q key.b key.o v0 ((cw q key.b key.o v0).1++p.v) ((cw q key.b key.o v0).2+1)) else none:=by
  unfold jB
  rw[if_neg (by rw[hk3];decide),if_pos hk3,hns]
  rfl
 rw[hR]
 obtain ⟨c0,c1,s0⟩:=xP (b:=key.b) (o:=key.o) (id:=v0) M.pcs
 have hf:dv [.str,.str,.int] [.str key.b,.str key.o,.int .i64 v0] (eX q)=some (il q key.b key.o v0):=wD key.b key.o v0 q
 have hl:cQ (.agg [.str [],.int .i64 0]) false (il q key.b key.o v0)= .agg [.str (cw q key.b key.o v0).1,.int .i64 (cw q key.b key.o v0).2]:=wE key.b key.o v0 q
 have hp:oJ (eX q) [.str key.b,.str key.o,.int .i64 v0] (.agg [.str ((cw q key.b key.o v0).1++p.v),.int .i64 ((cw q key.b key.o v0).2+1)]) (il q key.b key.o v0)=eX (iT q key.b key.o v0 ((cw q key.b key.o v0).1++p.v) ((cw q key.b key.o v0).2+1)):=FE key.b key.o v0 _ _ q
 have hJ:=M.hJ
 have hadd:(cw q key.b key.o v0).1.length+p.v.length<9223372036854775808:=by
  have:=Nat.mul_le_mul_right 140737488355328 hJ
  omega
 have e1:IntKind.i64.wrap ((cw q key.b key.o v0).2+1)=(cw q key.b key.o v0).2+1:=IntWalk.i64_in _ (by omega)
 have sl:((cw q key.b key.o v0).1++p.v).length≤(J+1)*140737488355328:=by
  rw[List.length_append,Nat.add_mul,Nat.one_mul]
  omega
 have pin:∀x∈iT q key.b key.o v0 ((cw q key.b key.o v0).1++p.v) ((cw q key.b key.o v0).2+1),0≤x.n∧x.n≤((J+1:Nat):Int)∧x.s.length≤(J+1)*140737488355328:=fun x hx=>by
  rcases mF hx with rfl|hx
  ·exact ⟨by simp only;omega,by simp only;omega,sl⟩
  ·exact sx M.pcs x hx
 generalize (cw q key.b key.o v0).1=s at*
 generalize (cw q key.b key.o v0).2=c at*
 generalize iT q key.b key.o v0 (s++p.v) (c+1)=q' at*
 generalize il q key.b key.o v0=R at*
 simp only[go_sem,reduceIte,Nat.reduceEqDiff,Nat.reduceAdd,bx] at hl hp
 have cut:kb= .seq (hdA kb) (.seq (hdA (tlA kb)) (.seq (hdA (tlA (tlA kb))) (tlA (tlA (tlA kb))))):=rfl
 rw[cut]
 generalize hT:tlA (tlA (tlA kb))=T
 unfold kb el1 gB eY c64
 simp only[hdA,tlA,blX,thA,elA]
 have fP:=M.P
 have fK:=M.K
 have f3:=M.row
 have f2:=M.mp
 have hi0:ints key.ns=[.int .i64 v0,.int .i64 v1]:=by rw[hns];rfl
 rw[hi0] at fK
 have hn:=M.hn
 have n3:¬(3=n+2):=by omega
 have n4:¬(4=n+2):=by omega
 have n0:¬(0=n+2):=by omega
 have n1:¬(1=n+2):=by omega
 have n2:¬(2=n+2):=by omega
 have nn:¬(n+1=n+2):=by omega
 have np:¬(n=n+2):=by omega
 have o3:¬(3=n+2+1):=by omega
 have o4:¬(4=n+2+1):=by omega
 have o0:¬(0=n+2+1):=by omega
 have o1:¬(1=n+2+1):=by omega
 have o2:¬(2=n+2+1):=by omega
 have on:¬(n+1=n+2+1):=by omega
 have op:¬(n=n+2+1):=by omega
 have oq:¬(n+2=n+2+1):=by omega
 have z0:(0:Int)<((2:Nat):Int):=by decide
 have z1:(1:Int)<((2:Nat):Int):=by decide
 have z2:(0:Int)≤1:=by decide
 have t1:Int.toNat 1=1:=rfl
 refine Wp.aF (by simp only[go_sem,reduceIte,Nat.reduceEqDiff,Nat.reduceAdd,bx,ax,if_true,if_false,Nat.reduceMul,Nat.reduceLeDiff,fK,n3,nn,z0,List.length_cons,List.length_nil,Int.toNat_zero,List.getD_cons_zero,Int.le_refl,and_self];exact rfl) ?_
 refine ab.nil ⟨by simp[aI,aq,apart,aB,nn],?_⟩
 refine Wp.aF (by simp only[go_sem,reduceIte,Nat.reduceEqDiff,Nat.reduceAdd,bx,ax,if_true,if_false,Nat.reduceMul,Nat.reduceLeDiff,f3,f2,n3,n2,hf,hl,oq];exact rfl) ?_
 refine ab.nil ⟨by simp[aI,aq,apart,aB,n3,o3,o2,oq] <;>omega,?_⟩
 by_cases hc:v1=c
 ·have d1:decide (v1=c)=true:=decide_eq_true hc
  rw[if_pos hc]
  refine Wp.aF (by simp only[go_sem,reduceIte,Nat.reduceEqDiff,Nat.reduceAdd,bx,ax,if_true,if_false,Nat.reduceMul,Nat.reduceLeDiff,fK,nn,on,oq,z1,z2,t1,d1,List.length_cons,List.length_nil,List.getD_cons_succ,List.getD_cons_zero,and_self];exact rfl) ?_
  refine ab.aO xA2 (by simp only[go_sem,reduceIte,Nat.reduceEqDiff,Nat.reduceAdd,bx,List.map];exact ae.refl _) (fw) ?_
  refine ab.evR xA1 ?_
  refine ab.nil ⟨by simp[aI,aq,apart,aB,on],?_⟩
  rw[←hT]
  unfold kb el1 gB eY c64
  simp only[hdA,tlA,blX,thA,elA]
  refine Wp.bZ (by simp only[go_sem,reduceIte,Nat.reduceEqDiff,Nat.reduceAdd,bx,ax,if_true,if_false,Nat.reduceMul,Nat.reduceLeDiff,f3,f2,n3,n2,o3,o2,oq,np,op,fP,hf,hp,hadd,e1];exact rfl) ?_
  refine ab.nil ⟨by simp[aI,aq,apart,aB,n3,o3,o2,oq,n2,np,op] <;>omega,?_⟩
  refine ⟨rfl,bt,rfl,⟨k,by simp only[upd,n3,o3,if_false,Nat.reduceEqDiff,reduceIte];exact f3,fun ho=>?_⟩,by simp only[upd,if_true,hp],by simp only[upd,n0,o0,if_false,Nat.reduceEqDiff,reduceIte];exact M.o0,by simp only[upd,n1,o1,if_false,Nat.reduceEqDiff,reduceIte];exact M.o1,by simp only[upd,n4,o4,if_false,Nat.reduceEqDiff,reduceIte];exact M.o4,by simp only;omega,M.tk,M.tm,M.nd,Nat.le_succ_of_le M.len,fun x hx=>Nat.le_succ_of_le (M.vers x hx),pin⟩
  obtain ⟨y1,y2⟩:=M.hk ho
  have k2:¬(k=2):=by omega
  have k3:¬(k=n+2):=by omega
  have k4:¬(k=n+2+1):=by omega
  exact ⟨y1,by simp only;omega,_,by simp only[upd,k2,k3,k4,if_false];exact M.cs ho,ae.refl _⟩
 ·have d1:decide (v1=c)=false:=decide_eq_false hc
  rw[if_neg hc]
  refine Wp.cG (by simp only[go_sem,reduceIte,Nat.reduceEqDiff,Nat.reduceAdd,bx,ax,if_true,if_false,Nat.reduceMul,Nat.reduceLeDiff,fK,nn,on,oq,z1,z2,t1,d1,List.length_cons,List.length_nil,List.getD_cons_succ,List.getD_cons_zero,and_self];exact rfl) (by simp only[go_sem,reduceIte,Nat.reduceEqDiff,Nat.reduceAdd,bx,List.map];exact ae.refl _) dx (⟨by simp[aq,apart,aB,on],rfl⟩) ?_
  exact ⟨rfl,by simp only[upd,n1,o1,if_false];exact M.o1⟩
theorem CZ (bt:List (Bk × Nat)) (i:Nat) (h:i<bt.length):(dR bt)[i*3+2]? =some (.sl 8 (vss (bt.getD i default).1.l) (.own (bt.getD i default).2)):=by
 have hl:(dR (bt.take i)).length=i*3:=by rw[fF,List.length_take,Nat.min_eq_left (by omega)]
 rw[oF bt i h,List.getElem?_append_right (by omega),hl,show i*3+2 - i*3=2 by omega]
 rfl
theorem Ai (bt:List (Bk × Nat)) (i:Nat) (h:i<bt.length):(dR bt).take (i*3+2)=dR (bt.take i)++[.str (bt.getD i default).1.n,.int .i64 (bt.getD i default).1.st]:=by
 have hl:(dR (bt.take i)).length=i*3:=by rw[fF,List.length_take,Nat.min_eq_left (by omega)]
 rw[oF bt i h,List.take_append,hl,show i*3+2 - i*3=2 by omega,List.take_of_length_le (by omega)]
 rfl
theorem Aj (bt:List (Bk × Nat)) (i:Nat) (h:i<bt.length):(dR bt).drop (i*3+2+1)=dR (bt.drop (i+1)):=by
 have hl:(dR (bt.take i)).length=i*3:=by rw[fF,List.length_take,Nat.min_eq_left (by omega)]
 rw[oF bt i h,List.drop_append,hl,show i*3+2+1 - i*3=3 by omega,List.drop_of_length_le (by omega)]
 rfl
theorem C4 (bt:List (Bk × Nat)) (i:Nat) (h:i<bt.length) (y:Bk × Nat):dR (bt.set i y)=dR (bt.take i)++(mH y++dR (bt.drop (i+1))):=by
 unfold dR
 rw[List.set_eq_take_append_cons_drop,if_pos h,List.flatMap_append,List.flatMap_cons]
theorem Ak {l:List Nat} (h:l.Nodup) {i a:Nat} (ha:a∉l):(l.set i a).Nodup:=by
 refine List.pairwise_iff_getElem.2 fun j k hj hk hjk=>?_
 rw[List.getElem_set,List.getElem_set]
 have hp:=List.pairwise_iff_getElem.1 h
 simp only[List.length_set] at hj hk
 split
 ·split
  ·omega
  ·exact fun e=>ha (e▸List.getElem_mem _)
 ·split
  ·exact fun e=>ha (e▸List.getElem_mem _)
  ·exact hp j k hj hk hjk
theorem uq {bt:List (Bk × Nat)} (h:(bt.map Prod.snd).Nodup) {i:Nat} (hi:i<bt.length) {y x:Bk × Nat} (hx:x∈bt.set i y):x=y∨(x∈bt∧x.2≠(bt.getD i default).2):=by
 obtain ⟨j,hj,rfl⟩:=List.mem_iff_getElem.1 hx
 simp only[List.length_set] at hj
 rw[List.getElem_set]
 split
 ·exact .inl rfl
 ·rename_i hij
  refine .inr ⟨List.getElem_mem _,?_⟩
  have e:bt.getD i default=bt[i]:=by simp[List.getD,List.getElem?_eq_getElem hi]
  rw[e]
  have hp:=List.pairwise_iff_getElem.1 h
  intro e2
  rcases Nat.lt_or_gt_of_ne hij with h1|h1
  ·exact hp i j (by simpa using hi) (by simpa using hj) h1 (by simpa using e2.symm)
  ·exact hp j i (by simpa using hj) (by simpa using hi) h1 (by simpa using e2)
theorem gC {e:az} (h:e= .normal):gh e:=by subst h;trivial
set_option maxHeartbeats 8000000 in
theorem GK {L:List Pr} {F:Nat→Option Av.Obj} {n:Nat} {toks:List Nat} {m:Nat} {bt:List (Bk × Nat)} {q:List Pc} {J k:Nat} {p:Pr} {key:Ky} (M:Mid L F n toks m bt q J k p key) (hk2:key.k=2) (hok:key.ok) (hpv:p.v.length≤140737488355328):
  Wp Tryz.prog 161 kd ⟨tm [(0,.ptr 3 0),(3,.ptr n 0),(4,.ptr (n+1) 0)],⟨F,n+2,toks,m⟩⟩ (QA L J (jB (bt.map Prod.fst,q) key p.v)):=by
 have hnl:key.ns.length=1:=by
  have:=hok.n
  rw[hk2] at this
  have e:fM 2=1:=rfl
  rw[e] at this;omega
 obtain ⟨v0,hns⟩:∃v0,key.ns=[v0]:=List.length_eq_one_iff.1 hnl
 have hR:jB (bt.map Prod.fst,q) key p.v=if hdB p.v=true then (if fu ((bt.map Prod.fst).map Bk.n) key.b=true then some (pT (bt.map Prod.fst) (jA ((bt.map Prod.fst).map Bk.n) key.b) (um key (hdO p.v) (cw q key.b key.o v0).1),iU q key.b key.o v0) else none) else none:=by
  unfold jB
  rw[if_neg (by rw[hk2];decide),if_neg (by rw[hk2];decide),if_pos hk2,hns]
  rfl
 rw[hR]
 have hvo:um key (hdO p.v) (cw q key.b key.o v0).1=⟨key.o,v0,(hdO p.v).sz,(hdO p.v).re,(hdO p.v).im,(hdO p.v).g,(hdO p.v).u,(cw q key.b key.o v0).1⟩:=by
  unfold um;rw[hns];rfl
 rw[hvo]
 have hf:dv [.str,.str,.int] [.str key.b,.str key.o,.int .i64 v0] (eX q)=some (il q key.b key.o v0):=wD key.b key.o v0 q
 have hl:cQ (.agg [.str [],.int .i64 0]) false (il q key.b key.o v0)= .agg [.str (cw q key.b key.o v0).1,.int .i64 (cw q key.b key.o v0).2]:=wE key.b key.o v0 q
 have hd:oI (eX q) (il q key.b key.o v0)=eX (iU q key.b key.o v0):=FF key.b key.o v0 q
 have pin:∀x∈iU q key.b key.o v0,0≤x.n∧x.n≤((J+1:Nat):Int)∧x.s.length≤(J+1)*140737488355328:=fun x hx=>sx M.pcs x (mG hx)
 generalize (cw q key.b key.o v0).1=s at*
 generalize (cw q key.b key.o v0).2=c at*
 generalize iU q key.b key.o v0=q' at*
 generalize il q key.b key.o v0=R at*
 simp only[go_sem,reduceIte,Nat.reduceEqDiff,Nat.reduceAdd,bx] at hl hd
 have ch:=pP p.v hpv
 have hhe:hdE p.v=if hdB p.v=true then 0 else 4:=rfl
 unfold tZ jP at ch
 have dE:decide (hdE p.v=0)=hdB p.v:=by
  rw[hhe]
  cases hdB p.v<;>decide
 generalize hdE p.v=he at*
 generalize hdO p.v=hd' at*
 obtain ⟨hsz,hre,him,hg,hu⟩:=hd'
 simp only at ch ⊢
 have hlen:=M.len
 have hJ:=M.hJ
 have cut:kd= .seq (hdA kd) (.seq (hdA (tlA kd)) (.seq (hdA (tlA (tlA kd))) (tlA (tlA (tlA kd))))):=rfl
 rw[cut]
 generalize hT:tlA (tlA (tlA kd))=T
 unfold kd el2 el1 gB eY c64
 simp only[hdA,tlA,blX,thA,elA]
 have fP:=M.P
 have fK:=M.K
 have f3:=M.row
 have f2:=M.mp
 have hi0:ints key.ns=[.int .i64 v0]:=by rw[hns];rfl
 rw[hi0] at fK
 have hn:=M.hn
 have n3:¬(3=n+2):=by omega
 have n4:¬(4=n+2):=by omega
 have n0:¬(0=n+2):=by omega
 have n1:¬(1=n+2):=by omega
 have n2:¬(2=n+2):=by omega
 have nn:¬(n+1=n+2):=by omega
 have np:¬(n=n+2):=by omega
 have o3:¬(3=n+2+1):=by omega
 have o4:¬(4=n+2+1):=by omega
 have o0:¬(0=n+2+1):=by omega
 have o1:¬(1=n+2+1):=by omega
 have o2:¬(2=n+2+1):=by omega
 have on:¬(n+1=n+2+1):=by omega
 have op:¬(n=n+2+1):=by omega
 have oq:¬(n+2=n+2+1):=by omega
 have z0:(0:Int)<((1:Nat):Int):=by decide
 refine Wp.ar (by simp only[go_sem,reduceIte,Nat.reduceEqDiff,Nat.reduceAdd,bx,ax,if_true,if_false,Nat.reduceMul,Nat.reduceLeDiff,fP,np];exact rfl) ?_
 refine aa.aO xA2 (by simp only[go_sem,reduceIte,Nat.reduceEqDiff,Nat.reduceAdd,bx,List.map];exact ae.refl _) (ch) ?_
 refine aa.evF (by simp only[go_sem,reduceIte,Nat.reduceEqDiff,Nat.reduceAdd,bx,ax,if_true,if_false,Nat.reduceMul,Nat.reduceLeDiff];exact rfl) ?_
 refine aa.nil ?_
 by_cases ho:bt=[]
 ·have hv:bV bt k= .sl 3 [] (.exact 0):=by rw[ho];rfl
  rw[hv] at f3
  have ht0:fu ((bt.map Prod.fst).map Bk.n) key.b=false:=by rw[ho];rfl
  have ca:=FI (H0 (n+2+1) m) bt k key.b (fun x=>absurd ho x) (by omega)
  rw[hv,ht0] at ca
  rw[ht0]
  generalize jA ((bt.map Prod.fst).map Bk.n) key.b=bp at*
  refine Wp.aF (by simp only[go_sem,reduceIte,Nat.reduceEqDiff,Nat.reduceAdd,bx,ax,if_true,if_false,Nat.reduceMul,Nat.reduceLeDiff,f3,fK,n3,nn];exact rfl) ?_
  refine ab.fb xA2 (by simp only[go_sem,reduceIte,Nat.reduceEqDiff,Nat.reduceAdd,bx,List.map];exact ae.refl _) (ca) (aU _) ?_
  refine ab.evR xA1 ?_
  refine ab.nil ⟨by simp[aI,aq,apart,aB],?_⟩
  cases hb:hdB p.v with
  |false=>
   rw[hb] at dE
   rw[if_neg (by simp)]
   refine Wp.cG (by simp only[go_sem,reduceIte,Nat.reduceEqDiff,Nat.reduceAdd,bx,ax,if_true,if_false,Nat.reduceMul,Nat.reduceLeDiff,dE];exact rfl) (by simp only[go_sem,reduceIte,Nat.reduceEqDiff,Nat.reduceAdd,bx,List.map];exact ae.refl _) dx (trivial) ?_
   exact ⟨rfl,by simp only[upd,n1,if_false];exact M.o1⟩
  |true=>
   rw[hb] at dE
   rw[if_pos rfl,if_neg (by simp)]
   refine Wp.cG (by simp only[go_sem,reduceIte,Nat.reduceEqDiff,Nat.reduceAdd,bx,ax,if_true,if_false,Nat.reduceMul,Nat.reduceLeDiff,dE];exact rfl) (by simp only[go_sem,reduceIte,Nat.reduceEqDiff,Nat.reduceAdd,bx,List.map];exact ae.refl _) dx (trivial) ?_
   exact ⟨rfl,by simp only[upd,n1,if_false];exact M.o1⟩
 ·have hv:bV bt k= .tsl 3 k 0 bt.length none:=by unfold bV;rw[if_neg ho]
  rw[hv] at f3
  obtain ⟨y1,y2⟩:=M.hk ho
  have fk:=M.cs ho
  have ca:=FI (.only (upd ag k (some (.cells (dR bt)))) [] (n+2+1) m) bt k key.b (fun _=>by simp[H.only,upd]) (by omega)
  rw[hv] at ca
  have hbpl:fu ((bt.map Prod.fst).map Bk.n) key.b=true→jA ((bt.map Prod.fst).map Bk.n) key.b<bt.length:=by
   intro h
   unfold fu at h
   simp only[Bool.and_eq_true,decide_eq_true_eq,List.length_map] at h
   exact h.1
  generalize hbt:fu ((bt.map Prod.fst).map Bk.n) key.b=bh at*
  generalize hbp:jA ((bt.map Prod.fst).map Bk.n) key.b=i at*
  have k3:¬(3=k):=by omega
  have kn2:¬(k=n+2):=by omega
  have kn3:¬(k=n+2+1):=by omega
  have k2:¬(k=2):=by omega
  have k3':¬(k=3):=by omega
  refine Wp.aF (by simp only[go_sem,reduceIte,Nat.reduceEqDiff,Nat.reduceAdd,bx,ax,if_true,if_false,Nat.reduceMul,Nat.reduceLeDiff,f3,fK,n3,nn];exact rfl) ?_
  refine ab.fb xA2 (by simp only[go_sem,reduceIte,Nat.reduceEqDiff,Nat.reduceAdd,bx,List.map];exact ae.refl _) (ca) (cE _ (by simp only[upd,kn2,if_false];exact fk)) ?_
  refine ab.evR xA1 ?_
  refine ab.nil ⟨by simp[aI,aq,apart,aB],?_⟩
  cases hb:hdB p.v with
  |false=>
   rw[hb] at dE
   rw[if_neg (by simp)]
   refine Wp.cG (by simp only[go_sem,reduceIte,Nat.reduceEqDiff,Nat.reduceAdd,bx,ax,if_true,if_false,Nat.reduceMul,Nat.reduceLeDiff,dE];exact rfl) (by simp only[go_sem,reduceIte,Nat.reduceEqDiff,Nat.reduceAdd,bx,List.map];exact ae.refl _) dx (trivial) ?_
   exact ⟨rfl,by simp only[upd,n1,if_false];exact M.o1⟩
  |true=>
  rw[hb] at dE
  rw[if_pos rfl]
  cases bh with
  |false=>
   rw[if_neg (by simp)]
   refine Wp.cG (by simp only[go_sem,reduceIte,Nat.reduceEqDiff,Nat.reduceAdd,bx,ax,if_true,if_false,Nat.reduceMul,Nat.reduceLeDiff,dE];exact rfl) (by simp only[go_sem,reduceIte,Nat.reduceEqDiff,Nat.reduceAdd,bx,List.map];exact ae.refl _) dx (trivial) ?_
   exact ⟨rfl,by simp only[upd,n1,if_false];exact M.o1⟩
  |true=>
  rw[if_pos rfl]
  have hi:=hbpl rfl
  refine Wp.ar (by simp only[go_sem,reduceIte,Nat.reduceEqDiff,Nat.reduceAdd,bx,ax,if_true,if_false,Nat.reduceMul,Nat.reduceLeDiff,dE];exact rfl) ?_
  refine aa.aO xA2 (by simp only[go_sem,reduceIte,Nat.reduceEqDiff,Nat.reduceAdd,bx,List.map];exact ae.refl _) (fw) ?_
  refine aa.nil ?_
  rw[←hT]
  unfold kd el2 el1 gB eY c64
  simp only[hdA,tlA,blX,thA,elA]
  refine Wp.aF (by simp only[go_sem,reduceIte,Nat.reduceEqDiff,Nat.reduceAdd,bx,ax,if_true,if_false,Nat.reduceMul,Nat.reduceLeDiff,fK,n3,nn,z0,List.length_cons,List.length_nil,Int.toNat_zero,List.getD_cons_zero,Int.le_refl,and_self];exact rfl) ?_
  refine ab.nil ⟨by simp[aI,aq,apart,aB,on,nn],?_⟩
  have p1:(0:Int)≤(i:Int):=by omega
  have p2:(i:Int)<(bt.length:Int):=by omega
  refine Wp.ar (by simp only[go_sem,reduceIte,Nat.reduceEqDiff,Nat.reduceAdd,bx,ax,if_true,if_false,Nat.reduceMul,Nat.reduceLeDiff,f3,n3,o3,p1,p2,Int.toNat_natCast,and_self];exact rfl) ?_
  refine aa.nil ?_
  have hcl:=fF bt
  have hC2:=CZ bt i hi
  have hTk:=Ai bt i hi
  have hDr:=Aj bt i hi
  have hset:=C4 bt i hi (⟨(bt.getD i default).1.n,(bt.getD i default).1.st,(bt.getD i default).1.l++[⟨key.o,v0,hsz,hre,him,hg,hu,s⟩]⟩,m)
  have hmem:bt.getD i default∈bt:=by
   have e:bt.getD i default=bt[i]:=by simp[List.getD,List.getElem?_eq_getElem hi]
   rw[e];exact List.getElem_mem hi
  have htk:=M.tk _ hmem
  have htm:=M.tm _ hmem
  have hvl:=M.vers _ hmem
  have hfst:(bt.set i (⟨(bt.getD i default).1.n,(bt.getD i default).1.st,(bt.getD i default).1.l++[⟨key.o,v0,hsz,hre,him,hg,hu,s⟩]⟩,m)).map Prod.fst=pT (bt.map Prod.fst) i ⟨key.o,v0,hsz,hre,him,hg,hu,s⟩:=by
   unfold pT
   have e:(bt.map Prod.fst).getD i default=(bt.getD i default).1:=by simp[List.getD,List.getElem?_eq_getElem hi]
   rw[e,List.map_set]
  have hms:=fun {y x:Bk × Nat} (hx:x∈bt.set i y)=>uq M.nd hi hx
  rw[←hfst]
  generalize bt.getD i default=bb at*
  generalize dR bt=cs at*
  obtain ⟨⟨bn,bst,bl⟩,tk⟩:=bb
  simp only at hC2 hTk hset htk htm hvl hms ⊢
  have lv:=eF bl
  have e6:(bl.length+1)*72≤140737488355328:=by omega
  have e7:bl.length+1<4611686018427387904:=by omega
  have y2:i*3+2+1≤cs.length:=by omega
  have kk:¬(n+2+1=k):=by omega
  have kk2:¬(2=k):=by omega
  have kk3:¬(n+2=k):=by omega
  refine Wp.aF (by simp only[go_sem,reduceIte,Nat.reduceEqDiff,Nat.reduceAdd,bx,ax,if_true,if_false,Nat.reduceMul,Nat.reduceLeDiff,f3,f2,fK,fk,n3,n2,o3,o2,on,nn,oq,kn2,kn3,hC2,hTk,hDr,lv,e6,e7,y2,htk,hf,hl,List.length_cons,List.length_nil,and_self];exact rfl) ?_
  refine ab.nil ⟨by simp[aI,aq,apart,aB,n3,o3,o2,oq,n2,on,nn] <;>omega,?_⟩
  refine Wp.bZ (by simp only[go_sem,reduceIte,Nat.reduceEqDiff,Nat.reduceAdd,bx,ax,if_true,if_false,Nat.reduceMul,Nat.reduceLeDiff,f3,f2,n3,n2,o3,o2,k3,kk,kk2,kk3,oq,hf,hd];exact rfl) ?_
  refine ab.nil ⟨by simp[aI,aq,apart,aB,n3,o3,o2,oq,n2,on,nn] <;>omega,?_⟩
  have hvs:bV (bt.set i (⟨bn,bst,bl++[⟨key.o,v0,hsz,hre,him,hg,hu,s⟩]⟩,m)) k= .tsl 3 k 0 bt.length none:=by
   unfold bV
   rw[if_neg (by simpa using ho),List.length_set]
  have k0:¬(0=k):=by omega
  have k1:¬(1=k):=by omega
  have k4:¬(4=k):=by omega
  refine ⟨rfl,_,rfl,⟨k,by simp only[upd,n3,o3,k3,if_false,Nat.reduceEqDiff,reduceIte];rw[hvs];exact f3,fun _=>⟨y1,by simp only;omega,_,by simp only[upd,k2,if_true,if_false];exact rfl,?_⟩⟩,by simp only[upd,if_true],by simp only[upd,n0,o0,k0,if_false,Nat.reduceEqDiff,reduceIte];exact M.o0,by simp only[upd,n1,o1,k1,if_false,Nat.reduceEqDiff,reduceIte];exact M.o1,by simp only[upd,n4,o4,k4,if_false,Nat.reduceEqDiff,reduceIte];exact M.o4,by simp only;omega,?_,?_,?_,by rw[List.length_set];omega,?_,pin⟩
  ·rw[hset]
   simp[mH,vss,cL]
   exact ae.refl _
  ·intro x hx
   rcases hms hx with rfl|⟨h1,h2⟩
   ·exact List.mem_cons_self
   ·refine List.mem_cons_of_mem _ (List.mem_filter.2 ⟨M.tk x h1,by simpa using h2⟩)
  ·intro x hx
   rcases hms hx with rfl|⟨h1,h2⟩
   ·exact Nat.lt_succ_self _
   ·have:=M.tm x h1
    simp only;omega
  ·rw[List.map_set]
   refine Ak M.nd fun hm=>?_
   obtain ⟨x,hx,e⟩:=List.mem_map.1 hm
   have:=M.tm x hx
   omega
  ·intro x hx
   rcases hms hx with rfl|⟨h1,h2⟩
   ·simp only[List.length_append,List.length_cons,List.length_nil];omega
   ·have:=M.vers x h1;omega
theorem pU {L:List Pr} {J:Nat} {R:Option SS} {e:az} {s':St} (h:QA L J R e s'):az.inBlock 0 (QA L J R) e s':=by
 cases R with
 |none=>
  have h':=h
  obtain ⟨h1,-⟩:=h'
  subst h1;exact h
 |some S=>
  have h':=h
  obtain ⟨h1,-⟩:=h'
  subst h1;exact h
theorem C5 {L:List Pr} {F:Nat→Option Av.Obj} {n:Nat} {toks:List Nat} {m:Nat} {bt:List (Bk × Nat)} {q:List Pc} {J k:Nat} {p:Pr} {key:Ky} (M:Mid L F n toks m bt q J k p key) (hok:key.ok) (hpv:p.v.length≤140737488355328):
  Wp Tryz.prog 161 eY ⟨tm [(0,.ptr 3 0),(3,.ptr n 0),(4,.ptr (n+1) 0)],⟨F,n+2,toks,m⟩⟩ (QA L J (jB (bt.map Prod.fst,q) key p.v)):=by
 have WB:=fun hk=>GI M (key:=key) hk
 have WC:=fun hk=>GJ M hk hok hpv
 have WV:=fun hk=>GK M hk hok hpv
 have hk:=hok.k
 rw[wF]
 generalize hB:kY=B at*
 generalize hC:kb=C at*
 generalize hV:kd=V at*
 generalize hD:elD=D at*
 unfold el2 el1 gB eY c64
 simp only[hdA,tlA,blX,thA,elA]
 have fK:=M.K
 by_cases h1:key.k=1
 ·have d1:decide (key.k=1)=true:=decide_eq_true h1
  refine rf0 (cj2 fK d1) ?_
  refine Wp.mono (Wp.le (aE.of (bj ?_) (OLe.cO _) (fun x hx=>hx) (Nat.le_refl _) (Nat.le_refl _)) (WB h1)) (fun e s' h=>pU h)
  exact xSb
 have d1:decide (key.k=1)=false:=decide_eq_false h1
 by_cases h3:key.k=3
 ·have d3:decide (key.k=3)=true:=decide_eq_true h3
  refine rf0 (cj3 fK d1 d3) ?_
  refine Wp.mono (Wp.le (aE.of (bj ?_) (OLe.cO _) (fun x hx=>hx) (Nat.le_refl _) (Nat.le_refl _)) (WC h3)) (fun e s' h=>pU h)
  exact xSb
 have d3:decide (key.k=3)=false:=decide_eq_false h3
 by_cases h2:key.k=2
 ·have d2:decide (key.k=2)=true:=decide_eq_true h2
  refine rf0 (cj4 fK d1 d3 d2) ?_
  refine Wp.mono (Wp.le (aE.of (bj ?_) (OLe.cO _) (fun x hx=>hx) (Nat.le_refl _) (Nat.le_refl _)) (WV h2)) (fun e s' h=>pU h)
  exact xSb
 have d2:decide (key.k=2)=false:=decide_eq_false h2
 have hR:jB (bt.map Prod.fst,q) key p.v=none:=by
  unfold jB
  rw[if_neg h1,if_neg h3,if_neg h2]
 rw[hR]
 refine rf0 (cj4 fK d1 d3 d2) ?_
 rw[←hD]
 unfold elD el2 el1 gB eY c64
 simp only[hdA,tlA,blX,thA,elA]
 refine Wp.rT (by simp only[go_sem,reduceIte,Nat.reduceEqDiff,Nat.reduceAdd,bx,ax,if_true,if_false,Nat.reduceMul,Nat.reduceLeDiff];exact rfl) (by simp only[go_sem,reduceIte,Nat.reduceEqDiff,Nat.reduceAdd,bx,List.map];exact ae.refl _) dx (trivial) ?_
 exact ⟨rfl,M.o1⟩
theorem kK {F:Nat→Option Av.Obj} {k:Nat} {cs cs':List AV} (h:F k=some (.cells cs)) (hs:ae cs cs'):OLe F (upd F k (some (.cells cs'))):=fun j o' hj=>by
 simp only[upd] at hj
 split at hj
 ·rename_i e
  subst e
  cases hj
  exact ⟨_,h,hs⟩
 ·exact ⟨o',hj,cJ.refl _⟩
set_option maxHeartbeats 2000000 in
theorem FJ (L:List Pr) (h:H) (bt:List (Bk × Nat)) (q:List Pc) (J:Nat) (hJ:J≤5000) (I:kQ L h bt q J) (p:Pr) (hpk:p.k.length≤140737488355328) (hpv:p.v.length≤140737488355328):
  Wp Tryz.prog 161 c64 ⟨ef [.ptr 3 0,.agg [.str p.k,.str p.v]],h⟩ (QA L J (js (bt.map Prod.fst,q) p)):=by
 obtain ⟨F,n,toks,m⟩:=h
 obtain ⟨k,f3,hrow⟩:=I.row
 have f2:=I.mp
 have f0:=I.o0
 have f1:=I.o1
 have f4:=I.o4
 have hn:=I.hn
 have htk:=I.tk
 have htm:=I.tm
 simp only at f3 hrow f2 f0 f1 f4 hn htk htm
 obtain ⟨F',hle,g3,g2,g0,g1,g4,gk⟩:∃F',OLe F F'∧F' 3=some (.cells [bV bt k,.mp 2])∧F' 2=some (.map (eX q))∧F' 0=some (.cells [.sl 2 (prs L) .any])∧F' 1=some (.cells [.sl 3 [] (.exact 0)])∧F' 4=some (.cells [.ptr 3 0])∧(bt≠[]→5≤k∧k<n∧F' k=some (.cells (dR bt))):=by
  by_cases ho:bt=[]
  ·exact ⟨F,OLe.cO _,f3,f2,f0,f1,f4,fun x=>absurd ho x⟩
  ·obtain ⟨a,b,cs,c,d⟩:=hrow ho
   refine ⟨upd F k (some (.cells (dR bt))),kK c d,?_,?_,?_,?_,?_,fun _=>⟨a,b,by simp[upd]⟩⟩
   all_goals
    simp only[upd]
    rw[if_neg (by omega)]
    assumption
 refine Wp.le (aE.of (fun _=>af.refl _) hle (fun x hx=>hx) (Nat.le_refl _) (Nat.le_refl _)) ?_
 have W:=fun (key:Ky) (M:Mid L (upd (upd (upd F' n (some (.cells [.str p.k,.str p.v]))) (n+1) (some (.cells [.int .i64 0,.str [],.str [],.sl 1 [] (.exact 0)]))) (n+1) (some (.cells [.int .i64 key.k,.str key.b,.str key.o,.sl 1 (ints key.ns) .any]))) n toks m bt q J k p key) hok=>C5 M hok hpv
 have n3:¬(3=n):=by omega
 have n4:¬(4=n):=by omega
 have n0:¬(0=n):=by omega
 have n1:¬(1=n):=by omega
 have n2:¬(2=n):=by omega
 have m3:¬(3=n+1):=by omega
 have m4:¬(4=n+1):=by omega
 have m0:¬(0=n+1):=by omega
 have m1:¬(1=n+1):=by omega
 have m2:¬(2=n+1):=by omega
 have nn:¬(n=n+1):=by omega
 have cp:=EF p.k hpk
 have hpe:wu p.k=if eI p.k then 0 else 4:=rfl
 have hS:js (bt.map Prod.fst,q) p=if eI p.k=true then jB (bt.map Prod.fst,q) (bm p.k) p.v else none:=rfl
 rw[hS,E5]
 generalize hT:eY=T at*
 unfold c64
 simp only[C.zz]
 simp only[hdA,tlA]
 cases hb:eI p.k with
 |false=>
  rw[hb] at hpe
  rw[if_neg (by simp)] at hpe ⊢
  rw[hpe] at cp
  unfold eQ at cp
  refine Wp.ar (by simp only[go_sem,reduceIte,Nat.reduceEqDiff,Nat.reduceAdd,bx,ax,if_true,if_false,Nat.reduceMul,Nat.reduceLeDiff];exact rfl) ?_
  refine aa.nil ?_
  refine Wp.ar (by simp only[go_sem,reduceIte,Nat.reduceEqDiff,Nat.reduceAdd,bx,ax,if_true,if_false,Nat.reduceMul,Nat.reduceLeDiff];exact rfl) ?_
  refine aa.aO xA2 (by simp only[go_sem,reduceIte,Nat.reduceEqDiff,Nat.reduceAdd,bx,List.map];exact ae.refl _) (cp) ?_
  refine aa.evF (by simp only[go_sem,reduceIte,Nat.reduceEqDiff,Nat.reduceAdd,bx,ax,if_true,if_false,Nat.reduceMul,Nat.reduceLeDiff,nn];exact rfl) ?_
  refine aa.nil ?_
  refine Wp.cG (by simp only[go_sem,reduceIte,Nat.reduceEqDiff,Nat.reduceAdd,bx,ax,if_true,if_false,Nat.reduceMul,Nat.reduceLeDiff,nn];exact rfl) (by simp only[go_sem,reduceIte,Nat.reduceEqDiff,Nat.reduceAdd,bx,List.map];exact ae.refl _) dx (trivial) ?_
  exact ⟨rfl,by simp only[upd,n1,m1,if_false];exact g1⟩
 |true=>
  rw[hb] at hpe
  rw[if_pos rfl] at hpe ⊢
  rw[hpe] at cp
  have hok:=(wA hb).1
  have W2:=W (bm p.k)
  unfold eQ at cp
  generalize bm p.k=key at*
  refine Wp.ar (by simp only[go_sem,reduceIte,Nat.reduceEqDiff,Nat.reduceAdd,bx,ax,if_true,if_false,Nat.reduceMul,Nat.reduceLeDiff];exact rfl) ?_
  refine aa.nil ?_
  refine Wp.ar (by simp only[go_sem,reduceIte,Nat.reduceEqDiff,Nat.reduceAdd,bx,ax,if_true,if_false,Nat.reduceMul,Nat.reduceLeDiff];exact rfl) ?_
  refine aa.aO xA2 (by simp only[go_sem,reduceIte,Nat.reduceEqDiff,Nat.reduceAdd,bx,List.map];exact ae.refl _) (cp) ?_
  refine aa.evF (by simp only[go_sem,reduceIte,Nat.reduceEqDiff,Nat.reduceAdd,bx,ax,if_true,if_false,Nat.reduceMul,Nat.reduceLeDiff,nn];exact rfl) ?_
  refine aa.nil ?_
  refine Wp.ar (by simp only[go_sem,reduceIte,Nat.reduceEqDiff,Nat.reduceAdd,bx,ax,if_true,if_false,Nat.reduceMul,Nat.reduceLeDiff,nn];exact rfl) ?_
  refine aa.aO xA2 (by simp only[go_sem,reduceIte,Nat.reduceEqDiff,Nat.reduceAdd,bx,List.map];exact ae.refl _) (fw) ?_
  refine aa.nil ?_
  refine Wp.le (aE.of (bj ?_) (OLe.cO _) (fun x hx=>hx) (Nat.le_refl _) (Nat.le_refl _)) (W2 ?_ hok)
  ·exact xSb
  ·refine ⟨fun ho=>⟨(gk ho).1,(gk ho).2.1⟩,hn,?_,fun ho=>?_,?_,?_,?_,?_,?_,?_,htk,htm,I.nd,I.len,I.vers,I.pcs,hJ⟩
   ·simp only[upd,n3,m3,if_false];exact g3
   ·obtain ⟨a,b,c⟩:=gk ho
    have e1:¬(k=n):=by omega
    have e2:¬(k=n+1):=by omega
    simp only[upd,e1,e2,if_false];exact c
   ·simp only[upd,n2,m2,if_false];exact g2
   ·simp only[upd,n0,m0,if_false];exact g0
   ·simp only[upd,n1,m1,if_false];exact g1
   ·simp only[upd,n4,m4,if_false];exact g4
   ·simp only[upd,nn,if_false,if_true]
   ·simp only[upd,if_true]
theorem C6 {L:List Pr} {h:H} {bt:List (Bk × Nat)} {q:List Pc} {J:Nat} (hJ:J≤5000) (I:kQ L h bt q J) {p:Pr} (hpk:p.k.length≤140737488355328) (hpv:p.v.length≤140737488355328) {S:SS} (hS:js (bt.map Prod.fst,q) p=some S):
  ∃r h',aM Tryz.prog 64 [.ptr 3 0,.agg [.str p.k,.str p.v]] h r h'∧(h.n≤h'.n∧h.m≤h'.m)∧∃bt',bt'.map Prod.fst=S.1∧kQ L h' bt' S.2 (J+1):=by
 have W:=FJ L h bt q J hJ I p hpk hpv
 rw[hS] at W
 exact aH.rU (Q:=fun _ h'=>∃bt',bt'.map Prod.fst=S.1∧kQ L h' bt' S.2 (J+1)) f64 (by simp) (W.mono fun e s' hq=>⟨gC hq.1,_,rfl,hq.2⟩)
theorem xQ {L:List Pr} {h:H} {bt:List (Bk × Nat)} {q:List Pc} {J:Nat} (hJ:J≤5000) (I:kQ L h bt q J) {p:Pr} (hpk:p.k.length≤140737488355328) (hpv:p.v.length≤140737488355328) (hS:js (bt.map Prod.fst,q) p=none):
  ∃h',dh Tryz.prog 64 [.ptr 3 0,.agg [.str p.k,.str p.v]] h v4 h'∧(h.n≤h'.n∧h.m≤h'.m)∧h'.objs 1=some (.cells [.sl 3 [] (.exact 0)]):=by
 have W:=FJ L h bt q J hJ I p hpk hpv
 rw[hS] at W
 obtain ⟨v,h',a,b,rfl,c⟩:=aH.tf (Q:=fun v h'=>v=v4∧h'.objs 1=some (.cells [.sl 3 [] (.exact 0)])) f64 (by simp) (W.mono fun e s' hq=>⟨_,hq.1,rfl,hq.2⟩)
 exact ⟨h',a,b,c⟩
def Al:AV:= .tup [.agg [.sl 3 [] .any],.int .i64 4]
theorem cu (l:List Pr) (j:Nat) (d:AV) (h:j<l.length):(prs l).getD j d= .agg [.str (l.getD j default).k,.str (l.getD j default).v]:=by
 simp[prs,gQ,List.getD,List.getElem?_eq_getElem h]
theorem E6 (a b:List Pr) (ha:a.length≤1000000) (hb:b.length≤1000000):aD Tryz.prog 65 [.sl 2 (prs a) .any,.sl 2 (prs b) .any] (.bool (decide (a=b))):=by
 refine f65.aC (by simp) (by simp[ay,aN,bB,iI]) rfl ?_
 unfold c65
 simp only[C.zz]
 have lea:=bg a
 have leb:=bg b
 by_cases hlen:a.length=b.length
 ·have e0:decide (((a.length:Nat):Int)=((b.length:Nat):Int))=true:=decide_eq_true (by omega)
  refine rn0 (cj4 lea leb e0 @Bool.not_true) ?_
  refine Wp.gM [0,1,12] xA6 (fun j:Nat=>[(13,.int .i64 (j:Nat))]) (fun j=>j≤a.length∧a.take j=b.take j) (fun j=>a.length - j) 0 ⟨Nat.zero_le _,rfl⟩ ?_ ?_
  ·exact xSb
  rintro j ⟨hj,hpre⟩
  by_cases hc:j<a.length
  ·obtain ⟨g1,g2,g3,e1⟩:=fV hc (Nat.le_trans ha (by decide))
   have g4:(j:Int)<(b.length:Int):=by omega
   have hat:=cu a j .any hc
   have hbt:=cu b j .any (by omega)
   have ea:a.getD j default=a[j]:=by simp[List.getD,List.getElem?_eq_getElem hc]
   have eb:b.getD j default=b[j]:=by simp[List.getD,List.getElem?_eq_getElem (show j<b.length by omega)]
   by_cases hp:a.getD j default=b.getD j default
   ·have hnext:a.take (j+1)=b.take (j+1):=by
     rw[List.take_succ_eq_append_getElem hc,List.take_succ_eq_append_getElem (show j<b.length by omega),hpre,←ea,←eb,hp]
    rw[←hp] at hbt
    generalize a.getD j default=p at*
    refine rn0 (bL g1 g2 g3 g4 lea leb hat hbt @Int.toNat_natCast @beq_self_eq_true.{0} @bne_self_eq_false.{0} (cj4 @decide_true @Bool.and_self @Option.map_some.{0,0} @Bool.not_true)) ?_
    refine ⟨j+1,⟨by omega,hnext⟩,Nat.sub_lt_sub_left hc (Nat.lt_succ_self _),?_⟩
    refine aE.tm (by simp only[au,go_sem,reduceIte,Nat.reduceEqDiff,Nat.reduceAdd,bx,e1];and_intros<;>first|exact trivial|exact af.refl _|exact af.any _|(refine af.int ?_;omega))
   ·have hne:decide (a=b)=false:=decide_eq_false fun h=>hp (by rw[h])
    rw[hne]
    generalize a.getD j default=p at*
    generalize b.getD j default=q at*
    have dpq:(decide (p.k=q.k)&&decide (p.v=q.v))=false:=by
     rw[Bool.and_eq_false_iff]
     by_cases h1:p.k=q.k
     ·refine .inr (decide_eq_false fun h2=>hp ?_)
      obtain ⟨pk,pv⟩:=p
      obtain ⟨qk,qv⟩:=q
      simp only at h1 h2
      rw[h1,h2]
     ·exact .inl (decide_eq_false h1)
    refine rn0 (bL g1 g2 g3 g4 lea leb hat hbt dpq @Int.toNat_natCast @Option.map_some.{0,0} @Bool.not_false) ?_
    refine aK ?_
    exact af.refl _
  ·have hj2:j=a.length:=by omega
   subst hj2
   have g1:=ie a.length
   have he:decide (a=b)=true:=by
    rw[List.take_length,hlen,List.take_length] at hpre
    exact decide_eq_true hpre
   rw[he]
   refine rn0 (cj2 g1 lea) ?_
   refine aK ?_
   exact af.refl _
 ·have e0:decide (((a.length:Nat):Int)=((b.length:Nat):Int))=false:=decide_eq_false (by omega)
  have hne:decide (a=b)=false:=decide_eq_false fun h=>hlen (by rw[h])
  rw[hne]
  refine rn0 (cj4 lea leb e0 @Bool.not_false) ?_
  refine aK ?_
  exact af.refl _
def qg (b:Bk):List AV:=[.str b.n,.int .i64 b.st,.sl 8 (vss b.l) .any]
theorem C7 (m:List Bk):(m.map qg).map AV.agg=bks m:=by
 rw[List.map_map];rfl
def iV (L:List Pr):List Bk:=match jt L L.length with
 |some S=>S.1
 |none=>[]
def fG (L:List Pr):Bool:=match jt L L.length with
 |some S=>decide (S.2=[])&&(decide (imE S.1=0)&&decide ((if imB S.1=true then aP (aT S.1) else [])=L))
 |none=>false
def QM (L:List Pr):az→St→Prop:=fun e s'=>if fG L=true then e= .normal∧s'.h.objs 3=some (.cells [.sl 3 (bks (iV L)) .any,.mp 2])∧s'.h.objs 1=some (.cells [.sl 3 [] (.exact 0)])∧s'.h.objs 4=some (.cells [.ptr 3 0]) else e= .panic v4∧s'.h.objs 1=some (.cells [.sl 3 [] (.exact 0)])
theorem nw {L:List Pr} (h:fG L=false) {s':St} (h1:s'.h.objs 1=some (.cells [.sl 3 [] (.exact 0)])):QM L (.panic v4) s':=by
 unfold QM
 rw[h,if_neg (by simp)]
 exact ⟨rfl,h1⟩
theorem ur {L:List Pr} {j:Nat} (h:jt L j=none):∀k,jt L (j+k)=none
 |0=>h
 |k+1=>by
  have:=ur h k
  rw[show j+(k+1)=(j+k)+1 by omega]
  simp only[jt]
  rw[this];rfl
theorem C8 {L:List Pr} {j:Nat} (hj:j≤L.length) (h:jt L j=none):fG L=false:=by
 have:=ur h (L.length - j)
 rw[show j+(L.length - j)=L.length by omega] at this
 unfold fG
 rw[this]
theorem E7 (m:List Bk) (v:Vs):∀i,i<m.length→((pT m i v).map fun b=>b.l.length).sum=(m.map fun b=>b.l.length).sum+1:=by
 unfold pT
 induction m with
 |nil=>intro i hi;simp at hi
 |cons b m ih=>
  intro i hi
  cases i with
  |zero=>simp[List.getD];omega
  |succ i=>
   have:=ih i (by simpa using hi)
   simp only[List.set_cons_succ,List.map_cons,List.sum_cons]
   have e:(b::m).getD (i+1) default=m.getD i default:=by simp[List.getD]
   rw[e,this];omega
theorem Am {S S':SS} {p:Pr} (h:js S p=some S'):S'.1.length+(S'.1.map fun b=>b.l.length).sum≤S.1.length+(S.1.map fun b=>b.l.length).sum+1:=by
 unfold js at h
 split at h
 ·unfold jB at h
  split at h
  ·split at h
   ·cases h;simp;omega
   ·cases h
  ·split at h
   ·split at h
    ·cases h;simp only;omega
    ·cases h
   ·split at h
    ·split at h
     ·split at h
      ·rename_i ht
       cases h
       have hi:jA (S.1.map Bk.n) (bm p.k).b<S.1.length:=by
        unfold fu at ht
        simp only[Bool.and_eq_true,decide_eq_true_eq,List.length_map] at ht
        exact ht.1
       have hl:∀v,(pT S.1 (jA (S.1.map Bk.n) (bm p.k).b) v).length=S.1.length:=fun v=>by simp[pT]
       simp only
       rw[E7 _ _ _ hi,hl];omega
      ·cases h
     ·cases h
    ·cases h
 ·cases h
theorem ny (L:List Pr):∀(j:Nat) {S:SS},jt L j=some S→S.1.length+(S.1.map fun b=>b.l.length).sum≤j
 |0,S,h=>by cases h;simp
 |j+1,S,h=>by
  simp only[jt] at h
  obtain ⟨S0,h0,h1⟩:=Option.bind_eq_some_iff.1 h
  have:=ny L j h0
  split at h1
  ·have:=Am h1;omega
  ·cases h1
theorem lL {m:List Bk} (h:imB m=true):(aT m).length≤m.length+17*(m.map fun b=>b.l.length).sum:=by
 have key:∀b∈m,(ff b).length≤1+17*b.l.length:=fun b hx=>by
  have ho:=jy h hx
  have e:(ff b).length=1+((b.l.map (dw b.n)).flatten).length:=by
   unfold ff cB
   rw[List.length_map,List.flatten_cons,List.length_append];rfl
  rw[e]
  have hv:∀l:List Vs,(∀v∈l,v.okV=true)→((l.map (dw b.n)).flatten).length≤17*l.length:=by
   intro l
   induction l with
   |nil=>intro _;simp
   |cons v l ih=>
    intro hv
    have h1:=ih fun u hu=>hv u (by simp[hu])
    have h2:=oy (mB (hv v (by simp))).2
    have h3:(dw b.n v).length=ey v.b+1:=by simp[dw]
    simp only[List.map_cons,List.flatten_cons,List.length_append,List.length_cons,h3]
    omega
  have:=hv b.l fun v hv=>rl ho hv
  omega
 clear h
 induction m with
 |nil=>simp[aT]
 |cons b m ih=>
  have h1:=ih fun u hu=>key u (by simp[hu])
  have h2:=key b (by simp)
  unfold aT at*
  simp only[List.map_cons,List.flatten_cons,List.length_append,List.length_cons,List.sum_cons]
  omega
theorem kQ.ext {L:List Pr} {F F':Nat→Option Av.Obj} {n n':Nat} {toks:List Nat} {m:Nat} {bt:List (Bk × Nat)} {q:List Pc} {J:Nat} (I:kQ L ⟨F,n,toks,m⟩ bt q J) (hF:∀a,a<n→F' a=F a) (hn:n≤n'):kQ L ⟨F',n',toks,m⟩ bt q J:=by
 obtain ⟨k,f3,hrow⟩:=I.row
 have h5:=I.hn
 simp only at h5
 refine ⟨⟨k,(hF 3 (by omega)).trans f3,fun ho=>?_⟩,(hF 2 (by omega)).trans I.mp,(hF 0 (by omega)).trans I.o0,(hF 1 (by omega)).trans I.o1,(hF 4 (by omega)).trans I.o4,by simp only;omega,I.tk,I.tm,I.nd,I.len,I.vers,I.pcs⟩
 obtain ⟨a,b,cs,c,d⟩:=hrow ho
 simp only at b
 exact ⟨a,by simp only;omega,cs,(hF k b).trans c,d⟩
theorem pW:∀bt:List (Bk × Nat),ae (dR bt) (((bt.map Prod.fst).map qg).flatten)
 |[]=>ae.nil
 |x::bt=>by
  have ih:=pW bt
  have e1:dR (x::bt)= .str x.1.n:: .int .i64 x.1.st:: .sl 8 (vss x.1.l) (.own x.2)::dR bt:=rfl
  have e2:(((x::bt).map Prod.fst).map qg).flatten= .str x.1.n:: .int .i64 x.1.st:: .sl 8 (vss x.1.l) .any::((bt.map Prod.fst).map qg).flatten:=rfl
  rw[e1,e2]
  exact ae.cons (af.refl _) (ae.cons (af.refl _) (ae.cons af.cap ih))
def kf:AC:=tlA c63
theorem E8 {L:List Pr} {h:H} {bt:List (Bk × Nat)} {q:List Pc} {J:Nat} (I:kQ L h bt q J) (N:Nat):∃h',aE ⟨tm [(0,.ptr 0 0),(1,.ptr 4 0)],h⟩ ⟨tm [(0,.ptr 0 0),(1,.ptr 4 0)],h'⟩∧h'.objs 3=some (.cells [.sl 3 (bks (bt.map Prod.fst)) .any,.mp 2])∧h'.objs 2=some (.map (eX q))∧h'.objs 0=some (.cells [.sl 2 (prs L) .any])∧h'.objs 1=some (.cells [.sl 3 [] (.exact 0)])∧h'.objs 4=some (.cells [.ptr 3 0]):=by
 obtain ⟨F,n,toks,m⟩:=h
 obtain ⟨k,f3,hrow⟩:=I.row
 have f2:=I.mp
 have f0:=I.o0
 have f1:=I.o1
 have f4:=I.o4
 simp only at f3 hrow f2 f0 f1 f4
 by_cases ho:bt=[]
 ·subst ho
  have hv:bV [] k= .sl 3 [] (.exact 0):=rfl
  rw[hv] at f3
  refine ⟨⟨upd F 3 (some (.cells [.sl 3 [] .any,.mp 2])),n,toks,m⟩,aE.of (fun _=>af.refl _) (kK f3 (ae.cons af.cap (ae.cons (af.refl _) ae.nil))) (fun x hx=>hx) (Nat.le_refl _) (Nat.le_refl _),by simp[upd,bks],?_,?_,?_,?_⟩
  all_goals
   simp only[upd]
   rw[if_neg (by decide)]
   assumption
 ·have hv:bV bt k= .tsl 3 k 0 bt.length none:=by unfold bV;rw[if_neg ho]
  rw[hv] at f3
  obtain ⟨a,b,cs,c,d⟩:=hrow ho
  have hrl:((bt.map Prod.fst).map qg).length=bt.length:=by simp
  have hr3:∀x∈(bt.map Prod.fst).map qg,x.length=3:=fun x hx=>by
   obtain ⟨b,-,rfl⟩:=List.mem_map.1 hx
   rfl
  have hsub:ae cs (((bt.map Prod.fst).map qg).flatten):=fun G w v h=>pW bt G w v (d G w v h)
  have s1:aE ⟨tm [(0,.ptr 0 0),(1,.ptr 4 0)],⟨F,n,toks,m⟩⟩ ⟨tm [(0,.ptr 0 0),(1,.ptr 4 0)],⟨upd F k (some (.cells (((bt.map Prod.fst).map qg).flatten))),n,toks,m⟩⟩:=aE.of (fun _=>af.refl _) (kK c hsub) (fun x hx=>hx) (Nat.le_refl _) (Nat.le_refl _)
  have k3:¬(3=k):=by omega
  have s2:=aE.G9 (tm [(0,.ptr 0 0),(1,.ptr 4 0)]) ⟨upd F k (some (.cells (((bt.map Prod.fst).map qg).flatten))),n,toks,m⟩ k 3 (rows:=(bt.map Prod.fst).map qg) (sz:=3) (c:=none) (rest:=[.mp 2]) hr3 k3 (by simp only[upd,if_true]) (by rw[hrl];simp only[upd,k3,if_false];exact f3)
  rw[C7] at s2
  have k0:¬(0=k):=by omega
  have k1:¬(1=k):=by omega
  have k2:¬(2=k):=by omega
  have k4:¬(4=k):=by omega
  refine ⟨_,aE.trans s1 (aE.trans s2 (aE.of (bj ?_) (OLe.cO _) (fun x hx=>hx) (Nat.le_refl _) (Nat.le_refl _))),by simp only[upd,if_true],?_,?_,?_,?_⟩
  ·simp only[au,go_sem,reduceIte,Nat.reduceEqDiff,Nat.reduceAdd,bx,unT,decide_eq_true_eq,k0,k4];and_intros<;>first|exact trivial|exact af.refl _|exact af.any _|(refine af.int ?_;omega)
  ·simp only[upd,H.drop,k2,decide_false,if_false,Bool.false_eq_true,Nat.reduceEqDiff,reduceIte];exact f2
  ·simp only[upd,H.drop,k0,decide_false,if_false,Bool.false_eq_true,Nat.reduceEqDiff,reduceIte];exact f0
  ·simp only[upd,H.drop,k1,decide_false,if_false,Bool.false_eq_true,Nat.reduceEqDiff,reduceIte];exact f1
  ·simp only[upd,H.drop,k4,decide_false,if_false,Bool.false_eq_true,Nat.reduceEqDiff,reduceIte];exact f4
set_option maxHeartbeats 2000000 in
theorem Da {L:List Pr} (hl:L.length≤4000) {h:H} {bt:List (Bk × Nat)} {q:List Pc} (I:kQ L h bt q L.length) (hR:jt L L.length=some (bt.map Prod.fst,q)):
  Wp Tryz.prog 54 kf ⟨tm [(0,.ptr 0 0),(1,.ptr 4 0)],h⟩ (QM L):=by
 obtain ⟨h',hle,f3,f2,f0,f1,f4⟩:=E8 I 54
 refine Wp.le hle ?_
 have hS:iV L=bt.map Prod.fst:=by unfold iV;rw[hR]
 have hO:fG L=(decide (q=[])&&(decide (imE (bt.map Prod.fst)=0)&&decide ((if imB (bt.map Prod.fst)=true then aP (aT (bt.map Prod.fst)) else [])=L))):=by unfold fG;rw[hR]
 have hcnt:=ny L _ hR
 have hfew:Few (bt.map Prod.fst):=fun b hb=>by
  obtain ⟨x,hx,rfl⟩:=List.mem_map.1 hb
  have:=I.vers x hx
  omega
 have hbd:imB (bt.map Prod.fst)=true→(aT (bt.map Prod.fst)).length≤100000:=fun hb=>by
  have:=lL hb
  simp only at hcnt
  omega
 have cp:=jY (bt.map Prod.fst) hfew hbd
 have hsl:(if imB (bt.map Prod.fst)=true then aP (aT (bt.map Prod.fst)) else []).length≤1000000:=by
  split
  ·rename_i hb
   have:=xy (aT (bt.map Prod.fst))
   have:=hbd hb
   omega
  ·simp
 have ce:=E6 (if imB (bt.map Prod.fst)=true then aP (aT (bt.map Prod.fst)) else []) L hsl (by omega)
 have hen:bO (bt.map Prod.fst)= .agg [.sl 3 (bks (bt.map Prod.fst)) .any]:=rfl
 rw[hen] at cp
 have hq:=CV q
 have dq:decide ((((eX q).length:Nat):Int)=0)=decide (q=[]):=by
  rw[hq,decide_eq_decide,←List.length_eq_zero_iff];omega
 clear hR I hbd hfew hcnt hle
 generalize hm:bt.map Prod.fst=mm at*
 generalize (if imB mm=true then aP (aT mm) else [])=again at*
 have cut:kf= .seq (hdA kf) (.seq (hdA (tlA kf)) (tlA (tlA kf))):=rfl
 rw[cut]
 unfold kf c63
 simp only[hdA,tlA]
 cases hqe:decide (q=[]) with
 |false=>
  rw[hqe] at dq
  rw[hqe,Bool.false_and] at hO
  refine Wp.cG (by simp only[go_sem,reduceIte,Nat.reduceEqDiff,Nat.reduceAdd,bx,ax,if_true,if_false,Nat.reduceMul,Nat.reduceLeDiff,f4,f3,f2,dq];exact rfl) (by simp only[go_sem,reduceIte,Nat.reduceEqDiff,Nat.reduceAdd,bx,List.map];exact ae.refl _) dx (trivial) ?_
  exact nw hO f1
 |true=>
 rw[hqe] at dq
 rw[hqe,Bool.true_and] at hO
 refine Wp.ar (by simp only[go_sem,reduceIte,Nat.reduceEqDiff,Nat.reduceAdd,bx,ax,if_true,if_false,Nat.reduceMul,Nat.reduceLeDiff,f4,f3,f2,dq];exact rfl) ?_
 refine aa.aO xA2 (by simp only[go_sem,reduceIte,Nat.reduceEqDiff,Nat.reduceAdd,bx,List.map];exact ae.refl _) (fw) ?_
 refine aa.nil ?_
 refine Wp.ar (by simp only[go_sem,reduceIte,Nat.reduceEqDiff,Nat.reduceAdd,bx,ax,if_true,if_false,Nat.reduceMul,Nat.reduceLeDiff,f4,f3];exact rfl) ?_
 refine aa.aO xA2 (by simp only[go_sem,reduceIte,Nat.reduceEqDiff,Nat.reduceAdd,bx,List.map];exact ae.refl _) (cp) ?_
 refine aa.evF (by simp only[go_sem,reduceIte,Nat.reduceEqDiff,Nat.reduceAdd,bx,ax,if_true,if_false,Nat.reduceMul,Nat.reduceLeDiff];exact rfl) ?_
 refine aa.nil ?_
 cases hde:decide (imE mm=0) with
 |false=>
  rw[hde,Bool.false_and] at hO
  refine Wp.rT (by simp only[go_sem,reduceIte,Nat.reduceEqDiff,Nat.reduceAdd,bx,ax,if_true,if_false,Nat.reduceMul,Nat.reduceLeDiff,hde];exact rfl) (by simp only[go_sem,reduceIte,Nat.reduceEqDiff,Nat.reduceAdd,bx,List.map];exact ae.refl _) dx (trivial) ?_
  exact nw hO f1
 |true=>
 rw[hde,Bool.true_and] at hO
 cases hdg:decide (again=L) with
 |false=>
  rw[hdg] at hO ce
  refine Wp.yX (aQ.eval (log:=[]) (aY (by simp only[go_sem,reduceIte,Nat.reduceEqDiff,Nat.reduceAdd,bx,ax,if_true,if_false,hde,f0];exact rfl)) (aQ.step (x:= .bool false) (fun ops i o ho hit=>kO.mn (N:=54) (full:=false) (.inl (aU _)) (cM ho hit xA2 rfl (by simp only[go_sem,reduceIte,Nat.reduceEqDiff,Nat.reduceAdd,bx,List.map];exact ae.refl _) (ce _ _))) (aQ.eval (log:=[]) (aY (by simp only[go_sem,reduceIte,Nat.reduceEqDiff,Nat.reduceAdd,bx,ax,if_true,if_false,hde];exact rfl)) (aQ.here fun ops i o ho hit=>qb.of (aU _) (dC ho hit rfl rfl (by simp only[go_sem,reduceIte,Nat.reduceEqDiff,Nat.reduceAdd,bx,List.map];exact ae.refl _) (dx _ _)))))) ?_
  exact nw hO f1
 |true=>
  rw[hdg] at hO ce
  refine Wp.bI (by simp only[go_sem,reduceIte,Nat.reduceEqDiff,Nat.reduceAdd,bx,ax,if_true,if_false,Nat.reduceMul,Nat.reduceLeDiff,hde,f0];exact rfl) ?_
  refine aa.aO xA2 (by simp only[go_sem,reduceIte,Nat.reduceEqDiff,Nat.reduceAdd,bx,List.map];exact ae.refl _) (ce) ?_
  refine aa.evF (by simp only[go_sem,reduceIte,Nat.reduceEqDiff,Nat.reduceAdd,bx,ax,if_true,if_false,Nat.reduceMul,Nat.reduceLeDiff];exact rfl) ?_
  refine aa.aO xA2 (by simp only[go_sem,reduceIte,Nat.reduceEqDiff,Nat.reduceAdd,bx,List.map];exact ae.refl _) (fw) ?_
  refine aa.nil ?_
  unfold QM
  rw[hO,if_pos rfl,hS]
  exact ⟨rfl,f3,f1,f4⟩
theorem Db {L:List Pr} {j:Nat} {S:SS} (h:jt L j=some S):jt L (j+1)=if (decide (j=0)||Op.bytesLess (L.getD (j - 1) default).k (L.getD j default).k)=true then js S (L.getD j default) else none:=by
 simp only[jt]
 rw[h];rfl
set_option maxHeartbeats 4000000 in
theorem GL (L:List Pr) (hl:L.length≤4000) (hks:∀p∈L,p.k.length≤140737488355328) (hvs:∀p∈L,p.v.length≤140737488355328) (h:H) (I0:kQ L h [] [] 0):
  Wp Tryz.prog 54 c63 ⟨ef [.ptr 0 0,.ptr 4 0],h⟩ (QM L):=by
 have cut:c63= .seq (hdA c63) kf:=rfl
 rw[cut]
 have WR:=fun {h:H} {bt:List (Bk × Nat)} {q:List Pc} (I:kQ L h bt q L.length) hR=>Da hl I hR
 generalize kf=R63 at*
 unfold c63
 simp only[C.zz]
 simp only[hdA]
 have lp:=bg L
 have f0:=I0.o0
 refine rf0 (cj2 f0 lp) ?_
 refine Wp.eM [0,1,6,7] xA7 (fun j:Nat × H=>[(8,.int .i64 (j.1:Nat))]) (fun j=>j.2) (fun j=>j.1≤L.length∧∃bt q,jt L j.1=some (bt.map Prod.fst,q)∧kQ L j.2 bt q j.1) (fun j=>L.length - j.1) (0,h) ⟨Nat.zero_le _,[],[],rfl,I0⟩ rfl ?_ ?_
 ·exact xSb
 rintro ⟨j,h1⟩ ⟨hj,bt,q,hrun,I⟩
 simp only at hj hrun I
 by_cases hc:j<L.length
 ·obtain ⟨g1,g2,g3,e1⟩:=fV hc (by omega)
  have hat:=cu L j .any hc
  have hget:L.getD j default=L[j]:=by simp[List.getD,List.getElem?_eq_getElem hc]
  have hmem:L.getD j default∈L:=by rw[hget];exact List.getElem_mem hc
  have hpk:=hks _ hmem
  have hpv:=hvs _ hmem
  have hstep:=Db hrun
  obtain ⟨F,n,toks,m⟩:=h1
  have hn:=I.hn
  have g0:=I.o0
  have g4:=I.o4
  simp only at hn g0 g4
  have n0:¬(0=n):=by omega
  have n4:¬(4=n):=by omega
  have bad:jt L (j+1)=none→fG L=false:=fun hb=>C8 (by omega) hb
  have hprev:j≠0→(prs L).getD (j - 1) .any= .agg [.str (L.getD (j - 1) default).k,.str (L.getD (j - 1) default).v]:=fun h0=>cu L (j - 1) .any (by omega)
  generalize L.getD j default=p at*
  generalize L.getD (j - 1) default=p0 at*
  have I2:∀o o':Av.Obj,kQ L ⟨upd (upd F n (some o)) n (some o'),n+1,toks,m⟩ bt q j:=fun o o'=>I.ext (fun a ha=>by
   have:a≠n:=by omega
   simp only[upd,if_neg this]) (Nat.le_succ _)
  refine Wp.ar (by simp only[go_sem,reduceIte,Nat.reduceEqDiff,Nat.reduceAdd,bx,ax,if_true,if_false,Nat.reduceMul,Nat.reduceLeDiff,g1,lp];exact rfl) ?_
  refine aa.nil ?_
  refine Wp.seq ?_
  refine Wp.cond_true (by simp only[go_sem,reduceIte,Nat.reduceEqDiff,Nat.reduceAdd,bx,g1,lp]) ?_
  refine Wp.skip ?_
  refine Wp.seq (Wp.block ?_)
  refine Wp.ar (by simp only[go_sem,reduceIte,Nat.reduceEqDiff,Nat.reduceAdd,bx,ax,if_true,if_false,Nat.reduceMul,Nat.reduceLeDiff,g2,g3,lp,hat,Int.toNat_natCast];exact rfl) ?_
  refine aa.nil ?_
  have key:∀(b:Bool),b=(decide (j=0)||Op.bytesLess p0.k p.k)→True:=fun _ _=>trivial
  by_cases h0:j=0
  ·have d0:decide ((j:Int)=0)=true:=decide_eq_true (by omega)
   have hcond:(decide (j=0)||Op.bytesLess p0.k p.k)=true:=by simp[h0]
   rw[if_pos hcond] at hstep
   refine Wp.aF (by simp only[go_sem,reduceIte,Nat.reduceEqDiff,Nat.reduceAdd,bx,ax,if_true,if_false,Nat.reduceMul,Nat.reduceLeDiff,d0];exact rfl) ?_
   refine ab.aO xA2 (by simp only[go_sem,reduceIte,Nat.reduceEqDiff,Nat.reduceAdd,bx,List.map];exact ae.refl _) (fw) ?_
   refine ab.evR xA1 ?_
   refine ab.nil ⟨by simp[aI,aq,apart,aB],?_⟩
   cases hS:js (bt.map Prod.fst,q) p with
   |none=>
    rw[hS] at hstep
    obtain ⟨h2,bH,hnm,ho1⟩:=xQ (by omega) (I2 (.cells [.str [],.str []]) (.cells [.str p.k,.str p.v])) hpk hpv hS
    refine Wp.o9 (by simp only[go_sem,reduceIte,Nat.reduceEqDiff,Nat.reduceAdd,bx,ax,if_true,if_false,g4,n4];exact rfl) (by simp only[go_sem,reduceIte,Nat.reduceEqDiff,Nat.reduceAdd,bx,List.map];exact ae.refl _) hnm bH ?_
    exact nw (bad hstep) ho1
   |some S=>
    rw[hS] at hstep
    obtain ⟨r,h2,bH,hnm,bt2,hfst,I3⟩:=C6 (by omega) (I2 (.cells [.str [],.str []]) (.cells [.str p.k,.str p.v])) hpk hpv hS
    refine Wp.bI (by simp only[go_sem,reduceIte,Nat.reduceEqDiff,Nat.reduceAdd,bx,ax,if_true,if_false,Nat.reduceMul,Nat.reduceLeDiff,g4,n4];exact rfl) ?_
    refine aa.fb xA2 (by simp only[go_sem,reduceIte,Nat.reduceEqDiff,Nat.reduceAdd,bx,List.map];exact ae.refl _) hnm (bH) ?_
    refine aa.nil ?_
    refine Wp.bI (by simp only[go_sem,reduceIte,Nat.reduceEqDiff,Nat.reduceAdd,bx,ax,if_true,if_false,Nat.reduceMul,Nat.reduceLeDiff,e1];exact rfl) ?_
    refine aa.nil ?_
    refine ⟨(j+1,h2),⟨by simp only;omega,bt2,S.2,by simp only;rw[hstep,hfst],I3⟩,by simp only;omega,?_⟩
    refine aE.of (bj ?_) (OLe.cO _) (fun x hx=>hx) (Nat.le_refl _) (Nat.le_refl _)
    simp only[au,go_sem,reduceIte,Nat.reduceEqDiff,Nat.reduceAdd,bx,e1];and_intros<;>first|exact trivial|exact af.refl _|exact af.any _|(refine af.int ?_;omega)
  ·have d0:decide ((j:Int)=0)=false:=decide_eq_false (by omega)
   have ej:IntKind.i64.wrap ((j:Int) - 1)=((j - 1:Nat):Int):=by rw[IntWalk.i64_in _ (by omega)];omega
   have p1:(0:Int)≤((j - 1:Nat):Int):=by omega
   have p2:((j - 1:Nat):Int)<(L.length:Int):=by omega
   have hat2:=hprev h0
   have hz:decide (j=0)=false:=decide_eq_false h0
   rw[hz,Bool.false_or] at hstep
   cases hb:Op.bytesLess p0.k p.k with
   |false=>
    rw[hb,if_neg (by simp)] at hstep
    refine Wp.cG (by simp only[go_sem,reduceIte,Nat.reduceEqDiff,Nat.reduceAdd,bx,ax,if_true,if_false,Nat.reduceMul,Nat.reduceLeDiff,d0,g0,n0,ej,p1,p2,lp,hat2,hb,Int.toNat_natCast];exact rfl) (by simp only[go_sem,reduceIte,Nat.reduceEqDiff,Nat.reduceAdd,bx,List.map];exact ae.refl _) dx (⟨by simp[aq,apart,aB],rfl⟩) ?_
    exact nw (bad hstep) (I2 (.cells [.str [],.str []]) (.cells [.str p.k,.str p.v])).o1
   |true=>
    rw[hb,if_pos rfl] at hstep
    refine Wp.aF (by simp only[go_sem,reduceIte,Nat.reduceEqDiff,Nat.reduceAdd,bx,ax,if_true,if_false,Nat.reduceMul,Nat.reduceLeDiff,d0,g0,n0,ej,p1,p2,lp,hat2,hb,Int.toNat_natCast];exact rfl) ?_
    refine ab.aO xA2 (by simp only[go_sem,reduceIte,Nat.reduceEqDiff,Nat.reduceAdd,bx,List.map];exact ae.refl _) (fw) ?_
    refine ab.evR xA1 ?_
    refine ab.nil ⟨by simp[aI,aq,apart,aB],?_⟩
    cases hS:js (bt.map Prod.fst,q) p with
    |none=>
     rw[hS] at hstep
     obtain ⟨h2,bH,hnm,ho1⟩:=xQ (by omega) (I2 (.cells [.str [],.str []]) (.cells [.str p.k,.str p.v])) hpk hpv hS
     refine Wp.o9 (by simp only[go_sem,reduceIte,Nat.reduceEqDiff,Nat.reduceAdd,bx,ax,if_true,if_false,g4,n4];exact rfl) (by simp only[go_sem,reduceIte,Nat.reduceEqDiff,Nat.reduceAdd,bx,List.map];exact ae.refl _) hnm bH ?_
     exact nw (bad hstep) ho1
    |some S=>
     rw[hS] at hstep
     obtain ⟨r,h2,bH,hnm,bt2,hfst,I3⟩:=C6 (by omega) (I2 (.cells [.str [],.str []]) (.cells [.str p.k,.str p.v])) hpk hpv hS
     refine Wp.bI (by simp only[go_sem,reduceIte,Nat.reduceEqDiff,Nat.reduceAdd,bx,ax,if_true,if_false,Nat.reduceMul,Nat.reduceLeDiff,g4,n4];exact rfl) ?_
     refine aa.fb xA2 (by simp only[go_sem,reduceIte,Nat.reduceEqDiff,Nat.reduceAdd,bx,List.map];exact ae.refl _) hnm (bH) ?_
     refine aa.nil ?_
     refine Wp.bI (by simp only[go_sem,reduceIte,Nat.reduceEqDiff,Nat.reduceAdd,bx,ax,if_true,if_false,Nat.reduceMul,Nat.reduceLeDiff,e1];exact rfl) ?_
     refine aa.nil ?_
     refine ⟨(j+1,h2),⟨by simp only;omega,bt2,S.2,by simp only;rw[hstep,hfst],I3⟩,by simp only;omega,?_⟩
     refine aE.of (bj ?_) (OLe.cO _) (fun x hx=>hx) (Nat.le_refl _) (Nat.le_refl _)
     simp only[au,go_sem,reduceIte,Nat.reduceEqDiff,Nat.reduceAdd,bx,e1];and_intros<;>first|exact trivial|exact af.refl _|exact af.any _|(refine af.int ?_;omega)
 ·have hj2:j=L.length:=by omega
  subst hj2
  have ig:=ie L.length
  refine Wp.ar (by simp only[go_sem,reduceIte,Nat.reduceEqDiff,Nat.reduceAdd,bx,ax,if_true,if_false,Nat.reduceMul,Nat.reduceLeDiff,ig,lp];exact rfl) ?_
  refine aa.nil ?_
  refine Wp.seq ?_
  refine Wp.cond_false (by simp only[go_sem,reduceIte,Nat.reduceEqDiff,Nat.reduceAdd,bx,ig]) ?_
  refine Wp.exit ?_
  show Wp Tryz.prog 54 R63 _ _
  refine Wp.le (aE.of (bj ?_) (OLe.cO _) (fun x hx=>hx) (Nat.le_refl _) (Nat.le_refl _)) (WR I hrun)
  exact xSb
def nz (L:List Pr):AV:=if fG L=true then .tup [bO (iV L),.int .i64 0] else Al
theorem fU {α:Type} (f:Nat→α) (i:Nat) (a b:α):upd (upd f i a) i b=upd f i b:=by
 funext j
 simp only[upd]
 split<;>rfl
def h63 (L:List Pr):H:=⟨upd (upd (upd (upd (upd ag 0 (some (.cells [.sl 2 (prs L) .any]))) 1 (some (.cells [.sl 3 [] (.exact 0)]))) 2 (some (.map []))) 3 (some (.cells [.sl 3 [] (.exact 0),.mp 2]))) 4 (some (.cells [.ptr 3 0])),5,[],0⟩
theorem IB (L:List Pr):kQ L (h63 L) [] [] 0:=by
 unfold h63
 exact ⟨⟨5,by simp[upd,bV],fun h=>absurd rfl h⟩,by simp[upd,eX],by simp[upd],by simp[upd],by simp[upd],by simp,by simp,by simp,by simp,by simp,by simp,by simp⟩
theorem IC (L:List Pr) (hl:L.length≤4000) (hks:∀p∈L,p.k.length≤140737488355328) (hvs:∀p∈L,p.v.length≤140737488355328):
  ∃h',aM Tryz.prog 54 [.clo (.func 63) [] [.ptr 0 0,.ptr 4 0]] (h63 L) (.int .i64 (if fG L=true then 0 else 4)) h'∧((h63 L).n≤h'.n∧(h63 L).m≤h'.m)∧h'.objs 1=some (.cells [.sl 3 [] (.exact 0)])∧
   (fG L=true→h'.objs 3=some (.cells [.sl 3 (bks (iV L)) .any,.mp 2])∧h'.objs 4=some (.cells [.ptr 3 0])):=by
 have W:=GL L hl hks hvs (h63 L) (IB L)
 unfold QM at W
 cases ho:fG L with
 |true=>
  rw[ho] at W
  simp only[if_true] at W
  obtain ⟨r,h',a,b,c,d,e⟩:=aH.rU (Q:=fun _ h'=>h'.objs 3=some (.cells [.sl 3 (bks (iV L)) .any,.mp 2])∧h'.objs 1=some (.cells [.sl 3 [] (.exact 0)])∧h'.objs 4=some (.cells [.ptr 3 0])) f63 (by simp) (W.mono fun e s' hq=>⟨gC hq.1,_,rfl,hq.2⟩)
  exact ⟨h',Bt rfl rfl (by decide) a,b,d,fun _=>⟨c,e⟩⟩
 |false=>
  rw[ho] at W
  simp only[Bool.false_eq_true,if_false] at W
  obtain ⟨v,h',a,b,rfl,c⟩:=aH.tf (Q:=fun v h'=>v=v4∧h'.objs 1=some (.cells [.sl 3 [] (.exact 0)])) f63 (by simp) (W.mono fun e s' hq=>⟨_,hq.1,rfl,hq.2⟩)
  exact ⟨h',xf rfl rfl (by decide) a,b,c,fun h=>by cases h⟩
theorem xR (L:List Pr) (hl:L.length≤4000) (hks:∀p∈L,p.k.length≤140737488355328) (hvs:∀p∈L,p.v.length≤140737488355328):
  aD Tryz.prog 20 [.sl 2 (prs L) .any] (nz L):=by
 have hpure:aN (nz L)=true:=by
  unfold nz
  split
  ·simp[aN,ay,bB,bO,Av.bw (fun b=>jl b),bks]
  ·rfl
 refine f20.wX (by simp) (by simp[ay,aN,bB,iI]) hpure ?_
 unfold c20
 simp only[C.zz]
 obtain ⟨h',bH,hnm,f1,fok⟩:=IC L hl hks hvs
 refine Wp.ar (by simp only[go_sem,reduceIte,Nat.reduceEqDiff,Nat.reduceAdd,bx,ax,if_true,if_false,Nat.reduceMul,Nat.reduceLeDiff];exact rfl) ?_
 refine aa.nil ?_
 refine Wp.ar (by simp only[go_sem,reduceIte,Nat.reduceEqDiff,Nat.reduceAdd,bx,ax,if_true,if_false,Nat.reduceMul,Nat.reduceLeDiff];exact rfl) ?_
 refine aa.nil ?_
 refine Wp.le (s':=⟨tm [(1,.ptr 0 0),(2,.ptr 1 0),(4,.ptr 4 0)],h63 L⟩) (aE.of (bj ?_) (by rw[fU];exact OLe.cO _) (fun x hx=>hx) (Nat.le_refl _) (Nat.le_refl _)) ?_
 ·exact xSb
 refine Wp.ar (by simp only[go_sem,reduceIte,Nat.reduceEqDiff,Nat.reduceAdd,bx,ax,if_true,if_false,Nat.reduceMul,Nat.reduceLeDiff];exact rfl) ?_
 refine aa.fb xA2 (by simp only[go_sem,reduceIte,Nat.reduceEqDiff,Nat.reduceAdd,bx,List.map];exact ae.refl _) hnm (bH) ?_
 cases ho:fG L with
 |false=>
  have hI:nz L=Al:=by unfold nz;rw[if_neg (by rw[ho];simp)]
  rw[hI]
  simp only[Bool.false_eq_true,if_false]
  refine aa.evF (by simp only[go_sem,reduceIte,Nat.reduceEqDiff,Nat.reduceAdd,bx,ax,if_true,if_false,Nat.reduceMul,Nat.reduceLeDiff];exact rfl) ?_
  refine aa.nil ?_
  refine rf0 f1 ?_
  refine Wp.ret ⟨trivial,_,rfl,.inl ?_⟩
  exact af.tup (ae.cons (af.agg (ae.cons af.cap ae.nil)) (ae.cons (af.refl _) ae.nil))
 |true=>
  have hI:nz L= .tup [bO (iV L),.int .i64 0]:=by unfold nz;rw[if_pos ho]
  obtain ⟨f3,f4⟩:=fok ho
  rw[hI]
  simp only[if_true]
  refine aa.evF (by simp only[go_sem,reduceIte,Nat.reduceEqDiff,Nat.reduceAdd,bx,ax,if_true,if_false,Nat.reduceMul,Nat.reduceLeDiff];exact rfl) ?_
  refine aa.nil ?_
  refine rf0 (cj3 f1 f3 f4) ?_
  refine Wp.ret ⟨trivial,_,rfl,.inl ?_⟩
  exact af.refl _
def cR (B:List UInt8) (a:Nat):Av.Obj:= .cells [.sl 1 (ak B) .any,.int .i64 (a:Nat)]
theorem An (B:List UInt8) (a k:Nat):((ak B).take (a+k)).drop a=ak ((B.drop a).take k):=by
 unfold ak
 rw[←List.map_take,←List.map_drop,List.drop_take,show a+k - a=k by omega]
theorem Dc (id:Nat) (o o':Av.Obj) (n m:Nat):(⟨upd (upd ag id (some o)) id (some o'),n,[],m⟩:H)= .only (upd ag id (some o')) [] n m:=by
 rw[fU];rfl
set_option maxHeartbeats 1000000 in
theorem nA (B:List UInt8) (hB:B.length≤10000000) (a k:Nat) (h:a+k≤B.length):mS Tryz.prog 57 [.ptr 3 0,.int .i64 (k:Nat)] 3 (cR B a) (.str ((B.drop a).take k)) (cR B (a+k)):=by
 intro n m
 refine ⟨m,Nat.le_refl _,aH.mo f57 (by simp) ?_⟩
 unfold c57 cR
 have lb:=aR B
 have g1:IntKind.i64.wrap (((B.length:Nat):Int) - (a:Int))=((B.length - a:Nat):Int):=by rw[IntWalk.i64_in _ (by omega)];omega
 have g2:decide ((k:Int)≤((B.length - a:Nat):Int))=true:=decide_eq_true (by omega)
 have e1:IntKind.i64.wrap ((a:Int)+(k:Int))=((a+k:Nat):Int):=by rw[IntWalk.i64_in _ (by omega)];omega
 have e2:IntKind.i64.wrap (((a+k:Nat):Int) - (k:Int))=(a:Int):=by rw[IntWalk.i64_in _ (by omega)];omega
 have p1:(0:Int)≤(a:Int):=by omega
 have p2:(a:Int)≤((a+k:Nat):Int):=by omega
 have p3:(0:Int)≤((a+k:Nat):Int):=by omega
 have p4:((a+k:Nat):Int)≤(B.length:Int):=by omega
 have cb:=An B a k
 have ub:=bU ((B.drop a).take k)
 refine Wp.ar (by simp only[go_sem,reduceIte,Nat.reduceEqDiff,Nat.reduceAdd,bx,ax,if_true,if_false,Nat.reduceMul,Nat.reduceLeDiff];exact rfl) ?_
 refine aa.nil ?_
 refine Wp.aF (by simp only[go_sem,reduceIte,Nat.reduceEqDiff,Nat.reduceAdd,bx,ax,if_true,if_false,Nat.reduceMul,Nat.reduceLeDiff,lb,g1,g2];exact rfl) ?_
 refine ab.aO xA2 (by simp only[go_sem,reduceIte,Nat.reduceEqDiff,Nat.reduceAdd,bx,List.map];exact ae.refl _) (fw) ?_
 refine ab.evR xA1 ?_
 refine ab.nil ⟨by simp[aI,aq,apart,aB],?_⟩
 refine Wp.ar (by simp only[go_sem,reduceIte,Nat.reduceEqDiff,Nat.reduceAdd,bx,ax,if_true,if_false,Nat.reduceMul,Nat.reduceLeDiff,e1];exact rfl) ?_
 refine aa.nil ?_
 refine Wp.aF (by simp only[go_sem,reduceIte,Nat.reduceEqDiff,Nat.reduceAdd,bx,ax,if_true,if_false,Nat.reduceMul,Nat.reduceLeDiff,lb,e1,e2,p1,p2,p3,p4,cb,ub,Int.toNat_natCast,Option.map_some,true_or];exact rfl) ?_
 refine ab.nil ⟨by simp[aI,aq,apart,aB],?_⟩
 refine Wp.ret ⟨trivial,_,rfl,af.refl _,?_⟩
 exact Dc 3 _ _ n m
theorem nB (B:List UInt8) (hB:B.length≤10000000) (a k:Nat) (ha:a≤B.length) (hk:k≤1000000000000) (h:¬a+k≤B.length):DW Tryz.prog 57 [.ptr 3 0,.int .i64 (k:Nat)] 3 (cR B a) v4:=by
 intro n m
 obtain ⟨v,h',hc,rfl,rfl⟩:=aH.DH (Q:=fun v h'=>v=v4∧h'= .only (upd ag 3 (some (cR B a))) [] n m) (args:=[.ptr 3 0,.int .i64 (k:Nat)]) (h:= .only (upd ag 3 (some (cR B a))) [] n m) f57 (by simp) (by
  unfold c57 cR
  have lb:=aR B
  have g1:IntKind.i64.wrap (((B.length:Nat):Int) - (a:Int))=((B.length - a:Nat):Int):=by rw[IntWalk.i64_in _ (by omega)];omega
  have g2:decide ((k:Int)≤((B.length - a:Nat):Int))=false:=decide_eq_false (by omega)
  refine Wp.ar (by simp only[go_sem,reduceIte,Nat.reduceEqDiff,Nat.reduceAdd,bx,ax,if_true,if_false,Nat.reduceMul,Nat.reduceLeDiff];exact rfl) ?_
  refine aa.nil ?_
  refine Wp.cG (by simp only[go_sem,reduceIte,Nat.reduceEqDiff,Nat.reduceAdd,bx,ax,if_true,if_false,Nat.reduceMul,Nat.reduceLeDiff,lb,g1,g2];exact rfl) (by simp only[go_sem,reduceIte,Nat.reduceEqDiff,Nat.reduceAdd,bx,List.map];exact ae.refl _) dx (⟨by simp[aq,apart,aB],rfl⟩) ?_
  exact ⟨_,rfl,rfl,rfl⟩)
 exact hc
set_option maxHeartbeats 1000000 in
theorem uu (B:List UInt8) (hB:B.length≤10000000) (a w:Nat) (hw:w≤8) (h:a+w≤B.length):mS Tryz.prog 59 [.ptr 3 0,.int .i64 (w:Nat)] 3 (cR B a) (.int .i64 (i64 ((B.drop a).take w))) (cR B (a+w)):=by
 intro n m
 obtain ⟨m1,hm1,ct⟩:=nA B hB a w h n m
 refine ⟨m1+1,by omega,aH.mo f59 (by simp) ?_⟩
 have hl:((B.drop a).take w).length=w:=by rw[List.length_take,List.length_drop];omega
 unfold c59
 simp only[C.zz]
 unfold i64
 generalize (B.drop a).take w=s at*
 have ls:=aR s
 refine Wp.ar (by simp only[go_sem,reduceIte,Nat.reduceEqDiff,Nat.reduceAdd,bx,ax,if_true,if_false,Nat.reduceMul,Nat.reduceLeDiff];exact rfl) ?_
 refine aa.nil ?_
 refine Wp.ar (by simp only[go_sem,reduceIte,Nat.reduceEqDiff,Nat.reduceAdd,bx,ax,if_true,if_false,Nat.reduceMul,Nat.reduceLeDiff];exact rfl) ?_
 refine aa.nil ?_
 refine Wp.seq ?_
 refine Wp.ar (by simp only[go_sem,reduceIte,Nat.reduceEqDiff,Nat.reduceAdd,bx,ax,if_true,if_false,Nat.reduceMul,Nat.reduceLeDiff];exact rfl) ?_
 refine aa.fb (h':= .only (upd ag 3 (some (cR B (a+w)))) [] n m1) xA2 (by simp only[go_sem,reduceIte,Nat.reduceEqDiff,Nat.reduceAdd,bx,List.map];exact ae.refl _) ⟨Nat.le_refl _,hm1⟩ ct ?_
 refine aa.evF (by simp only[go_sem,reduceIte,Nat.reduceEqDiff,Nat.reduceAdd,bx,ax,if_true,if_false,Nat.reduceMul,Nat.reduceLeDiff,ls,hl];exact rfl) ?_
 refine aa.nil ?_
 refine Wp.le (s':=⟨tm [(11,.sl 1 (ak s) .any),(12,.int .i64 w),(5,.int .u64 0),(13,.int .i64 0)],.only (upd ag 3 (some (cR B (a+w)))) [] n (m1+1)⟩) (aE.of (bj ?_) (OLe.cO _) (fun x hx=>by cases hx) (Nat.le_refl _) (Nat.le_refl _)) ?_
 ·simp only[au,go_sem,reduceIte,Nat.reduceEqDiff,Nat.reduceAdd,bx]
  and_intros<;>first|exact trivial|exact af.refl _|exact af.cap
 have hv:∀j,j≤w→val (s.take j)<256^j:=fun j hj=>by
  have:=fJ (s.take j)
  rwa [List.length_take,hl,Nat.min_eq_left hj] at this
 refine Wp.block ?_
 refine Wp.eM [11,12] xA7 (fun j:Nat=>[(5,.int .u64 (val (s.take j))),(13,.int .i64 j)]) (fun j=> .only (upd ag 3 (some (cR B (a+w)))) [] n (m1+1)) (fun j=>j≤w) (fun j=>w - j) 0 (Nat.zero_le _) rfl ?_ ?_
 ·simp only[au,go_sem,reduceIte,Nat.reduceEqDiff,Nat.reduceAdd,bx,List.take_zero];and_intros<;>first|exact trivial|exact af.refl _|exact af.any _|(refine af.int ?_;omega)
 rintro j hj
 by_cases hlt:j<w
 ·have d1:decide ((j:Int)<(w:Int))=true:=decide_eq_true (by omega)
  have h1:(0:Int)≤(j:Int):=by omega
  have h2:(j:Int)<(w:Int):=by omega
  have h2':(j:Int)<(s.length:Int):=by omega
  have h3:j<s.length:=by omega
  have hvj:=hv j hj
  have hpw:(256:Nat)^j≤256^7:=Nat.pow_le_pow_right (by omega) (by omega)
  have e7:(256:Nat)^7=72057594037927936:=by decide
  rw[e7] at hpw
  have hc:=(s.getD j 0).toNat_lt
  have hat:=gq s j .any h3
  unfold byte at hat
  have hs:=pG s j h3
  have o1:=pJ (val (s.take j)) _ (by omega) hc
  generalize val (s.take j)=v at*
  have e1:IntKind.u64.wrap ((v:Int)*2^(min (Int.toNat 8) 64))=((v*256:Nat):Int):=by
   rw[show min (Int.toNat 8) 64=8 from rfl,IntWalk.u64_in _ (by omega)];omega
  have e2:¬(8:Int)<0:=by omega
  generalize (s.getD j 0).toNat=c at*
  have e3:IntKind.u64.wrap (c:Int)=(c:Int):=IntWalk.u64_in _ (by omega)
  have e5:IntKind.i64.wrap ((j:Int)+1)=((j+1:Nat):Int):=by rw[IntWalk.i64_in _ (by omega)];omega
  repeat (first
   |refine aa.nil ?_
   |((first|apply Wp.ar|apply Wp.bI);(· simp only[go_sem,reduceIte,Nat.reduceEqDiff,Nat.reduceAdd,bx,ax,if_true,if_false,Nat.reduceMul,Nat.reduceLeDiff,d1,h1,h2,h2',ls,hl,hat,IntKind.bits,e1,e2,e3,o1,Int.toNat_natCast,and_self];exact rfl))
   |(apply Wp.aJ;(· simp only[go_sem,reduceIte,Nat.reduceEqDiff,Nat.reduceAdd,bx,ax,if_true,if_false,Nat.reduceMul,Nat.reduceLeDiff,d1,h1,h2,h2',ls,hl,hat,IntKind.bits,e1,e2,e3,o1,Int.toNat_natCast,and_self];exact rfl);(· rfl))
   |refine Wp.skip ?_
   |refine Wp.label ?_
   |refine Wp.block ?_
   |refine Wp.exit ?_
   |refine Wp.seq ?_)
  refine ⟨j+1,by omega,by omega,?_⟩
  rw[hs]
  refine aE.of (bj ?_) (OLe.cO _) (fun a ha=>ha) (Nat.le_refl _) (Nat.le_refl _)
  simp only[au,go_sem,reduceIte,Nat.reduceEqDiff,Nat.reduceAdd,bx,e5];and_intros<;>first|exact trivial|exact af.refl _|exact af.any _|(refine af.int ?_;omega)
 ·obtain rfl:j=w:=by omega
  have d1:decide ((j:Int)<(j:Int))=false:=decide_eq_false (by omega)
  have hPt:s.take j=s:=List.take_of_length_le (by omega)
  rw[hPt]
  refine rf0 d1 ?_
  refine Wp.ret ⟨trivial,_,rfl,?_,rfl⟩
  exact af.refl _
theorem fH (B:List UInt8) (hB:B.length≤10000000) (a w:Nat) (ha:a≤B.length) (hw:w≤8) (h:¬a+w≤B.length):DW Tryz.prog 59 [.ptr 3 0,.int .i64 (w:Nat)] 3 (cR B a) v4:=by
 intro n m
 obtain ⟨v,h',hc,rfl,rfl⟩:=aH.DH (Q:=fun v h'=>v=v4∧h'= .only (upd ag 3 (some (cR B a))) [] n m) (args:=[.ptr 3 0,.int .i64 (w:Nat)]) (h:= .only (upd ag 3 (some (cR B a))) [] n m) f59 (by simp) (by
  unfold c59
  simp only[C.zz]
  refine Wp.ar (by simp only[go_sem,reduceIte,Nat.reduceEqDiff,Nat.reduceAdd,bx,ax,if_true,if_false,Nat.reduceMul,Nat.reduceLeDiff];exact rfl) ?_
  refine aa.nil ?_
  refine Wp.ar (by simp only[go_sem,reduceIte,Nat.reduceEqDiff,Nat.reduceAdd,bx,ax,if_true,if_false,Nat.reduceMul,Nat.reduceLeDiff];exact rfl) ?_
  refine aa.nil ?_
  refine Wp.seq ?_
  refine Wp.te (by simp only[go_sem,reduceIte,Nat.reduceEqDiff,Nat.reduceAdd,bx,ax,if_true,if_false];exact rfl) (by simp only[go_sem,reduceIte,Nat.reduceEqDiff,Nat.reduceAdd,bx,List.map];exact ae.refl _) ⟨Nat.le_refl _,Nat.le_refl _⟩ (nB B hB a w ha (by omega) h n m) ?_
  exact ⟨_,rfl,rfl,rfl⟩)
 exact hc
def tx (B:List UInt8) (a k:Nat):Option (List UInt8 × Nat):=if a+k≤B.length then some ((B.drop a).take k,a+k) else none
def nu (B:List UInt8) (a w:Nat):Option (Int × Nat):=if a+w≤B.length then some (i64 ((B.drop a).take w),a+w) else none
def nn (B:List UInt8) (a w:Nat):Option (Nat × Nat):=if a+w≤B.length then some (val ((B.drop a).take w),a+w) else none
def gD (B:List UInt8) (a:Nat):Option (Vs × Nat):=
 (nn B a 1).bind fun x1=>(tx B x1.2 x1.1).bind fun x2=>(nu B x2.2 8).bind fun x3=>(tx B x3.2 11).bind fun x4=>if hdB x4.1=true then (nn B x4.2 2).bind fun x5=>(tx B x5.2 x5.1).bind fun x6=>some (⟨x2.1,x3.1,(hdO x4.1).sz,(hdO x4.1).re,(hdO x4.1).im,(hdO x4.1).g,(hdO x4.1).u,x6.1⟩,x6.2) else none
def vr (B:List UInt8) (a0:Nat):Nat→Option (List Vs × Nat)
 |0=>some ([],a0)
 |j+1=>(vr B a0 j).bind fun x=>(gD B x.2).map fun y=>(x.1++[y.1],y.2)
theorem xS {B:List UInt8} {a0 j:Nat} (h:vr B a0 j=none):∀k,vr B a0 (j+k)=none
 |0=>h
 |k+1=>by
  have:=xS h k
  rw[show j+(k+1)=(j+k)+1 by omega]
  simp only[vr]
  rw[this];rfl
def iq (B:List UInt8) (a:Nat):Option (Bk × Nat):=
 (nn B a 1).bind fun x1=>(tx B x1.2 x1.1).bind fun x2=>(nn B x2.2 1).bind fun x3=>(nn B x3.2 4).bind fun x4=>(vr B x4.2 x4.1).bind fun x5=>some (⟨x2.1,(x3.1:Nat),x5.1⟩,x5.2)
def br (B:List UInt8) (a0:Nat):Nat→Option (List Bk × Nat)
 |0=>some ([],a0)
 |j+1=>(br B a0 j).bind fun x=>(iq B x.2).map fun y=>(x.1++[y.1],y.2)
theorem xU {B:List UInt8} {a0 j:Nat} (h:br B a0 j=none):∀k,br B a0 (j+k)=none
 |0=>h
 |k+1=>by
  have:=xU h k
  rw[show j+(k+1)=(j+k)+1 by omega]
  simp only[br]
  rw[this];rfl
def dp (B:List UInt8):Option (List Bk):=
 (tx B 0 4).bind fun x0=>if x0.1=[65,82,67,72] then (nn B x0.2 2).bind fun x1=>(br B x1.2 x1.1).bind fun x2=>(nn B x2.2 4).bind fun x3=>if x3.1=mq (B.take x2.2)∧x3.2=B.length then (if imE x2.1=0 then some x2.1 else none) else none else none
theorem pX {B s Y:List UInt8} {a:Nat} (h:B.drop a=s++Y) (ha:a≤B.length):tx B a s.length=some (s,a+s.length)∧B.drop (a+s.length)=Y∧a+s.length≤B.length:=by
 have hl:=congrArg List.length h
 rw[List.length_drop,List.length_append] at hl
 have hle:a+s.length≤B.length:=by omega
 refine ⟨?_,?_,hle⟩
 ·unfold tx
  rw[if_pos hle,h,List.take_left]
 ·rw[←List.drop_drop,h,List.drop_left]
theorem pY {B Y:List UInt8} {a w v:Nat} (h:B.drop a=be w v++Y) (ha:a≤B.length) (hv:v<256^w):nn B a w=some (v,a+w)∧B.drop (a+w)=Y∧a+w≤B.length:=by
 obtain ⟨h1,h2,h3⟩:=pX h ha
 rw[aG] at h2 h3
 refine ⟨?_,h2,h3⟩
 unfold nn
 rw[if_pos h3,h,List.take_left' (aG _ _),fT,Nat.mod_eq_of_lt hv]
theorem ID {B Y:List UInt8} {a:Nat} {v:Int} (h:B.drop a=be 8 v.toNat++Y) (ha:a≤B.length) (h0:0≤v) (hv:v<9223372036854775808):nu B a 8=some (v,a+8)∧B.drop (a+8)=Y∧a+8≤B.length:=by
 obtain ⟨h1,h2,h3⟩:=pX h ha
 rw[aG] at h2 h3
 refine ⟨?_,h2,h3⟩
 have e8:(256:Nat)^8=18446744073709551616:=by decide
 unfold nu
 rw[if_pos h3,h,List.take_left' (aG _ _)]
 unfold i64
 rw[fT,Nat.mod_eq_of_lt (by rw[e8];omega),IntWalk.i64_in _ (by omega)]
 have:((v.toNat:Nat):Int)=v:=by omega
 rw[this]
theorem GM {B Y:List UInt8} {a:Nat} {v:Vs} (h:B.drop a=fe v++Y) (ha:a≤B.length) (hv:v.okV=true):gD B a=some (v,a+(fe v).length)∧B.drop (a+(fe v).length)=Y∧a+(fe v).length≤B.length:=by
 obtain ⟨-,l1,l2⟩:=ox hv
 obtain ⟨-,i1,i2⟩:=vZ hv
 have e1:(256:Nat)^1=256:=by decide
 have e2:(256:Nat)^2=65536:=by decide
 have hH:dT v.sz.toNat v.re.toNat v.im.toNat v.g v.u=gS v:=by
  unfold gS cH
  rw[if_pos (CU hv)]
 have hHl:(gS v).length=11:=by rw[←hH];exact da _ _ _ _ _
 obtain ⟨b1,b2⟩:=lK hv
 have hlen:(fe v).length=1+v.o.length+8+11+2+v.b.length:=by
  unfold fe shB
  simp only[List.length_append,aG,da]
 unfold fe shB at h
 rw[hH] at h
 simp only[List.append_assoc] at h
 obtain ⟨p1,q1,r1⟩:=pY h ha (by rw[e1];omega)
 obtain ⟨p2,q2,r2⟩:=pX q1 r1
 obtain ⟨p3,q3,r3⟩:=ID q2 r2 i1 (by omega)
 obtain ⟨p4,q4,r4⟩:=pX q3 r3
 rw[hHl] at p4 q4 r4
 obtain ⟨p5,q5,r5⟩:=pY q4 r4 (by rw[e2];omega)
 obtain ⟨p6,q6,r6⟩:=pX q5 r5
 have hpos:a+1+v.o.length+8+11+2+v.b.length=a+(fe v).length:=by omega
 rw[hpos] at p6 q6 r6
 refine ⟨?_,q6,r6⟩
 unfold gD
 rw[p1]
 simp only[Option.bind_some]
 rw[p2]
 simp only[Option.bind_some]
 rw[p3]
 simp only[Option.bind_some]
 rw[p4]
 simp only[Option.bind_some]
 rw[if_pos b1,p5]
 simp only[Option.bind_some]
 rw[p6]
 simp only[Option.bind_some]
 rw[b2]
theorem kh (l:List Vs) (v:Vs):bR (l++[v])=bR l++fe v:=by simp[bR]
theorem IE {B:List UInt8} {a:Nat} (ha:a≤B.length) (l:List Vs):∀{Y:List UInt8},B.drop a=bR l++Y→(∀v∈l,v.okV=true)→vr B a l.length=some (l,a+(bR l).length)∧B.drop (a+(bR l).length)=Y∧a+(bR l).length≤B.length:=by
 induction l using oz with
 |h0=>intro Y h _;exact ⟨rfl,by simpa [bR] using h,by simpa [bR] using ha⟩
 |h1 l v ih=>
  intro Y h hv
  rw[kh,List.append_assoc] at h
  obtain ⟨p1,q1,r1⟩:=ih h fun u hu=>hv u (by simp[hu])
  obtain ⟨p2,q2,r2⟩:=GM q1 r1 (hv v (by simp))
  have e:a+(bR (l++[v])).length=a+(bR l).length+(fe v).length:=by rw[kh,List.length_append];omega
  rw[e]
  refine ⟨?_,q2,r2⟩
  rw[List.length_append,List.length_cons,List.length_nil,Nat.zero_add]
  simp only[vr]
  rw[p1]
  simp only[Option.bind_some]
  rw[p2];rfl
theorem E9 {B Y:List UInt8} {a:Nat} {b:Bk} (h:B.drop a=aX b++Y) (ha:a≤B.length) (hb:gv b=true) (hl:b.l.length≤1000000):iq B a=some (b,a+(aX b).length)∧B.drop (a+(aX b).length)=Y∧a+(aX b).length≤B.length:=by
 have hn:cq b.n=0:=by
  unfold gv at hb
  simp only[Bool.and_eq_true,decide_eq_true_eq] at hb
  exact hb.1.1
 have hn2:=(eW hn).2.1
 have hs:=FD hb
 have hs2:0≤b.st∧b.st≤2:=by simpa [nU] using hs
 have e1:(256:Nat)^1=256:=by decide
 have e4:(256:Nat)^4=4294967296:=by decide
 have hlen:(aX b).length=1+b.n.length+1+4+(bR b.l).length:=by
  unfold aX shB
  simp only[List.length_append,aG]
 unfold aX shB at h
 simp only[List.append_assoc] at h
 obtain ⟨p1,q1,r1⟩:=pY h ha (by rw[e1];omega)
 obtain ⟨p2,q2,r2⟩:=pX q1 r1
 obtain ⟨p3,q3,r3⟩:=pY q2 r2 (by rw[e1];omega)
 obtain ⟨p4,q4,r4⟩:=pY q3 r3 (by rw[e4];omega)
 obtain ⟨p5,q5,r5⟩:=IE r4 b.l q4 fun v hv=>rl hb hv
 have hpos:a+1+b.n.length+1+4+(bR b.l).length=a+(aX b).length:=by omega
 rw[hpos] at p5 q5 r5
 refine ⟨?_,q5,r5⟩
 unfold iq
 rw[p1]
 simp only[Option.bind_some]
 rw[p2]
 simp only[Option.bind_some]
 rw[p3]
 simp only[Option.bind_some]
 rw[p4]
 simp only[Option.bind_some]
 rw[p5]
 simp only[Option.bind_some]
 have:((b.st.toNat:Nat):Int)=b.st:=by omega
 rw[this]
theorem IF {B:List UInt8} {a:Nat} (ha:a≤B.length) (m:List Bk):∀{Y:List UInt8},B.drop a=(m.map aX).flatten++Y→(∀b∈m,gv b=true∧b.l.length≤1000000)→br B a m.length=some (m,a+((m.map aX).flatten).length)∧B.drop (a+((m.map aX).flatten).length)=Y∧a+((m.map aX).flatten).length≤B.length:=by
 induction m using oz with
 |h0=>intro Y h _;exact ⟨rfl,by simpa using h,by simpa using ha⟩
 |h1 m b ih=>
  intro Y h hv
  have hs:((m++[b]).map aX).flatten=(m.map aX).flatten++aX b:=by simp
  rw[hs,List.append_assoc] at h
  obtain ⟨p1,q1,r1⟩:=ih h fun u hu=>hv u (by simp[hu])
  obtain ⟨p2,q2,r2⟩:=E9 q1 r1 (hv b (by simp)).1 (hv b (by simp)).2
  have e:a+(((m++[b]).map aX).flatten).length=a+((m.map aX).flatten).length+(aX b).length:=by rw[hs,List.length_append];omega
  rw[e]
  refine ⟨?_,q2,r2⟩
  rw[List.length_append,List.length_cons,List.length_nil,Nat.zero_add]
  simp only[br]
  rw[p1]
  simp only[Option.bind_some]
  rw[p2];rfl
theorem wG {m:List Bk} (h:imB m=true) (hf:Few m):dp (dU m)=some m:=by
 have hO:dU m=ft m++be 4 (mq (ft m)):=by unfold dU;rw[if_pos h]
 have hl:m.length≤65535:=by
  unfold imB at h
  simp only[Bool.and_eq_true,decide_eq_true_eq] at h
  exact h.1
 have e2:(256:Nat)^2=65536:=by decide
 have e4:(256:Nat)^4=4294967296:=by decide
 have h0:(dU m).drop 0=[65,82,67,72]++(be 2 m.length++((m.map aX).flatten++be 4 (mq (ft m)))):=by
  rw[List.drop_zero,hO]
  generalize be 4 (mq (ft m))=T
  unfold ft
  simp only[List.append_assoc]
 have hib:(ft m).length=4+2+((m.map aX).flatten).length:=by
  unfold ft
  simp only[List.length_append,aG,List.length_cons,List.length_nil]
 obtain ⟨p0,q0,r0⟩:=pX h0 (Nat.zero_le _)
 simp only[List.length_cons,List.length_nil,Nat.zero_add,Nat.reduceAdd] at p0 q0 r0
 obtain ⟨p1,q1,r1⟩:=pY q0 r0 (by rw[e2];omega)
 obtain ⟨p2,q2,r2⟩:=IF r1 m q1 fun b hb=>⟨jy h hb,hf b hb⟩
 have q2':(dU m).drop (4+2+((m.map aX).flatten).length)=be 4 (mq (ft m))++[]:=by rw[q2,List.append_nil]
 obtain ⟨p3,q3,r3⟩:=pY q2' r2 (by rw[e4];exact xe _)
 have hlen:(dU m).length=4+2+((m.map aX).flatten).length+4:=by rw[hO,List.length_append,aG,hib]
 have ht:(dU m).take (4+2+((m.map aX).flatten).length)=ft m:=by rw[hO,←hib,List.take_left]
 unfold dp
 rw[p0]
 simp only[Option.bind_some]
 rw[if_pos trivial,p1]
 simp only[Option.bind_some]
 rw[p2]
 simp only[Option.bind_some]
 rw[p3]
 simp only[Option.bind_some]
 have hE:imE m=0:=by unfold imE;rw[if_pos h]
 rw[ht,if_pos ⟨rfl,hlen.symm⟩,if_pos hE]
theorem xV:∀(n v k:Nat),be n (k*256^n+v)=be n v
 |0,v,k=>rfl
 |n+1,v,k=>by
  have e:k*256^(n+1)=(k*256)*256^n:=by rw[Nat.pow_succ,Nat.mul_comm (256^n) 256,Nat.mul_assoc]
  rw[be,be,e,xV n v (k*256)]
  congr 1
  have hp:0<256^n:=Nat.pow_pos (by omega)
  rw[Nat.add_comm,Nat.add_mul_div_right _ _ hp]
  apply UInt8.toNat_inj.1
  simp only[UInt8.toNat_ofNat']
  omega
theorem sy:∀(l:List UInt8),be l.length (Batch.val l)=l
 |[]=>rfl
 |c::l=>by
  rw[List.length_cons,be,Arch.iN,xV,sy l]
  congr 1
  have hp:0<256^l.length:=Nat.pow_pos (by omega)
  rw[Nat.add_comm,Nat.add_mul_div_right _ _ hp,Nat.div_eq_of_lt (fJ l),Nat.zero_add]
  exact UInt8.ofNat_toNat
theorem ju {B:List UInt8} {a k:Nat} {x:List UInt8 × Nat} (h:tx B a k=some x):B.drop a=x.1++B.drop x.2∧x.1.length=k∧x.2=a+k∧a+k≤B.length:=by
 unfold tx at h
 split at h
 ·rename_i hc
  cases h
  refine ⟨?_,?_,rfl,hc⟩
  ·simp only
   rw[←List.drop_drop,List.take_append_drop]
  ·simp only[List.length_take,List.length_drop];omega
 ·cases h
theorem gF {B:List UInt8} {a w:Nat} {x:Nat × Nat} (h:nn B a w=some x):B.drop a=be w x.1++B.drop x.2∧x.2=a+w∧a+w≤B.length:=by
 unfold nn at h
 split at h
 ·rename_i hc
  cases h
  refine ⟨?_,rfl,hc⟩
  simp only
  have hl:((B.drop a).take w).length=w:=by rw[List.length_take,List.length_drop];omega
  have:=sy ((B.drop a).take w)
  rw[hl] at this
  rw[this,←List.drop_drop,List.take_append_drop]
 ·cases h
theorem GN {B:List UInt8} {a:Nat} {x:Int × Nat} (h:nu B a 8=some x) (h0:0≤x.1):B.drop a=be 8 x.1.toNat++B.drop x.2∧x.2=a+8∧a+8≤B.length:=by
 unfold nu at h
 split at h
 ·rename_i hc
  cases h
  refine ⟨?_,rfl,hc⟩
  simp only at h0 ⊢
  have hl:((B.drop a).take 8).length=8:=by rw[List.length_take,List.length_drop];omega
  have e8:(256:Nat)^8=18446744073709551616:=by decide
  have h1:=Batch.fJ ((B.drop a).take 8)
  rw[hl,e8] at h1
  have h2:=sy ((B.drop a).take 8)
  rw[hl] at h2
  have h3:(i64 ((B.drop a).take 8)).toNat=Batch.val ((B.drop a).take 8):=by
   unfold i64 at h0 ⊢
   by_cases hs:Batch.val ((B.drop a).take 8)<9223372036854775808
   ·rw[IntWalk.i64_in _ (by omega)];omega
   ·exfalso
    have e:IntKind.i64.wrap ((Batch.val ((B.drop a).take 8):Nat):Int)=((Batch.val ((B.drop a).take 8):Nat):Int) - 18446744073709551616:=by
     have hm:(9223372036854775808:Int)≤((Batch.val ((B.drop a).take 8):Nat):Int)∧((Batch.val ((B.drop a).take 8):Nat):Int)<18446744073709551616:=by omega
     generalize ((Batch.val ((B.drop a).take 8):Nat):Int)=z at hm
     have hz:z%18446744073709551616=z:=Int.emod_eq_of_lt (by omega) (by omega)
     change (if (true&&decide (z%18446744073709551616≥9223372036854775808))=true then z%18446744073709551616 - 18446744073709551616 else z%18446744073709551616)=_
     rw[hz,if_pos (by simp;omega)]
    rw[e] at h0;omega
  rw[h3,h2,←List.drop_drop,List.take_append_drop]
 ·cases h
theorem Fa {B:List UInt8} {a:Nat} {x:Vs × Nat} (h:gD B a=some x) (h0:0≤x.1.id):B.drop a=fe x.1++B.drop x.2∧x.2≤B.length:=by
 unfold gD at h
 obtain ⟨x1,p1,h⟩:=Option.bind_eq_some_iff.1 h
 obtain ⟨x2,p2,h⟩:=Option.bind_eq_some_iff.1 h
 obtain ⟨x3,p3,h⟩:=Option.bind_eq_some_iff.1 h
 obtain ⟨x4,p4,h⟩:=Option.bind_eq_some_iff.1 h
 split at h
 ·rename_i hb
  obtain ⟨x5,p5,h⟩:=Option.bind_eq_some_iff.1 h
  obtain ⟨x6,p6,h⟩:=Option.bind_eq_some_iff.1 h
  cases h
  simp only at h0 ⊢
  obtain ⟨a1,-,-⟩:=gF p1
  obtain ⟨a2,l2,-,-⟩:=ju p2
  obtain ⟨a3,-,-⟩:=GN p3 h0
  obtain ⟨a4,l4,-,-⟩:=ju p4
  obtain ⟨a5,-,-⟩:=gF p5
  obtain ⟨a6,l6,e6,b6⟩:=ju p6
  have hh:dT (hdO x4.1).sz.toNat (hdO x4.1).re.toNat (hdO x4.1).im.toNat (hdO x4.1).g (hdO x4.1).u=x4.1:=by
   unfold hdO
   rw[if_pos hb]
   unfold hdB at hb
   simp only[Bool.and_eq_true,decide_eq_true_eq] at hb
   exact hb.2.2
  refine ⟨?_,by omega⟩
  unfold fe shB
  simp only
  rw[hh,l2,l6,a1,a2,a3,a4,a5,a6]
  simp only[List.append_assoc]
 ·cases h
theorem Dd {B:List UInt8} {a0:Nat} (ha:a0≤B.length):∀(j:Nat) {x:List Vs × Nat},vr B a0 j=some x→(∀v∈x.1,0≤v.id)→B.drop a0=bR x.1++B.drop x.2∧x.2≤B.length
 |0,x,h,_=>by
  simp only[vr,Option.some.injEq] at h
  subst h
  exact ⟨by simp[bR],ha⟩
 |j+1,x,h,hv=>by
  simp only[vr] at h
  obtain ⟨y,hy,h⟩:=Option.bind_eq_some_iff.1 h
  obtain ⟨z,hz,rfl⟩:=Option.map_eq_some_iff.1 h
  obtain ⟨p1,-⟩:=Dd ha j hy fun v h=>hv v (by simp[h])
  obtain ⟨p2,q2⟩:=Fa hz (hv z.1 (by simp))
  refine ⟨?_,q2⟩
  simp only
  rw[p1,p2,kh,List.append_assoc]
theorem sA {B:List UInt8} {a0:Nat}:∀(j:Nat) {x:List Vs × Nat},vr B a0 j=some x→x.1.length=j
 |0,x,h=>by
  simp only[vr,Option.some.injEq] at h
  subst h;rfl
 |j+1,x,h=>by
  simp only[vr] at h
  obtain ⟨y,hy,h⟩:=Option.bind_eq_some_iff.1 h
  obtain ⟨z,hz,rfl⟩:=Option.map_eq_some_iff.1 h
  simp[sA j hy]
theorem wH {B:List UInt8} {a0:Nat}:∀(j:Nat) {x:List Bk × Nat},br B a0 j=some x→x.1.length=j
 |0,x,h=>by
  simp only[br,Option.some.injEq] at h
  subst h;rfl
 |j+1,x,h=>by
  simp only[br] at h
  obtain ⟨y,hy,h⟩:=Option.bind_eq_some_iff.1 h
  obtain ⟨z,hz,rfl⟩:=Option.map_eq_some_iff.1 h
  simp[wH j hy]
theorem De {B:List UInt8} {a:Nat} {x:Bk × Nat} (h:iq B a=some x) (h0:∀v∈x.1.l,0≤v.id):B.drop a=aX x.1++B.drop x.2∧x.2≤B.length:=by
 unfold iq at h
 obtain ⟨x1,p1,h⟩:=Option.bind_eq_some_iff.1 h
 obtain ⟨x2,p2,h⟩:=Option.bind_eq_some_iff.1 h
 obtain ⟨x3,p3,h⟩:=Option.bind_eq_some_iff.1 h
 obtain ⟨x4,p4,h⟩:=Option.bind_eq_some_iff.1 h
 obtain ⟨x5,p5,h⟩:=Option.bind_eq_some_iff.1 h
 cases h
 simp only at h0 ⊢
 obtain ⟨a1,-,-⟩:=gF p1
 obtain ⟨a2,l2,-,-⟩:=ju p2
 obtain ⟨a3,-,-⟩:=gF p3
 obtain ⟨a4,e4,b4⟩:=gF p4
 obtain ⟨a5,b5⟩:=Dd (by omega) _ p5 h0
 have l5:=sA _ p5
 refine ⟨?_,b5⟩
 unfold aX shB
 simp only[Int.toNat_natCast]
 rw[l2,l5,a1,a2,a3,a4,a5]
 simp only[List.append_assoc]
theorem Df {B:List UInt8} {a0:Nat} (ha:a0≤B.length):∀(j:Nat) {x:List Bk × Nat},br B a0 j=some x→(∀b∈x.1,∀v∈b.l,0≤v.id)→B.drop a0=(x.1.map aX).flatten++B.drop x.2∧x.2≤B.length
 |0,x,h,_=>by
  simp only[br,Option.some.injEq] at h
  subst h
  exact ⟨by simp,ha⟩
 |j+1,x,h,hv=>by
  simp only[br] at h
  obtain ⟨y,hy,h⟩:=Option.bind_eq_some_iff.1 h
  obtain ⟨z,hz,rfl⟩:=Option.map_eq_some_iff.1 h
  obtain ⟨p1,-⟩:=Df ha j hy fun b h=>hv b (by simp[h])
  obtain ⟨p2,q2⟩:=De hz (hv z.1 (by simp))
  refine ⟨?_,q2⟩
  have hs:((y.1++[z.1]).map aX).flatten=(y.1.map aX).flatten++aX z.1:=by simp
  simp only
  rw[p1,p2,hs,List.append_assoc]
theorem Ao {B:List UInt8} {m:List Bk} (h:dp B=some m):imB m=true∧dU m=B:=by
 unfold dp at h
 obtain ⟨x0,p0,h⟩:=Option.bind_eq_some_iff.1 h
 split at h
 ·rename_i hm0
  obtain ⟨x1,p1,h⟩:=Option.bind_eq_some_iff.1 h
  obtain ⟨x2,p2,h⟩:=Option.bind_eq_some_iff.1 h
  obtain ⟨x3,p3,h⟩:=Option.bind_eq_some_iff.1 h
  split at h
  ·rename_i hc
   split at h
   ·rename_i hE
    cases h
    have hb:imB x2.1=true:=by
     unfold imE at hE
     split at hE
     ·assumption
     ·cases hE
    refine ⟨hb,?_⟩
    have hids:∀b∈x2.1,∀v∈b.l,0≤v.id:=fun b hx v hv=>(vZ (rl (jy hb hx) hv)).2.1
    obtain ⟨a0,-,-,-⟩:=ju p0
    obtain ⟨a1,e1,b1⟩:=gF p1
    obtain ⟨a2,b2⟩:=Df (by omega) _ p2 hids
    have l2:=wH _ p2
    obtain ⟨a3,e3,b3⟩:=gF p3
    obtain ⟨c1,c2⟩:=hc
    rw[hm0] at a0
    have hB:B=ft x2.1++B.drop x2.2:=by
     have:B=B.drop 0:=rfl
     conv=>lhs;rw[this,a0,a1,a2]
     unfold ft
     rw[l2]
     simp only[List.append_assoc]
    have hlen:(ft x2.1).length=x2.2:=by
     have:=congrArg List.length hB
     rw[List.length_append,List.length_drop] at this
     omega
    have htk:B.take x2.2=ft x2.1:=by
     conv=>lhs;rw[hB]
     rw[←hlen,List.take_left]
    have hdr:B.drop x2.2=be 4 (mq (ft x2.1)):=by
     rw[a3,c1,htk,c2,List.drop_length,List.append_nil]
    unfold dU
    rw[if_pos hb,←hdr]
    exact hB.symm
   ·cases h
  ·cases h
 ·cases h
end Go.Proofs.YtjnoobmaedgooaaGreat.Arch
end
