/- Parts of a proof: a layer of abstract values over the model, the functions' walks, plain laws. -/
import Derived.Deep.CondSized
import Derived.Defers
import Derived.IntWalk
import Derived.KernelRfl
import Derived.Laws.Append
import Derived.Laws.AppendOwn
import Derived.Laws.BytesArg
import Derived.Laws.ComplexArith
import Derived.Laws.Cover3
import Derived.Laws.Entries
import Derived.Laws.FloatBits
import Derived.Laws.IdiomCopy
import Derived.Laws.IdiomStrings
import Derived.Laws.Pointers
import Derived.Laws.Small
import Derived.Laws.Strings
import Derived.Laws.StructEq
import Derived.Lib.Small
import Derived.Lib.Walk
import Derived.MapKept
import Derived.OpenShut
import Derived.Orders
import Derived.OrdersIn
import Derived.ProofKit
import Derived.RangeFuncRecord
import Derived.RangeFuncSeq
import Derived.ReadAgain
import Derived.Recover
import Derived.Scope
import Derived.Shelf.Lay
import Derived.Shelf.SlSortCmp.InsertionK
import Derived.Shelf.SlSortCmp.WholeK
import Derived.SizedLaws
import Derived.Tactics
import Derived.Tactics2
import Derived.Test.YtjnoobmaedgooaaGreatProg
import Derived.Test.YtjnoobmaedgooaaGreatRows
import Derived.WalkKit
import Derived.WalkSmall
import Derived.Test.YtjnoobmaedgooaaGreatABD
set_option linter.unusedSimpArgs false
set_option linter.unusedVariables false
section
set_option maxRecDepth 100000
namespace Go.Proofs.YtjnoobmaedgooaaGreat.Arch
open Go Go.Av Go.Proofs Go.Proofs.YtjnoobmaedgooaaGreat.C Go.Proofs.YtjnoobmaedgooaaGreat.Batch Go.Proofs.YtjnoobmaedgooaaGreat.Desk
def I6 (O:Option (List Pt)):AV:= .tup [.sl 3 (pts (O.getD [])) .any,.int .i64 (if O.isSome then 0 else 4)]
def QDe (O:Option (List Pt)):aA→St→Prop:=fun e s'=>gq e∧∃q,gh [.tmp 2,.tmp 3] s'.t s'.h=some q∧ag q (I6 O)
abbrev QDs (O:Option (List Pt)):aA→St→Prop:=aA.within Tryz.prog 99 mD (QDe O)
theorem dR {N:Nat} {c rest:AC} {l:Nat} {s:St} {Q:aA→St→Prop} (h:dT c l=some (.seq .skip rest)) (hw:Wp Tryz.prog N rest s (aA.within Tryz.prog N c Q)):aA.within Tryz.prog N c Q (.goto l) s:=by
 simp only[aA.within,h]
 exact WpS.step (Wp.seq (Wp.skip hw))
theorem su {t:Tm} {h:H}:QDs none (.goto 3) ⟨t,h⟩:=by
 refine dR wq ?_
 unfold wo
 refine fQ ?_
 refine Wp.ret (show QDe none .ret _ from ⟨trivial,_,rfl,?_⟩)
 exact ag.tup (af.cons ag.cap (af.cons (ag.refl _) af.nil))
theorem wu {t:Tm} {f:Nat→Option Av.Obj} {n m a:Nat} {K:List Nat} {l:List (Nat × AV)} (ha:a∈K) (h:av t l):aF ⟨t,⟨f,n,K,m⟩⟩ ⟨tm l,⟨ah,n,[a],m⟩⟩:=
 aF.of (bk h) (fun a o ho=>by cases ho) (fun x hx=>(List.mem_singleton.1 hx)▸ha) (Nat.le_refl _) (Nat.le_refl _)
set_option maxHeartbeats 4000000 in
theorem CB (s:List UInt8) (hs:s.length≤128) (i:Nat) (out:List Pt) (a n m:Nat) (d:Bool) (hi:i<s.length) (ho:out.length≤i) (ha:a<m) (h2:s.getD i 0=if d then 4 else 3)
  (ih:∀out' a' m',i+1+8≤s.length→out'.length≤i+1+8→a'<m'→Wp Tryz.prog 99 lH ⟨tm [(0,.str s),(4,.sl 3 (pts out') (.own a')),(6,.int .i64 (i+1+8:Nat))],⟨ah,n,[a'],m'⟩⟩ (QDs (stO s out' (i+1+8)))):
  Wp Tryz.prog 99 sr ⟨tm [(0,.str s),(4,.sl 3 (pts out) (.own a)),(6,.int .i64 (i+1:Nat))],⟨ah,n,[a],m⟩⟩ (QDs (stO s out i)):=by
 rw[Es out hi d h2]
 unfold sr
 have w0:IntKind.i64.wrap (((s.length:Nat):Int) - ((i+1:Nat):Int))=((s.length - (i+1):Nat):Int):=by rw[IntWalk.i64_in _ (by omega)];omega
 by_cases h8:s.length - (i+1)<8
 ·have d1:decide (((s.length - (i+1):Nat):Int)<8)=true:=decide_eq_true (by omega)
  rw[if_pos h8]
  refine rf0 (cj2 w0 d1) ?_
  exact Wp.goto (show QDs none (.goto 3) _ from su)
 ·have d1:decide (((s.length - (i+1):Nat):Int)<8)=false:=decide_eq_false (by omega)
  rw[if_neg h8]
  have w2:IntKind.i64.wrap (((i+1:Nat):Int) - 1)=(i:Int):=by rw[IntWalk.i64_in _ (by omega)];omega
  have w3:IntKind.i64.wrap (((i+1:Nat):Int)+8)=((i+1+8:Nat):Int):=by rw[IntWalk.i64_in _ (by omega)];omega
  have x1:(0:Int)≤(i:Int):=by omega
  have x2:(i:Int)<(s.length:Int):=by omega
  have x3:(0:Int)≤((i+1:Nat):Int):=by omega
  have x4:((i+1:Nat):Int)≤((i+1+8:Nat):Int):=by omega
  have x5:((i+1+8:Nat):Int)≤(s.length:Int):=by omega
  have x6:(0:Int)≤((i+1+8:Nat):Int):=by omega
  have hcut:(s.take (i+1+8)).drop (i+1)=(s.drop (i+1)).take 8:=by
   rw[List.drop_take];congr 1;omega
  have q3:=kJ (s.getD i 0) 3 (by decide)
  have hbyte:((3:Nat):Int)=3:=rfl
  rw[hbyte] at q3
  have hb:((s.drop (i+1)).take 8).length=8:=by simp;omega
  have lp:=dJ out
  have e6:(out.length+1)*32≤140737488355328:=by omega
  have e7:out.length+1<4611686018427387904:=by omega
  generalize hbb:(s.drop (i+1)).take 8=b at*
  cases d with
  |false=>
   have c1:=Cj b hb 0
   rw[show decide (s.getD i 0=UInt8.ofNat 3)=true from by rw[h2];rfl] at q3
   have z:((0:UInt8).toNat:Int)=0:=rfl
   rw[z] at c1
   refine rf1 (bM w0 d1 w2 w3 x1 x2 x3 x4 x5 x6 @byte.eq_1 (bM q3 hcut lp e6 e7 @Int.toNat_natCast @List.length_cons.{0} @List.length_nil.{0} @Nat.zero_add @List.mem_singleton.{0} @true_or @and_self)) c1 ?_
   have W:=ih (out++[⟨2,rdN 0 b,[]⟩]) m (m+1) (by omega) (by simp only[List.length_append,List.length_cons,List.length_nil];omega) (by omega)
   refine Wp.goto ?_
   refine dR (Q:=QDe _) lI ?_
   refine Wp.le (wu (a:=m) List.mem_cons_self ?_) W
   simp only[av,go_sem,reduceIte,Nat.reduceEqDiff,Nat.reduceAdd,bx];and_intros<;>first|exact trivial|exact ag.refl _|exact ag.any _|exact ag.of_eq (by rw[jT];rfl)|(refine ag.int ?_;omega)
  |true=>
   have c1:=Cj b hb 255
   rw[show decide (s.getD i 0=UInt8.ofNat 3)=false from by rw[h2];rfl] at q3
   have z:((255:UInt8).toNat:Int)=255:=rfl
   rw[z] at c1
   refine rf1 (bM w0 d1 w2 w3 x1 x2 x3 x4 x5 x6 @byte.eq_1 (bM q3 hcut lp e6 e7 @Int.toNat_natCast @List.length_cons.{0} @List.length_nil.{0} @Nat.zero_add @List.mem_singleton.{0} @true_or @and_self)) c1 ?_
   have W:=ih (out++[⟨3,rdN 255 b,[]⟩]) m (m+1) (by omega) (by simp only[List.length_append,List.length_cons,List.length_nil];omega) (by omega)
   refine Wp.goto ?_
   refine dR (Q:=QDe _) lI ?_
   refine Wp.le (wu (a:=m) List.mem_cons_self ?_) W
   simp only[av,go_sem,reduceIte,Nat.reduceEqDiff,Nat.reduceAdd,bx];and_intros<;>first|exact trivial|exact ag.refl _|exact ag.any _|exact ag.of_eq (by rw[jT];rfl)|(refine ag.int ?_;omega)
set_option maxHeartbeats 4000000 in
theorem EC (s:List UInt8) (hs:s.length≤128):∀(k:Nat),
  (∀(i:Nat) (out:List Pt) (a n m:Nat),s.length - i≤k→i≤s.length→out.length≤i→a<m→
   Wp Tryz.prog 99 lH ⟨tm [(0,.str s),(4,.sl 3 (pts out) (.own a)),(6,.int .i64 i)],⟨ah,n,[a],m⟩⟩ (QDs (stO s out i)))
  ∧(∀(i:Nat) (out:List Pt) (t:List UInt8) (a b n m:Nat),s.length - i≤k→i≤s.length→out.length+1≤i→t.length≤i→a<m→b<m→a≠b→
   Wp Tryz.prog 99 pM ⟨tm [(0,.str s),(4,.sl 3 (pts out) (.own a)),(5,.sl 1 (al t) (.own b)),(6,.int .i64 i)],⟨ah,n,[b,a],m⟩⟩ (QDs (txO s out t i))):=by
 intro k
 induction k with
 |zero=>
  constructor
  ·intro i out a n m hk hi ho ha
   have hi2:i=s.length:=by omega
   subst hi2
   rw[En]
   unfold lH
   have d1:decide (((s.length:Nat):Int)=((s.length:Nat):Int))=true:=decide_eq_true rfl
   refine rf0 d1 ?_
   refine Wp.ret (show QDe (some out) .ret _ from ⟨trivial,_,rfl,?_⟩)
   exact ag.tup (af.cons ag.cap (af.cons (ag.refl _) af.nil))
  ·intro i out t a b n m hk hi ho ht ha hb hab
   have hi2:i=s.length:=by omega
   subst hi2
   rw[Eo]
   unfold pM
   have d1:decide (((s.length:Nat):Int)=((s.length:Nat):Int))=true:=decide_eq_true rfl
   refine rf0 d1 ?_
   exact Wp.goto (show QDs none (.goto 3) _ from su)
 |succ k ih=>
  obtain ⟨ih0,ih1⟩:=ih
  constructor
  ·intro i out a n m hk hi ho ha
   by_cases hc:i<s.length
   ·have d1:decide (((i:Nat):Int)=((s.length:Nat):Int))=false:=decide_eq_false (by omega)
    have w1:IntKind.i64.wrap ((i:Int)+1)=((i+1:Nat):Int):=by rw[IntWalk.i64_in _ (by omega)];omega
    have w2:IntKind.i64.wrap (((i+1:Nat):Int) - 1)=(i:Int):=by rw[IntWalk.i64_in _ (by omega)];omega
    have x1:(0:Int)≤(i:Int):=by omega
    have x2:(i:Int)<(s.length:Int):=by omega
    have q3:=kJ (s.getD i 0) 3 (by decide)
    have q4:=kJ (s.getD i 0) 4 (by decide)
    have q2:=kJ (s.getD i 0) 2 (by decide)
    have hbyte:((3:Nat):Int)=3:=rfl
    have hbyte4:((4:Nat):Int)=4:=rfl
    have hbyte2:((2:Nat):Int)=2:=rfl
    rw[hbyte] at q3
    rw[hbyte4] at q4
    rw[hbyte2] at q2
    unfold lH
    by_cases b2:s.getD i 0=2
    ·rw[Cl out hc b2]
     rw[show decide (s.getD i 0=UInt8.ofNat 2)=true from decide_eq_true b2] at q2
     refine rf0 (cj9 d1 w1 w2 x1 x2 @and_self @byte.eq_1 q2 @Int.toNat_natCast) ?_
     refine Wp.le (aF.tok _ _) ?_
     have W:=ih1 (i+1) out [] a m n (m+1) (by omega) (by omega) (by omega) (by simp) (by omega) (by omega) (by omega)
     refine Wp.goto ?_
     refine dR (Q:=QDe _) lJ ?_
     refine Wp.le (aF.of (bk ?_) (OLe.cP _) (fun a ha=>ha) (Nat.le_refl _) (Nat.le_refl _)) W
     simp only[av,go_sem,reduceIte,Nat.reduceEqDiff,Nat.reduceAdd,bx,al,List.map_nil];and_intros<;>first|exact trivial|exact ag.refl _|exact ag.any _|exact ag.dF rfl|(refine ag.int ?_;omega)
    ·rw[show decide (s.getD i 0=UInt8.ofNat 2)=false from decide_eq_false b2] at q2
     by_cases b3:s.getD i 0=3
     ·rw[show decide (s.getD i 0=UInt8.ofNat 3)=true from decide_eq_true b3] at q3
      refine rf0 (nT d1 w1 w2 x1 x2 @and_self @byte.eq_1 q2 q3 @Int.toNat_natCast) ?_
      have W:=CB s hs i out a n m false hc ho ha (by simpa using b3) (fun out' a' m' h1 h2 h3=>ih0 (i+1+8) out' a' n m' (by omega) h1 h2 h3)
      refine Wp.goto ?_
      refine dR (Q:=QDe _) pN ?_
      refine Wp.le (aF.of (bk ?_) (OLe.cP _) (fun a ha=>ha) (Nat.le_refl _) (Nat.le_refl _)) W
      exact xSb
     ·rw[show decide (s.getD i 0=UInt8.ofNat 3)=false from decide_eq_false b3] at q3
      by_cases b4:s.getD i 0=4
      ·rw[show decide (s.getD i 0=UInt8.ofNat 4)=true from decide_eq_true b4] at q4
       refine rf0 (nU d1 w1 w2 x1 x2 @and_self @byte.eq_1 q2 q3 q4 @Int.toNat_natCast) ?_
       have W:=CB s hs i out a n m true hc ho ha (by simpa using b4) (fun out' a' m' h1 h2 h3=>ih0 (i+1+8) out' a' n m' (by omega) h1 h2 h3)
       refine Wp.goto ?_
       refine dR (Q:=QDe _) pN ?_
       refine Wp.le (aF.of (bk ?_) (OLe.cP _) (fun a ha=>ha) (Nat.le_refl _) (Nat.le_refl _)) W
       exact xSb
      ·rw[show decide (s.getD i 0=UInt8.ofNat 4)=false from decide_eq_false b4] at q4
       rw[Et out hc b2 b3 b4]
       refine rf0 (nU d1 w1 w2 x1 x2 @and_self @byte.eq_1 q2 q3 q4 @Int.toNat_natCast) ?_
       exact Wp.goto (show QDs none (.goto 3) _ from su)
   ·exact ih0 i out a n m (by omega) hi ho ha
  ·intro i out t a b n m hk hi ho ht ha hb hab
   have lp:=dJ out
   have lb:=aS t
   have e6:(out.length+1)*32≤140737488355328:=by omega
   have e7:out.length+1<4611686018427387904:=by omega
   have e3:t.length+1≤140737488355328:=by omega
   have e4:t.length+1<4611686018427387904:=by omega
   by_cases hc:i<s.length
   ·have d1:decide (((i:Nat):Int)=((s.length:Nat):Int))=false:=decide_eq_false (by omega)
    have w1:IntKind.i64.wrap ((i:Int)+1)=((i+1:Nat):Int):=by rw[IntWalk.i64_in _ (by omega)];omega
    have w2:IntKind.i64.wrap (((i+1:Nat):Int) - 1)=(i:Int):=by rw[IntWalk.i64_in _ (by omega)];omega
    have x1:(0:Int)≤(i:Int):=by omega
    have x2:(i:Int)<(s.length:Int):=by omega
    unfold pM
    by_cases hz:s.getD i 0=0
    ·have z0:((0:UInt8).toNat:Int)=0:=rfl
     have zd:decide ((0:Int)=0)=true:=rfl
     by_cases hn:i+1<s.length
     ·have y1:decide (((i+1:Nat):Int)=(s.length:Int))=false:=decide_eq_false (by omega)
      have y2:(0:Int)≤((i+1:Nat):Int):=by omega
      have y3:((i+1:Nat):Int)<(s.length:Int):=by omega
      have v1:IntKind.i64.wrap (((i+1:Nat):Int)+1)=((i+1+1:Nat):Int):=by rw[IntWalk.i64_in _ (by omega)];omega
      have v2:IntKind.i64.wrap (((i+1+1:Nat):Int) - 1)=((i+1:Nat):Int):=by rw[IntWalk.i64_in _ (by omega)];omega
      have p1:=kJ (s.getD (i+1) 0) 1 (by decide)
      have p255:=kJ (s.getD (i+1) 0) 255 (by decide)
      have n1:((1:Nat):Int)=1:=rfl
      have n255:((255:Nat):Int)=255:=rfl
      rw[n1] at p1
      rw[n255] at p255
      rw[Er out t hn hz]
      by_cases b2:s.getD (i+1) 0=255
      ·rw[show decide (s.getD (i+1) 0=UInt8.ofNat 255)=true from decide_eq_true b2] at p255
       rw[if_pos b2]
       refine rf0 (bM d1 w1 w2 x1 x2 @and_self @byte.eq_1 hz z0 zd y1 (bM y2 y3 v1 v2 p255 lb e3 e4 @Int.toNat_natCast @Nat.mul_one @Nat.one_mul (cj6 @true_and @List.length_cons.{0} @List.length_nil.{0} @Nat.zero_add @List.mem_cons.{0} @true_or))) ?_
       have W:=ih1 (i+1+1) out (t++[0]) a m n (m+1) (by omega) (by omega) (by omega) (by simp only[List.length_append,List.length_cons,List.length_nil];omega) (by omega) (by omega) (by omega)
       refine Wp.goto ?_
       refine dR (Q:=QDe _) lJ ?_
       refine Wp.le (aF.of (bk ?_) (OLe.cP _) (fun x hx=>?_) (Nat.le_refl _) (Nat.le_refl _)) W
       ·simp only[av,go_sem,reduceIte,Nat.reduceEqDiff,Nat.reduceAdd,bx];and_intros<;>first|exact trivial|exact ag.refl _|exact ag.any _|exact ag.of_eq (by simp[al,byte])|(refine ag.int ?_;omega)
       ·have hne:decide (¬a=b)=true:=decide_eq_true hab
        simpa [hne] using hx
      ·rw[show decide (s.getD (i+1) 0=UInt8.ofNat 255)=false from decide_eq_false b2] at p255
       rw[if_neg b2]
       by_cases b1:s.getD (i+1) 0=1
       ·rw[show decide (s.getD (i+1) 0=UInt8.ofNat 1)=true from decide_eq_true b1] at p1
        rw[if_pos b1]
        refine rf0 (bM d1 w1 w2 x1 x2 @and_self @byte.eq_1 hz z0 zd y1 (bM y2 y3 v1 v2 p255 p1 lp e6 e7 @bW @Option.map_some.{0,0} (nU @Int.toNat_natCast @Nat.mul_one @Nat.one_mul @true_and @List.length_cons.{0} @List.length_nil.{0} @Nat.zero_add @List.mem_cons.{0} @List.mem_singleton.{0} @true_or @or_true))) ?_
        have W:=ih0 (i+1+1) (out++[⟨1,0,t⟩]) m n (m+1) (by omega) (by omega) (by simp only[List.length_append,List.length_cons,List.length_nil];omega) (by omega)
        refine Wp.goto ?_
        refine dR (Q:=QDe _) lI ?_
        refine Wp.le (wu (a:=m) List.mem_cons_self ?_) W
        simp only[av,go_sem,reduceIte,Nat.reduceEqDiff,Nat.reduceAdd,bx];and_intros<;>first|exact trivial|exact ag.refl _|exact ag.any _|exact ag.of_eq (by rw[jT];rfl)|(refine ag.int ?_;omega)
       ·rw[show decide (s.getD (i+1) 0=UInt8.ofNat 1)=false from decide_eq_false b1] at p1
        rw[if_neg b1]
        refine rf0 (bM d1 w1 w2 x1 x2 @and_self @byte.eq_1 hz z0 zd y1 (cj7 y2 y3 v1 v2 p255 p1 @Int.toNat_natCast)) ?_
        refine Wp.ret (show QDe none .ret _ from ⟨trivial,_,rfl,?_⟩)
        exact ag.tup (af.cons ag.cap (af.cons (ag.refl _) af.nil))
     ·have y1:decide (((i+1:Nat):Int)=(s.length:Int))=true:=decide_eq_true (by omega)
      rw[Ep out t (by omega) hz]
      refine rf0 (bM d1 w1 w2 x1 x2 @and_self @byte.eq_1 hz z0 zd y1 @Int.toNat_natCast) ?_
      exact Wp.goto (show QDs none (.goto 3) _ from su)
    ·have d3:=BZ hz
     rw[Gv out t hc hz]
     refine rf0 (bM d1 w1 w2 x1 x2 @and_self @byte.eq_1 d3 lb e3 e4 (cj9 @Int.toNat_natCast @Nat.mul_one @Nat.one_mul @true_and @List.length_cons.{0} @List.length_nil.{0} @Nat.zero_add @List.mem_cons.{0} @true_or)) ?_
     have W:=ih1 (i+1) out (t++[s.getD i 0]) a m n (m+1) (by omega) (by omega) (by omega) (by simp only[List.length_append,List.length_cons,List.length_nil];omega) (by omega) (by omega) (by omega)
     refine Wp.goto ?_
     refine dR (Q:=QDe _) lJ ?_
     refine Wp.le (aF.of (bk ?_) (OLe.cP _) (fun x hx=>?_) (Nat.le_refl _) (Nat.le_refl _)) W
     ·simp only[av,go_sem,reduceIte,Nat.reduceEqDiff,Nat.reduceAdd,bx];and_intros<;>first|exact trivial|exact ag.refl _|exact ag.any _|exact ag.of_eq (by simp[al,byte])|(refine ag.int ?_;omega)
     ·have hne:decide (¬a=b)=true:=decide_eq_true hab
      simpa [hne] using hx
   ·exact ih1 i out t a b n m (by omega) hi ho ht ha hb hab
theorem CC (s:List UInt8) (hs:s.length≤140737488355328):aE Tryz.prog 156 [.str s] (.tup [.sl 3 (pts (kQ s)) .any,.int .i64 (nX s)]):=by
 refine f156.aD (by simp) rfl (by simp[aO,az,bC,Ck]) ?_
 rw[EB]
 by_cases hb:128<s.length
 ·have g0:decide ((128:Int)<((s.length:Nat):Int))=true:=decide_eq_true (by omega)
  have e1:kQ s=[]:=by unfold kQ;rw[if_pos hb]
  have e2:nX s=5:=by unfold nX;rw[if_pos hb]
  rw[e1,e2]
  have hp:pts []=[]:=rfl
  rw[hp]
  refine Wp.cA xA1 (by trivial) ?_
  refine Wp.scope (WpS.step ?_)
  unfold mD
  refine rf0 g0 ?_
  refine Wp.ret ⟨trivial,_,rfl,?_⟩
  exact ag.tup (af.cons (ag.cap) (af.cons (ag.refl _) af.nil))
 ·have g0:decide ((128:Int)<((s.length:Nat):Int))=false:=decide_eq_false (by omega)
  have e1:kQ s=(stO s [] 0).getD []:=by unfold kQ stO;rw[if_neg hb];simp
  have e2:nX s=if (stO s [] 0).isSome then 0 else 4:=by unfold nX stO;rw[if_neg hb];simp
  rw[e1,e2]
  show Wp Tryz.prog 99 _ _ (QDe (stO s [] 0))
  refine Wp.cA xA1 (by trivial) ?_
  refine Wp.scope (WpS.step ?_)
  show Wp Tryz.prog 99 mD _ (QDs (stO s [] 0))
  have W:=(EC s (by omega) s.length).1 0 [] 0 0 1 (by omega) (by omega) (by simp) (by omega)
  unfold mD
  generalize lH=R at*
  refine rf0 g0 ?_
  refine Wp.le (aF.tok _ _) ?_
  refine Wp.le (s':=⟨tm [(0,.str s),(4,.sl 3 (pts []) (.own 0)),(6,.int .i64 (0:Nat))],⟨ah,0,[0],1⟩⟩) (aF.of (bk ?_) (OLe.cP _) (fun a ha=>ha) (Nat.le_refl _) (Nat.le_refl _)) W
  simp only[av,go_sem,reduceIte,Nat.reduceEqDiff,Nat.reduceAdd,bx,pts,List.map_nil];and_intros<;>first|exact trivial|exact ag.refl _|exact ag.any _|exact ag.dF rfl|(refine ag.int ?_;omega)
def lets:List UInt8:=[98,111,99,117,112,113]
def ry (s:List UInt8) (c:UInt8):Int:=match (List.range s.length).find? fun i=>s.getD i 0 == c with|some i=>(i:Int)|none=> -1
theorem ED (s:List UInt8) (c:UInt8):aE Tryz.prog 219 [.str s,.int .u8 c.toNat] (.int .i64 (ry s c)):=by
 refine f219.aD (by simp) rfl rfl ?_
 unfold HK
 simp only[C.zz]
 have b0:(0:Int)≤((c.toNat:Nat):Int):=by omega
 have b1:((c.toNat:Nat):Int)<256:=by have:=c.toNat_lt;omega
 have b2:UInt8.ofNat c.toNat=c:=UInt8.ofNat_toNat
 refine rf0 (cj5 b0 b1 @and_self @Int.toNat_natCast b2) ?_
 refine aL ?_
 exact ag.refl _
theorem CD (s:List UInt8) (c:UInt8) (hs:1<s.length) (hs2:s.length≤1000000):aE Tryz.prog 200 [.str s,.str [c]] (.int .i64 (ry s c)):=by
 refine f200.aD (by simp) rfl rfl ?_
 unfold HD
 simp only[C.zz]
 have ci:=ED s c
 have d1:decide (((1:Nat):Int)=1)=true:=rfl
 have d0:decide (((1:Nat):Int)=0)=false:=rfl
 have dn:decide ([c]=s)=false:=decide_eq_false (by rintro rfl;simp at hs)
 have x0:(0:Int)<((1:Nat):Int):=by decide
 have l1:[c].length=1:=rfl
 have g0:[c].getD 0 0=c:=rfl
 refine rf1 (nT l1 d1 d0 dn x0 g0 @byte.eq_1 Int.toNat_zero @Int.le_refl @and_self) ci ?_
 refine aL ?_
 exact ag.refl _
theorem EE (s:List UInt8) (c:UInt8) (hs:1<s.length) (hs2:s.length≤1000000):aE Tryz.prog 157 [.str s,.str [c]] (.int .i64 (ry s c)):=by
 refine f157.aD (by simp) rfl rfl ?_
 unfold Hq
 simp only[C.zz]
 have ci:=CD s c hs hs2
 refine vc ci ?_
 refine aL ?_
 exact ag.refl _
def eS (c:UInt8):Int:=ry lets c+1
theorem CE (c:UInt8):eS c=if c=98 then 1 else if c=111 then 2 else if c=99 then 3 else if c=117 then 4 else if c=112 then 5 else if c=113 then 6 else 0:=by
 by_cases h1:c=98
 ·subst h1;decide
 by_cases h2:c=111
 ·subst h2;decide
 by_cases h3:c=99
 ·subst h3;decide
 by_cases h4:c=117
 ·subst h4;decide
 by_cases h5:c=112
 ·subst h5;decide
 by_cases h6:c=113
 ·subst h6;decide
 rw[if_neg h1,if_neg h2,if_neg h3,if_neg h4,if_neg h5,if_neg h6]
 have hf:(List.range lets.length).find? (fun i=>lets.getD i 0 == c)=none:=by
  rw[List.find?_eq_none]
  intro i hi
  have:i<6:=by simpa [lets] using hi
  obtain rfl|rfl|rfl|rfl|rfl|rfl:i=0∨i=1∨i=2∨i=3∨i=4∨i=5:=by omega
  all_goals simp[lets,beq_iff_eq]
  ·exact fun h=>h1 h.symm
  ·exact fun h=>h2 h.symm
  ·exact fun h=>h3 h.symm
  ·exact fun h=>h4 h.symm
  ·exact fun h=>h5 h.symm
  ·exact fun h=>h6 h.symm
 unfold eS ry
 rw[hf];rfl
theorem EF (n:Int):IntKind.i64.wrap n<9223372036854775808:=by
 rw[IntKind.wrap_i64];omega
theorem CG (m:UInt8) (b:List UInt8):rdN m b<9223372036854775808:=EF _
def xH (p:Pt):Prop:=p.n<9223372036854775808
theorem GB {s:List UInt8} {p:Pt} {n:Nat} (h:rdP s=some (p,n)):xH p:=by
 cases s with
 |nil=>simp[rdP] at h
 |cons a r=>
  simp only[rdP] at h
  split at h
  ·obtain ⟨x,hx,he⟩:=Option.map_eq_some_iff.1 h
   simp only[Prod.mk.injEq] at he
   rw[←he.1];show (0:Int)<_;decide
  ·split at h
   ·split at h
    ·cases h
    ·simp only[Option.some.injEq,Prod.mk.injEq] at h
     rw[←h.1];exact CG _ _
   ·split at h
    ·split at h
     ·cases h
     ·simp only[Option.some.injEq,Prod.mk.injEq] at h
      rw[←h.1];exact CG _ _
    ·cases h
theorem xI:∀{k:Nat} {s:List UInt8} {l:List Pt},nW k s=some l→(∀p∈l,xH p)∧l.length≤s.length
 |0,s,l,h=>by
  simp only[nW] at h
  split at h
  ·simp only[Option.some.injEq] at h;subst h;exact ⟨by simp,by simp⟩
  ·cases h
 |k+1,s,l,h=>by
  simp only[nW] at h
  split at h
  ·simp only[Option.some.injEq] at h;subst h;exact ⟨by simp,by simp⟩
  ·cases hp:rdP s with
   |none=>rw[hp] at h;cases h
   |some x=>
    obtain ⟨p,n⟩:=x
    rw[hp] at h
    obtain ⟨l',h1,rfl⟩:=Option.map_eq_some_iff.1 h
    obtain ⟨i1,i2⟩:=xI h1
    have hn:=si hp
    have hd:(s.drop n).length=s.length - n:=List.length_drop
    refine ⟨fun q hq=>?_,by simp only[List.length_cons];omega⟩
    rcases List.mem_cons.1 hq with rfl|hq
    ·exact GB hp
    ·exact i1 q hq
theorem xJ (s:List UInt8):(∀p∈kQ s,xH p)∧(kQ s).length≤128:=by
 unfold kQ
 split
 ·exact ⟨by simp,by simp⟩
 ·unfold qd
  cases h:nW s.length s with
  |none=>exact ⟨by simp,by simp⟩
  |some l=>
   obtain ⟨h1,h2⟩:=xI h
   exact ⟨h1,by show l.length≤128;omega⟩
def pO:List UInt8→Int
 |[c]=>eS c
 |_=>0
def jr (l:List Pt):Ky:=
 let k:=pO (l.getD 0 default).s
 let r:=l.drop 2
 if k≠1∧r≠[] then ⟨k,(l.getD 1 default).s,(r.getD 0 default).s,(r.drop 1).map Pt.n⟩ else ⟨k,(l.getD 1 default).s,[],r.map Pt.n⟩
theorem tX {l:List Pt} (h:∀p∈l,xH p) (hl:l.length≤128):(jr l).fit:=by
 have key:∀(r:List Pt),(∀p∈r,p∈l)→r.length≤128→(r.map Pt.n).length≤1000000∧∀n∈r.map Pt.n,n<9223372036854775808:=fun r hr hl=>by
  refine ⟨by simp;omega,fun n hn=>?_⟩
  obtain ⟨p,hp,rfl⟩:=List.mem_map.1 hn
  exact h p (hr p hp)
 unfold jr
 simp only
 split
 ·exact key ((l.drop 2).drop 1) (fun p hp=>List.mem_of_mem_drop (List.mem_of_mem_drop hp)) (by simp only[List.length_drop];omega)
 ·exact key (l.drop 2) (fun p hp=>List.mem_of_mem_drop hp) (by simp only[List.length_drop];omega)
def ka (s:List UInt8) (l:List Pt):Bool:=decide (2≤l.length)&&decide (iN (jr l)=0)&&decide (ft (jr l)=s)
def CH:Ky:=⟨0,[],[],[]⟩
def eJ (s:List UInt8):Bool:=decide (nX s=0)&&ka s (kQ s)
def bq (s:List UInt8):Ky:=if eJ s then jr (kQ s) else CH
def wv (s:List UInt8):Int:=if eJ s then 0 else 4
theorem wx (c:UInt8):0≤eS c∧eS c≤6:=by
 rw[CE]
 repeat' split
 all_goals decide
theorem z6 {x:Ky} (h:x.k=0):iN x=2:=by
 have:iM x=false:=by
  unfold iM
  have:fN x.k= -1:=by rw[h];rfl
  rw[this]
  have:decide (((x.ns.length:Nat):Int)= -1)=false:=decide_eq_false (by omega)
  rw[this];simp
 unfold iN
 rw[this];rfl
theorem CI (l:List Pt):(jr l).k=pO (l.getD 0 default).s:=by
 unfold jr
 simp only
 split<;>rfl
theorem z7 {s:List UInt8} {l:List Pt} (h:pO (l.getD 0 default).s=0):ka s l=false:=by
 unfold ka
 rw[z6 (by rw[CI,h])]
 simp
def hdA:AC→AC
 | .seq a _=>a
 |c=>c
def tlA:AC→AC
 | .seq _ b=>b
 |c=>c
def oD:AC:=tlA (tlA (tlA (tlA (tlA (tlA pe)))))
def kyO (k:Int) (b o:List UInt8) (v:AV):Nat→Option Av.Obj:=upd (upd ah 0 (some (.cells [.int .i64 0,.str [],.str [],.sl 1 [] (.exact 0)]))) 1 (some (.cells [.int .i64 k,.str b,.str o,v]))
def QK (s:List UInt8) (x:Ky):aA→St→Prop:=fun e s'=>gq e∧∃q,gh [.cell 2 (some 4),.tmp 3] s'.t s'.h=some q∧ag q (.tup [eR (if (decide (iN x=0)&&decide (ft x=s))=true then x else CH),.int .i64 (if (decide (iN x=0)&&decide (ft x=s))=true then 0 else 4)])
theorem wy (s:List UInt8) (k:Int) (b o:List UInt8) (r:List Pt) (hr:r.length≤128) (hf:(⟨k,b,o,r.map Pt.n⟩:Ky).fit):
  Wp Tryz.prog 88 oD ⟨tm [(0,.str s),(2,.ptr 0 0),(4,.sl 3 (pts r) .any),(6,.ptr 1 0)],⟨kyO k b o (.sl 1 [] (.exact 0)),2,[],0⟩⟩ (QK s ⟨k,b,o,r.map Pt.n⟩):=by
 have lp:=dJ r
 have ck:=Fz _ hf
 have hno:eR CH= .agg [.int .i64 0,.str [],.str [],.sl 1 [] .any]:=rfl
 have hen:eR ⟨k,b,o,r.map Pt.n⟩= .agg [.int .i64 k,.str b,.str o,.sl 1 (ints (r.map Pt.n)) .any]:=rfl
 unfold QK
 rw[hen] at ck
 generalize iN ⟨k,b,o,r.map Pt.n⟩=ke at*
 generalize ft ⟨k,b,o,r.map Pt.n⟩=ks at*
 unfold oD pe kyO
 simp only[tlA]
 refine rf0 lp ?_
 refine Wp.le (aF.tok _ _) ?_
 refine Wp.le (s':=⟨tm [(0,.str s),(2,.ptr 0 0),(6,.ptr 1 0),(60,.sl 3 (pts r) .any),(61,.int .i64 r.length),(62,.int .i64 (0:Nat))],⟨kyO k b o (.sl 1 (ints []) (.own 0)),2,[0],1⟩⟩) (aF.of (bk ?_) (OLe.upd (OLe.cP _) (af.cons (ag.refl _) (af.cons (ag.refl _) (af.cons (ag.refl _) (af.cons (ag.dF rfl) af.nil))))) (fun a ha=>ha) (Nat.le_refl _) (Nat.le_refl _)) ?_
 ·exact xSb
 refine Wp.eN [0,2,6,60,61] xA7 (fun j:Nat × Nat × Nat × Nat=>[(62,.int .i64 (j.1:Nat))]) (fun j=>⟨kyO k b o (.sl 1 (ints ((r.take j.1).map Pt.n)) (.own j.2.1)),j.2.2.1,[j.2.1],j.2.2.2⟩) (fun j=>j.1≤r.length∧2≤j.2.2.1∧j.2.1<j.2.2.2) (fun j=>r.length - j.1) (0,0,2,1) ⟨Nat.zero_le _,by decide,by decide⟩ rfl ?_ ?_
 ·exact xSb
 rintro ⟨j,tk,n,m⟩ ⟨hj,hn2,htm⟩
 simp only at hj hn2 htm
 have n0:¬(0=n):=by omega
 have n1:¬(n=0):=by omega
 have n2:¬(1=n):=by omega
 have n3:¬(n=1):=by omega
 by_cases hc:j<r.length
 ·obtain ⟨g1,h2,h3,e1⟩:=ixF (j:=j) (n:=r.length) (by omega) (by omega)
  have hat:=iL r j .any hc
  have hsn:ints ((r.take (j+1)).map Pt.n)=ints ((r.take j).map Pt.n)++[.int .i64 (r.getD j default).n]:=by
   have e:r.getD j default=r[j]:=by simp[List.getD,List.getElem?_eq_getElem hc]
   rw[e,List.take_succ_eq_append_getElem hc,List.map_append]
   simp only[ints,List.map_append,List.map_cons,List.map_nil]
  have li:(ints ((r.take j).map Pt.n)).length=j:=by rw[fE];simp;omega
  have e6:(j+1)*8≤140737488355328:=by omega
  have e7:j+1<4611686018427387904:=by omega
  unfold dI at hat
  unfold kyO
  refine rf0 (bM g1 h2 h3 lp hat n0 n1 n2 n3 li e6 (cj8 e7 @Int.toNat_natCast @and_self @List.length_cons.{0} @List.length_nil.{0} @Nat.zero_add @List.mem_singleton.{0} @true_or)) ?_
  refine ⟨(j+1,m,n+1,m+1),⟨hc,by simp only;omega,by simp⟩,Nat.sub_lt_sub_left hc (Nat.lt_succ_self _),?_⟩
  rw[hsn]
  refine aF.of (bk ?_) (fun a u hu=>⟨u,?_,cK.refl _⟩) (fun x hx=>by simpa using hx) (Nat.le_refl _) (Nat.le_refl _)
  ·simp only[av,go_sem,reduceIte,Nat.reduceEqDiff,Nat.reduceAdd,bx,e1];and_intros<;>first|exact trivial|exact ag.refl _|exact ag.any _|(refine ag.int ?_;omega)
  ·simp only[upd,ah,kyO] at hu ⊢
   by_cases a1:a=1
   ·subst a1;simpa using hu
   ·by_cases a0:a=0
    ·subst a0;simpa [n0] using hu
    ·simp[a1,a0] at hu
 ·have hj2:j=r.length:=by omega
  subst hj2
  have g1:=ixE (r.length)
  rw[List.take_length]
  unfold kyO
  have hv:ag (.agg [.int .i64 k,.str b,.str o,.sl 1 (ints (r.map Pt.n)) (.own tk)]) (.agg [.int .i64 k,.str b,.str o,.sl 1 (ints (r.map Pt.n)) .any]):=ag.agg (af.cons (ag.refl _) (af.cons (ag.refl _) (af.cons (ag.refl _) (af.cons ag.cap af.nil))))
  have hz:ag (.agg [.int .i64 0,.str [],.str [],.sl 1 [] (.exact 0)]) (.agg [.int .i64 0,.str [],.str [],.sl 1 [] .any]):=ag.agg (af.cons (ag.refl _) (af.cons (ag.refl _) (af.cons (ag.refl _) (af.cons ag.cap af.nil))))
  cases dk:decide (ke=0) with
  |true=>
   cases ds:decide (ks=s) with
   |true=>
    repeat (first
     |refine ab.nil ?_
     |((first|apply Wp.au|apply Wp.bJ|((first
       |(refine ab.aP ?_ ?_ (ck) ?_;(· simp only[go_sem,reduceIte,Nat.reduceEqDiff,Nat.reduceAdd,bx]);(· simp only[go_sem,reduceIte,Nat.reduceEqDiff,Nat.reduceAdd,bx,List.map,ax,if_true,if_false,Nat.reduceMul,Nat.reduceLeDiff,g1,dk,ds];exact af.cons hv af.nil)));apply ab.evF));(· simp only[go_sem,reduceIte,Nat.reduceEqDiff,Nat.reduceAdd,bx,ax,if_true,if_false,Nat.reduceMul,Nat.reduceLeDiff,g1,dk,ds];exact rfl))
     |(apply Wp.aK;(· simp only[go_sem,reduceIte,Nat.reduceEqDiff,Nat.reduceAdd,bx,ax,if_true,if_false,Nat.reduceMul,Nat.reduceLeDiff,g1,dk,ds];exact rfl);(· rfl))
     |refine Wp.skip ?_
     |refine Wp.label ?_
     |refine Wp.block ?_
     |refine Wp.exit ?_
     |refine Wp.seq ?_)
    refine aL ?_
    rw[hen]
    exact ag.tup (af.cons hv (af.cons (ag.refl _) af.nil))
   |false=>
    repeat (first
     |refine ab.nil ?_
     |((first|apply Wp.au|apply Wp.bJ|((first
       |(refine ab.aP ?_ ?_ (ck) ?_;(· simp only[go_sem,reduceIte,Nat.reduceEqDiff,Nat.reduceAdd,bx]);(· simp only[go_sem,reduceIte,Nat.reduceEqDiff,Nat.reduceAdd,bx,List.map,ax,if_true,if_false,Nat.reduceMul,Nat.reduceLeDiff,g1,dk,ds];exact af.cons hv af.nil)));apply ab.evF));(· simp only[go_sem,reduceIte,Nat.reduceEqDiff,Nat.reduceAdd,bx,ax,if_true,if_false,Nat.reduceMul,Nat.reduceLeDiff,g1,dk,ds];exact rfl))
     |(apply Wp.aK;(· simp only[go_sem,reduceIte,Nat.reduceEqDiff,Nat.reduceAdd,bx,ax,if_true,if_false,Nat.reduceMul,Nat.reduceLeDiff,g1,dk,ds];exact rfl);(· rfl))
     |refine Wp.skip ?_
     |refine Wp.label ?_
     |refine Wp.block ?_
     |refine Wp.exit ?_
     |refine Wp.seq ?_)
    refine aL ?_
    rw[hno]
    exact ag.tup (af.cons hz (af.cons (ag.refl _) af.nil))
  |false=>
   repeat (first
    |refine ab.nil ?_
    |((first|apply Wp.au|apply Wp.bJ|((first
      |(refine ab.aP ?_ ?_ (ck) ?_;(· simp only[go_sem,reduceIte,Nat.reduceEqDiff,Nat.reduceAdd,bx]);(· simp only[go_sem,reduceIte,Nat.reduceEqDiff,Nat.reduceAdd,bx,List.map,ax,if_true,if_false,Nat.reduceMul,Nat.reduceLeDiff,g1,dk];exact af.cons hv af.nil)));apply ab.evF));(· simp only[go_sem,reduceIte,Nat.reduceEqDiff,Nat.reduceAdd,bx,ax,if_true,if_false,Nat.reduceMul,Nat.reduceLeDiff,g1,dk];exact rfl))
    |(apply Wp.aK;(· simp only[go_sem,reduceIte,Nat.reduceEqDiff,Nat.reduceAdd,bx,ax,if_true,if_false,Nat.reduceMul,Nat.reduceLeDiff,g1,dk];exact rfl);(· rfl))
    |refine Wp.skip ?_
    |refine Wp.label ?_
    |refine Wp.block ?_
    |refine Wp.exit ?_
    |refine Wp.seq ?_)
   refine aL ?_
   rw[if_neg (by simp),if_neg (by simp),hno]
   exact ag.tup (af.cons hz (af.cons (ag.refl _) af.nil))
theorem CJ:pe= .seq (hdA pe) (.seq (hdA (tlA pe)) (.seq (hdA (tlA (tlA pe))) (.seq (hdA (tlA (tlA (tlA pe)))) (.seq (hdA (tlA (tlA (tlA (tlA pe))))) (.seq (hdA (tlA (tlA (tlA (tlA (tlA pe)))))) oD))))):=rfl
theorem tY (l:List Pt) (k:Nat):(pts l).drop k=pts (l.drop k):=by simp[pts]
theorem EG (s:List UInt8) (hs:s.length≤140737488355328):aE Tryz.prog 110 [.str s] (.tup [eR (bq s),.int .i64 (wv s)]):=by
 refine f110.aD (by simp) rfl (by simp[aO,az,gy]) ?_
 rw[CJ]
 have PR:=wy s
 generalize oD=R at*
 unfold pe
 simp only[C.zz]
 simp only[hdA,tlA]
 have cd:=CC s hs
 obtain ⟨hin,hl⟩:=xJ s
 have hP:eJ s=(decide (nX s=0)&&ka s (kQ s)):=rfl
 have hO:bq s=if eJ s then jr (kQ s) else CH:=rfl
 have hE:wv s=if eJ s then 0 else 4:=rfl
 rw[hO,hE]
 rw[hP]
 clear hO hE hP
 generalize kQ s=l at*
 have lp:=dJ l
 have i3:ints []=[]:=rfl
 have hno:eR CH= .agg [.int .i64 0,.str [],.str [],.sl 1 [] .any]:=rfl
 by_cases he:nX s=0
 ·have d1:decide (nX s=0)=true:=decide_eq_true he
  by_cases h2:2≤l.length
  ·have x0:(0:Int)<((l.length:Nat):Int):=by omega
   have x1:(1:Int)<((l.length:Nat):Int):=by omega
   have d2:decide (((l.length:Nat):Int)<2)=false:=decide_eq_false (by omega)
   have a0:=iL l 0 .any (by omega)
   have a1:=iL l 1 .any (by omega)
   unfold dI at a0 a1
   by_cases h1:(l.getD 0 default).s.length=1
   ·obtain ⟨c,hc⟩:∃c,(l.getD 0 default).s=[c]:=by
     generalize (l.getD 0 default).s=t at*
     match t with
     |[]=>simp at h1
     |[c]=>exact ⟨c,rfl⟩
     |_::_::_=>simp at h1
    have l1:([c].length:Nat)=1:=rfl
    have d3:decide (((1:Nat):Int)=1)=true:=rfl
    have cx:aE Tryz.prog 157 [.str [98,111,99,117,112,113],.str [c]] (.int .i64 (eS c - 1)):=by
     have:=EE lets c (by decide) (by decide)
     have e:eS c - 1=ry lets c:=by unfold eS;omega
     rw[e];exact this
    obtain ⟨r1,r2⟩:=wx c
    have w1:IntKind.i64.wrap (eS c - 1+1)=eS c:=by rw[IntWalk.i64_in _ (by omega)];omega
    have hck:=CI l
    have hkc:pO (l.getD 0 default).s=eS c:=by rw[hc];rfl
    rw[hc] at a0
    have t1:Int.toNat 1=1:=rfl
    have t2:Int.toNat 2=2:=rfl
    have x2:(0:Int)≤1:=by decide
    have x3:(0:Int)≤2:=by decide
    have x4:(2:Int)≤((l.length:Nat):Int):=by omega
    have hcut:((pts l).take l.length).drop 2=pts (l.drop 2):=by rw[←lp,List.take_length,tY]
    have hgd:ka s l=(decide (iN (jr l)=0)&&decide (ft (jr l)=s)):=by
     unfold ka;rw[decide_eq_true h2,Bool.true_and]
    rw[hgd,d1,Bool.true_and]
    have hfit:=tX hin hl
    have hl2:(l.drop 2).length=l.length - 2:=List.length_drop
    have lr:=dJ (l.drop 2)
    by_cases hk1:eS c=1
    ·have hC:jr l=⟨eS c,(l.getD 1 default).s,[],(l.drop 2).map Pt.n⟩:=by
      unfold jr
      simp only[hkc,hk1,ne_eq,not_true,false_and,if_false]
     rw[hC] at hfit ⊢
     have dk:decide (eS c=1)=true:=decide_eq_true hk1
     have W:=PR (eS c) (l.getD 1 default).s [] (l.drop 2) (by omega) hfit
     refine rn2 (bM d1 d2 d3 x0 x1 x2 x3 x4 t1 t2 l1 (nT a0 a1 lp w1 dk hcut Int.toNat_zero @Int.le_refl @and_self @Int.toNat_natCast)) cd cx ?_
     show Wp Tryz.prog 88 R _ _
     refine Wp.le (aF.of (bk ?_) (fun a u hu=>⟨u,?_,cK.refl _⟩) (fun x hx=>hx) (Nat.le_refl _) (Nat.le_refl _)) W
     ·simp only[av,go_sem,reduceIte,Nat.reduceEqDiff,Nat.reduceAdd,bx,hcut];and_intros<;>first|exact trivial|exact ag.refl _|exact ag.any _|(refine ag.int ?_;omega)
     ·simp only[upd,ah,kyO] at hu ⊢
      by_cases a1:a=1
      ·subst a1;simpa using hu
      ·by_cases a0:a=0
       ·subst a0;simpa using hu
       ·simp[a1,a0] at hu
    ·have dk:decide (eS c=1)=false:=decide_eq_false hk1
     by_cases hr0:l.drop 2=[]
     ·have hC:jr l=⟨eS c,(l.getD 1 default).s,[],(l.drop 2).map Pt.n⟩:=by
       unfold jr
       simp only[hkc,hr0,ne_eq,not_true,and_false,if_false]
      rw[hC] at hfit ⊢
      have W:=PR (eS c) (l.getD 1 default).s [] (l.drop 2) (by omega) hfit
      have hl0:(l.drop 2).length=0:=by rw[hr0];rfl
      have z0:decide ((0:Int)<(((l.drop 2).length:Nat):Int))=false:=decide_eq_false (by omega)
      refine rn2 (bM d1 d2 d3 x0 x1 x2 x3 x4 t1 t2 l1 (bM a0 a1 lp w1 dk hcut lr z0 Int.toNat_zero @Int.le_refl @and_self @Int.toNat_natCast)) cd cx ?_
      show Wp Tryz.prog 88 R _ _
      refine Wp.le (aF.of (bk ?_) (fun a u hu=>⟨u,?_,cK.refl _⟩) (fun x hx=>hx) (Nat.le_refl _) (Nat.le_refl _)) W
      ·simp only[av,go_sem,reduceIte,Nat.reduceEqDiff,Nat.reduceAdd,bx,hcut];and_intros<;>first|exact trivial|exact ag.refl _|exact ag.any _|(refine ag.int ?_;omega)
      ·simp only[upd,ah,kyO] at hu ⊢
       by_cases a1:a=1
       ·subst a1;simpa using hu
       ·by_cases a0:a=0
        ·subst a0;simpa using hu
        ·simp[a1,a0] at hu
     ·have hC:jr l=⟨eS c,(l.getD 1 default).s,((l.drop 2).getD 0 default).s,((l.drop 2).drop 1).map Pt.n⟩:=by
       unfold jr
       simp only[hkc,hr0,hk1,ne_eq,not_false_eq_true,and_true,if_true]
      rw[hC] at hfit ⊢
      have hpos:=List.length_pos_iff.2 hr0
      have W:=PR (eS c) (l.getD 1 default).s ((l.drop 2).getD 0 default).s ((l.drop 2).drop 1) (by rw[List.length_drop];omega) hfit
      have z0:decide ((0:Int)<(((l.drop 2).length:Nat):Int))=true:=decide_eq_true (by omega)
      have x5:(0:Int)<(((l.drop 2).length:Nat):Int):=by omega
      have x6:(1:Int)≤(((l.drop 2).length:Nat):Int):=by omega
      have a2:=iL (l.drop 2) 0 .any hpos
      unfold dI at a2
      have hcut2:((pts (l.drop 2)).take (l.drop 2).length).drop 1=pts ((l.drop 2).drop 1):=by rw[←lr,List.take_length,tY]
      generalize l.drop 2=r at*
      refine rn2 (bM d1 d2 d3 x0 x1 x2 x3 x4 x5 x6 t1 (bM t2 l1 a0 a1 a2 lp w1 dk hcut hcut2 lr (cj5 z0 Int.toNat_zero @Int.le_refl @and_self @Int.toNat_natCast))) cd cx ?_
      show Wp Tryz.prog 88 R _ _
      refine Wp.le (aF.of (bk ?_) (fun a u hu=>⟨u,?_,cK.refl _⟩) (fun x hx=>hx) (Nat.le_refl _) (Nat.le_refl _)) W
      ·simp only[av,go_sem,reduceIte,Nat.reduceEqDiff,Nat.reduceAdd,bx,hcut2];and_intros<;>first|exact trivial|exact ag.refl _|exact ag.any _|(refine ag.int ?_;omega)
      ·simp only[upd,ah,kyO] at hu ⊢
       by_cases a1:a=1
       ·subst a1;simpa using hu
       ·by_cases a0:a=0
        ·subst a0;simpa using hu
        ·simp[a1,a0] at hu
   ·have d3:decide ((((l.getD 0 default).s.length:Nat):Int)=1)=false:=decide_eq_false (by omega)
    have hk:pO (l.getD 0 default).s=0:=by
     generalize (l.getD 0 default).s=t at*
     match t with
     |[]=>rfl
     |[c]=>simp at h1
     |_::_::_=>rfl
    have hg:ka s l=false:=z7 hk
    rw[hg,Bool.and_false,if_neg (by simp),if_neg (by simp),hno]
    refine rf1 (cj9 d1 d2 d3 x0 a0 lp Int.toNat_zero @Int.le_refl @and_self) cd ?_
    refine aL ?_
    exact ag.tup (af.cons (ag.agg (af.cons (ag.refl _) (af.cons (ag.refl _) (af.cons (ag.refl _) (af.cons ag.cap af.nil))))) (af.cons (ag.refl _) af.nil))
  ·have d2:decide (((l.length:Nat):Int)<2)=true:=decide_eq_true (by omega)
   have hg:ka s l=false:=by unfold ka;rw[decide_eq_false h2];rfl
   rw[hg,Bool.and_false,if_neg (by simp),if_neg (by simp),hno]
   refine rf1 (cj3 d1 d2 lp) cd ?_
   refine aL ?_
   exact ag.tup (af.cons (ag.agg (af.cons (ag.refl _) (af.cons (ag.refl _) (af.cons (ag.refl _) (af.cons ag.cap af.nil))))) (af.cons (ag.refl _) af.nil))
 ·have d1:decide (nX s=0)=false:=decide_eq_false he
  rw[d1,Bool.false_and,if_neg (by simp),if_neg (by simp),hno]
  refine rf1 d1 cd ?_
  refine aL ?_
  exact ag.tup (af.cons (ag.agg (af.cons (ag.refl _) (af.cons (ag.refl _) (af.cons (ag.refl _) (af.cons ag.cap af.nil))))) (af.cons (ag.refl _) af.nil))
def pP (s:List UInt8):Bool:=decide (s.length=1)&&(decide (48≤(s.getD 0 0).toNat)&&decide ((s.getD 0 0).toNat≤50))
def stV (s:List UInt8):Int:=if pP s then (((s.getD 0 0).toNat - 48:Nat):Int) else 0
def stR (s:List UInt8):Int:=if pP s then 0 else 4
theorem tZ (s:List UInt8):aE Tryz.prog 111 [.str s] (.tup [.int .i64 (stV s),.int .i64 (stR s)]):=by
 refine f111.aD (by simp) rfl rfl ?_
 unfold Hf stV stR
 by_cases h1:s.length=1
 ·have d1:decide (((s.length:Nat):Int)=1)=true:=decide_eq_true (by omega)
  have l0:(0:Int)<((s.length:Nat):Int):=by omega
  have hi:pP s=(decide (48≤(s.getD 0 0).toNat)&&decide ((s.getD 0 0).toNat≤50)):=by unfold pP;rw[decide_eq_true h1,Bool.true_and]
  rw[hi]
  obtain ⟨c,hg⟩:∃c,s.getD 0 0=c:=⟨_,rfl⟩
  rw[hg]
  have hc:=c.toNat_lt
  by_cases h2:48≤c.toNat
  ·have d2:decide (((c.toNat:Nat):Int)<48)=false:=decide_eq_false (by omega)
   by_cases h3:c.toNat≤50
   ·have d3:decide ((50:Int)<((c.toNat:Nat):Int))=false:=decide_eq_false (by omega)
    have w1:IntKind.u8.wrap (((c.toNat:Nat):Int) - 48)=((c.toNat - 48:Nat):Int):=by rw[IntWalk.u8_in _ (by omega)];omega
    have w2:IntKind.i64.wrap ((c.toNat - 48:Nat):Int)=((c.toNat - 48:Nat):Int):=IntWalk.i64_in _ (by omega)
    rw[decide_eq_true h2,decide_eq_true h3]
    refine rf0 (nU d1 l0 hg d2 d3 w1 w2 @byte.eq_1 Int.toNat_zero @Int.le_refl @and_self) ?_
    refine aL ?_
    exact ag.refl _
   ·have d3:decide ((50:Int)<((c.toNat:Nat):Int))=true:=decide_eq_true (by omega)
    rw[decide_eq_true h2,decide_eq_false h3]
    refine rf0 (cj9 d1 l0 hg d2 d3 @byte.eq_1 Int.toNat_zero @Int.le_refl @and_self) ?_
    refine aL ?_
    exact ag.refl _
  ·have d2:decide (((c.toNat:Nat):Int)<48)=true:=decide_eq_true (by omega)
   rw[decide_eq_false h2]
   refine rf0 (cj8 d1 l0 hg d2 @byte.eq_1 Int.toNat_zero @Int.le_refl @and_self) ?_
   refine aL ?_
   exact ag.refl _
 ·have d1:decide (((s.length:Nat):Int)=1)=false:=decide_eq_false (by omega)
  have hi:pP s=false:=by unfold pP;rw[decide_eq_false h1];rfl
  rw[hi]
  refine rf0 d1 ?_
  refine aL ?_
  exact ag.refl _
structure Hd where
 sz:Int
 re:Int
 im:Int
 g:Bool
 u:Bool
def EH:Hd:=⟨0,0,0,false,false⟩
def ua (h:Hd):AV:=jQ h.sz h.re h.im h.g h.u
def hdC (s:List UInt8):Hd:=⟨(val ((s.drop 1).take 2):Nat),(val ((s.drop 3).take 4):Nat),(val ((s.drop 7).take 4):Nat),decide ((s.getD 0 0).toNat%2=1),decide ((s.getD 0 0).toNat/2%2=1)⟩
def hdB (s:List UInt8):Bool:=decide (s.length=11)&&(eF (hdC s).sz (hdC s).re (hdC s).im (hdC s).g&&decide (dU (hdC s).sz.toNat (hdC s).re.toNat (hdC s).im.toNat (hdC s).g (hdC s).u=s))
def hdO (s:List UInt8):Hd:=if hdB s then hdC s else EH
def hdE (s:List UInt8):Int:=if hdB s then 0 else 4
theorem z8 {l:List UInt8} (h:l.length≤7):i64 l=((val l:Nat):Int):=by
 have h1:=fL l
 have h2:(256:Nat)^l.length≤256^7:=Nat.pow_le_pow_right (by omega) h
 have e:(256:Nat)^7=72057594037927936:=by decide
 unfold i64
 exact IntWalk.i64_in _ (by omega)
def rdX (b:List UInt8) (p:Nat) (e:Int):Av.Obj:= .cells [.bool true,.sl 1 (al b) .any,.int .i64 p,.int .i64 e]
theorem EI (b:List UInt8) (p:Nat) (e:Int) (id:Nat) (f:Nat→Option Av.Obj) (n m:Nat) (K:List Nat) (ho:f id=some (rdX b p e)):
  dY Tryz.prog 223 [.ptr id 0] ⟨f,n,K,m⟩ fun r h'=>r= .bool (decide (e=0))∧h'=⟨f,n,K,m⟩:=by
 refine f223.fJ (by simp) ?_
 unfold HL
 simp only[C.zz]
 unfold rdX at ho
 refine rf0 ho ?_
 refine Wp.ret ⟨trivial,_,rfl,?_,rfl⟩
 simp only[go_sem,reduceIte,Nat.reduceEqDiff]
theorem Iq (b:List UInt8) (p:Nat) (e:Int) (id:Nat) (f:Nat→Option Av.Obj) (n m:Nat) (K:List Nat) (ho:f id=some (rdX b p e)):
  dY Tryz.prog 204 [.ptr id 0] ⟨f,n,K,m⟩ fun r h'=>r= .int .i64 e∧h'=⟨f,n,K,m⟩:=by
 refine f204.fJ (by simp) ?_
 unfold HG
 simp only[C.zz]
 unfold rdX at ho
 refine rf0 ho ?_
 refine Wp.ret ⟨trivial,_,rfl,?_,rfl⟩
 simp only[go_sem,reduceIte,Nat.reduceEqDiff]
def iS (b:List UInt8) (p w:Nat):List UInt8:=(b.drop p).take w
theorem CL (b:List UInt8) (hb:b.length≤140737488355328) (p:Nat) (hp:p≤b.length) (e:Int) (w:Nat) (hw:w≤4) (id:Nat) (f:Nat→Option Av.Obj) (n m:Nat) (K:List Nat) (ho:f id=some (rdX b p e)):
  dY Tryz.prog 224 [.ptr id 0,.int .i64 p,.int .i64 w] ⟨f,n,K,m⟩ fun r h'=>r= .tup [.int .u64 (if p+w≤b.length then (val (iS b p w):Nat) else 0),.bool (decide (p+w≤b.length))]∧h'=⟨f,n,K,m⟩:=by
 refine f224.fJ (by simp) ?_
 unfold HM
 simp only[C.zz]
 unfold rdX at ho
 have lb:=aS b
 have g1:IntKind.i64.wrap ((b.length:Int) - (p:Int))=((b.length - p:Nat):Int):=by rw[IntWalk.i64_in _ (by omega)];omega
 by_cases hc:p+w≤b.length
 ·have g2:decide (((b.length - p:Nat):Int)<(w:Int))=false:=decide_eq_false (by omega)
  have g3:IntKind.i64.wrap ((p:Int)+(w:Int))=((p+w:Nat):Int):=by rw[IntWalk.i64_in _ (by omega)];omega
  have x1:(0:Int)≤(p:Int):=by omega
  have x2:(p:Int)≤((p+w:Nat):Int):=by omega
  have x3:((p+w:Nat):Int)≤(b.length:Int):=by omega
  have x4:(0:Int)≤((p+w:Nat):Int):=by omega
  rw[if_pos hc,decide_eq_true hc]
  have lp:((al b).take (p+w)).drop p=al (iS b p w):=by
   unfold iS
   simp only[al,←List.map_take,←List.map_drop]
   rw[List.drop_take]
   congr 2;omega
  have lc:(iS b p w).length=w:=by unfold iS;simp;omega
  have lbc:=aS (iS b p w)
  have hv:∀j,j≤w→val ((iS b p w).take j)<256^j:=fun j hj=>by
   have:=fL ((iS b p w).take j)
   rwa [List.length_take,lc,Nat.min_eq_left hj] at this
  generalize iS b p w=s at*
  refine rf0 (bM ho lb g1 g2 g3 x1 x2 x3 x4 @ite_self.{1} lp (cj4 lbc lc @Int.toNat_natCast @and_self)) ?_
  refine Wp.eN [28,29] xA7 (fun j:Nat=>[(8,.int .u64 (val (s.take j))),(30,.int .i64 j)]) (fun j=>⟨f,n,K,m⟩) (fun j=>j≤w) (fun j=>w - j) 0 (Nat.zero_le _) rfl ?_ ?_
  ·simp only[av,go_sem,reduceIte,Nat.reduceEqDiff,Nat.reduceAdd,bx,List.take_zero];and_intros<;>first|exact trivial|exact ag.refl _|exact ag.any _|(refine ag.int ?_;omega)
  rintro j hj
  by_cases hlt:j<w
  ·have d1:decide ((j:Int)<(w:Int))=true:=decide_eq_true (by omega)
   have h1:(0:Int)≤(j:Int):=by omega
   have h2:(j:Int)<(w:Int):=by omega
   have h2':(j:Int)<(s.length:Int):=by omega
   have h3:j<s.length:=by omega
   have hvj:=hv j hj
   have hpw:(256:Nat)^j≤256^3:=Nat.pow_le_pow_right (by omega) (by omega)
   have e7:(256:Nat)^3=16777216:=by decide
   rw[e7] at hpw
   have hc:=(s.getD j 0).toNat_lt
   have hat:=gr s j .any h3
   unfold byte at hat
   have hs:=pH s j h3
   have o1:=pK (val (s.take j)) _ (by omega) hc
   generalize val (s.take j)=v at*
   have e1:IntKind.u64.wrap ((v:Int)*2^(min (Int.toNat 8) 64))=((v*256:Nat):Int):=by
    rw[show min (Int.toNat 8) 64=8 from rfl,IntWalk.u64_in _ (by omega)];omega
   have e2:¬(8:Int)<0:=by omega
   generalize (s.getD j 0).toNat=c at*
   have e3:IntKind.u64.wrap (c:Int)=(c:Int):=IntWalk.u64_in _ (by omega)
   have e5:IntKind.i64.wrap ((j:Int)+1)=((j+1:Nat):Int):=by rw[IntWalk.i64_in _ (by omega)];omega
   repeat (first
    |refine ab.nil ?_
    |((first|apply Wp.au|apply Wp.bJ);(· simp only[go_sem,reduceIte,Nat.reduceEqDiff,Nat.reduceAdd,bx,ax,if_true,if_false,Nat.reduceMul,Nat.reduceLeDiff,d1,h1,h2,h2',lbc,lc,hat,IntKind.bits,e1,e2,e3,o1,Int.toNat_natCast,and_self];exact rfl))
    |(apply Wp.aK;(· simp only[go_sem,reduceIte,Nat.reduceEqDiff,Nat.reduceAdd,bx,ax,if_true,if_false,Nat.reduceMul,Nat.reduceLeDiff,d1,h1,h2,h2',lbc,lc,hat,IntKind.bits,e1,e2,e3,o1,Int.toNat_natCast,and_self];exact rfl);(· rfl))
    |refine Wp.skip ?_
    |refine Wp.label ?_
    |refine Wp.block ?_
    |refine Wp.exit ?_
    |refine Wp.seq ?_)
   refine ⟨j+1,by omega,by omega,?_⟩
   rw[hs]
   refine aF.of (bk ?_) (OLe.cP _) (fun a ha=>ha) (Nat.le_refl _) (Nat.le_refl _)
   simp only[av,go_sem,reduceIte,Nat.reduceEqDiff,Nat.reduceAdd,bx,e5];and_intros<;>first|exact trivial|exact ag.refl _|exact ag.any _|(refine ag.int ?_;omega)
  ·obtain rfl:j=w:=by omega
   have d1:decide ((j:Int)<(j:Int))=false:=decide_eq_false (by omega)
   have hPt:s.take j=s:=List.take_of_length_le (by omega)
   rw[hPt]
   refine rf0 d1 ?_
   refine Wp.ret ⟨trivial,_,rfl,?_,rfl⟩
   simp only[go_sem,reduceIte,Nat.reduceEqDiff]
 ·have g2:decide (((b.length - p:Nat):Int)<(w:Int))=true:=decide_eq_true (by omega)
  rw[if_neg hc,decide_eq_false hc]
  refine rf0 (cj4 ho lb g1 g2) ?_
  refine Wp.ret ⟨trivial,_,rfl,?_,rfl⟩
  simp only[go_sem,reduceIte,Nat.reduceEqDiff]
def il (b:List UInt8) (p:Nat) (e:Int) (w:Nat):Int:=if e=0∧p+w≤b.length then ((val (iS b p w):Nat):Int) else 0
def ba (b:List UInt8) (p:Nat) (e:Int) (w:Nat):Nat:=if e=0∧p+w≤b.length then p+w else p
def aX (b:List UInt8) (p:Nat) (e:Int) (w:Nat):Int:=if e=0 then (if p+w≤b.length then 0 else 3) else e
theorem GC {f:Nat→Option Av.Obj} {id:Nat} {o:Av.Obj} (h:f id=some o):upd f id (some o)=f:=by
 funext j;simp only[upd];split
 ·rename_i e;rw[e,h]
 ·rfl
theorem CM (v:Nat):aE Tryz.prog 203 [.int .u64 v] (.int .i64 (IntKind.i64.wrap (v:Int))):=by
 refine f203.aD (by simp) rfl rfl ?_
 unfold HF
 simp only[C.zz]
 refine fQ ?_
 refine aL ?_
 exact ag.refl _
theorem wz (b:List UInt8) (hb:b.length≤140737488355328) (p:Nat) (hp:p≤b.length) (e:Int) (w:Nat) (hw:w≤4) (id:Nat) (f:Nat→Option Av.Obj) (n m:Nat) (K:List Nat) (ho:f id=some (rdX b p e)):
  dY Tryz.prog 202 [.ptr id 0,.int .i64 w,.clo (.func 203) [] []] ⟨f,n,K,m⟩ fun r h'=>r= .int .i64 (il b p e w)∧h'=⟨upd f id (some (rdX b (ba b p e w) (aX b p e w))),n,K,m⟩:=by
 refine f202.fJ (by simp) ?_
 unfold HE
 simp only[C.zz]
 have hr:=EI b p e id f n m K ho
 have hn:=CL b hb p hp e w hw id f n m K ho
 by_cases he:e=0
 ·have de:decide (e=0)=true:=decide_eq_true he
  rw[de] at hr
  refine fQ ?_
  refine ab.bI (by simp only[go_sem]) xA4 hr fun r h' hq _ _=>?_
  obtain ⟨rfl,rfl⟩:=hq
  have ho2:=ho
  unfold rdX at ho2
  refine ab.evF (by simp only[go_sem,reduceIte,Nat.reduceEqDiff,Nat.reduceAdd,bx,ax,if_true,if_false,Nat.reduceMul,Nat.reduceLeDiff];exact rfl) ?_
  refine rf0 (cj2 ho2 @Bool.not_true) ?_
  refine ab.bI (by simp only[go_sem]) xA4 hn fun r h' hq _ _=>?_
  obtain ⟨rfl,rfl⟩:=hq
  by_cases hc:p+w≤b.length
  ·have hv:il b p e w=((val (iS b p w):Nat):Int):=by unfold il;rw[if_pos ⟨he,hc⟩]
   have hpx:ba b p e w=p+w:=by unfold ba;rw[if_pos ⟨he,hc⟩]
   have hex:aX b p e w=0:=by unfold aX;rw[if_pos he,if_pos hc]
   rw[hv,hpx,hex,if_pos hc,decide_eq_true hc]
   have g3:IntKind.i64.wrap ((p:Int)+(w:Int))=((p+w:Nat):Int):=by rw[IntWalk.i64_in _ (by omega)];omega
   have hvl:val (iS b p w)<4294967296:=by
    have h1:=fL (iS b p w)
    have h2:(256:Nat)^(iS b p w).length≤256^4:=Nat.pow_le_pow_right (by omega) (by unfold iS;simp;omega)
    have e4:(256:Nat)^4=4294967296:=by decide
    omega
   have cp:=CM (val (iS b p w))
   rw[IntWalk.i64_in _ (by omega)] at cp
   generalize val (iS b p w)=v at*
   refine ab.evF (by simp only[go_sem,reduceIte,Nat.reduceEqDiff,Nat.reduceAdd,bx,ax,if_true,if_false,Nat.reduceMul,Nat.reduceLeDiff];exact rfl) ?_
   refine ab.nil ?_
   refine rn0 (cj3 ho2 g3 @Bool.not_true) ?_
   refine ae.rK (by simp only[go_sem,reduceIte,Nat.reduceEqDiff]) (by simp only[go_sem,reduceIte,Nat.reduceEqDiff];exact rfl) Tryz.func203 rfl (of_decide_eq_true (by kernel_rfl)) xA4 cp ?_
   refine ae.eval xA1 ?_
   refine ae.nil ⟨by trivial,?_⟩
   refine Wp.ret ⟨trivial,_,rfl,?_,?_⟩
   ·simp only[go_sem,reduceIte,Nat.reduceEqDiff]
   ·unfold rdX;rw[he]
  ·have hv:il b p e w=0:=by unfold il;rw[if_neg (fun h=>hc h.2)]
   have hpx:ba b p e w=p:=by unfold ba;rw[if_neg (fun h=>hc h.2)]
   have hex:aX b p e w=3:=by unfold aX;rw[if_pos he,if_neg hc]
   rw[hv,hpx,hex,if_neg hc,decide_eq_false hc]
   refine ab.evF (by simp only[go_sem,reduceIte,Nat.reduceEqDiff,Nat.reduceAdd,bx,ax,if_true,if_false,Nat.reduceMul,Nat.reduceLeDiff];exact rfl) ?_
   refine rf0 (cj2 ho2 @Bool.not_false) ?_
   refine Wp.ret ⟨trivial,_,rfl,?_,rfl⟩
   simp only[go_sem,reduceIte,Nat.reduceEqDiff]
 ·have de:decide (e=0)=false:=decide_eq_false he
  rw[de] at hr
  have hv:il b p e w=0:=by unfold il;rw[if_neg (fun h=>he h.1)]
  have hpx:ba b p e w=p:=by unfold ba;rw[if_neg (fun h=>he h.1)]
  have hex:aX b p e w=e:=by unfold aX;rw[if_neg he]
  rw[hv,hpx,hex]
  refine fQ ?_
  refine ab.bI (by simp only[go_sem]) xA4 hr fun r h' hq _ _=>?_
  obtain ⟨rfl,rfl⟩:=hq
  refine ab.evF (by simp only[go_sem,reduceIte,Nat.reduceEqDiff,Nat.reduceAdd,bx,ax,if_true,if_false,Nat.reduceMul,Nat.reduceLeDiff];exact rfl) ?_
  refine rf0 @Bool.not_false ?_
  refine Wp.ret ⟨trivial,_,rfl,?_,?_⟩
  ·simp only[go_sem,reduceIte,Nat.reduceEqDiff]
  ·rw[GC ho]
theorem I7 (b:List UInt8) (hb:b.length≤140737488355328) (p:Nat) (hp:p≤b.length) (e:Int) (id:Nat) (f:Nat→Option Av.Obj) (n m:Nat) (K:List Nat) (ho:f id=some (rdX b p e)):
  dY Tryz.prog 159 [.ptr id 0] ⟨f,n,K,m⟩ fun r h'=>r= .int .i64 (il b p e 1)∧h'=⟨upd f id (some (rdX b (ba b p e 1) (aX b p e 1))),n,K,m⟩:=by
 refine f159.fJ (by simp) ?_
 unfold Hs
 simp only[C.zz]
 have hc:=wz b hb p hp e 1 (by decide) id f n m K ho
 have hw:((1:Nat):Int)=1:=rfl
 rw[hw] at hc
 refine fQ ?_
 refine ab.bI (by simp only[go_sem]) xA4 hc fun r h' hq _ _=>?_
 obtain ⟨rfl,rfl⟩:=hq
 refine ab.evF (by simp only[go_sem,reduceIte,Nat.reduceEqDiff,Nat.reduceAdd,bx,ax,if_true,if_false,Nat.reduceMul,Nat.reduceLeDiff];exact rfl) ?_
 refine ab.nil ?_
 refine Wp.ret ⟨trivial,_,rfl,?_,rfl⟩
 simp only[go_sem,reduceIte,Nat.reduceEqDiff]
theorem Ir (b:List UInt8) (hb:b.length≤140737488355328) (p:Nat) (hp:p≤b.length) (e:Int) (id:Nat) (f:Nat→Option Av.Obj) (n m:Nat) (K:List Nat) (ho:f id=some (rdX b p e)):
  dY Tryz.prog 160 [.ptr id 0] ⟨f,n,K,m⟩ fun r h'=>r= .int .i64 (il b p e 2)∧h'=⟨upd f id (some (rdX b (ba b p e 2) (aX b p e 2))),n,K,m⟩:=by
 refine f160.fJ (by simp) ?_
 unfold Ht
 simp only[C.zz]
 have hc:=wz b hb p hp e 2 (by decide) id f n m K ho
 have hw:((2:Nat):Int)=2:=rfl
 rw[hw] at hc
 refine fQ ?_
 refine ab.bI (by simp only[go_sem]) xA4 hc fun r h' hq _ _=>?_
 obtain ⟨rfl,rfl⟩:=hq
 refine ab.evF (by simp only[go_sem,reduceIte,Nat.reduceEqDiff,Nat.reduceAdd,bx,ax,if_true,if_false,Nat.reduceMul,Nat.reduceLeDiff];exact rfl) ?_
 refine ab.nil ?_
 refine Wp.ret ⟨trivial,_,rfl,?_,rfl⟩
 simp only[go_sem,reduceIte,Nat.reduceEqDiff]
theorem FB (b:List UInt8) (hb:b.length≤140737488355328) (p:Nat) (hp:p≤b.length) (e:Int) (id:Nat) (f:Nat→Option Av.Obj) (n m:Nat) (K:List Nat) (ho:f id=some (rdX b p e)):
  dY Tryz.prog 161 [.ptr id 0] ⟨f,n,K,m⟩ fun r h'=>r= .int .i64 (il b p e 4)∧h'=⟨upd f id (some (rdX b (ba b p e 4) (aX b p e 4))),n,K,m⟩:=by
 refine f161.fJ (by simp) ?_
 unfold Hu
 simp only[C.zz]
 have hc:=wz b hb p hp e 4 (by decide) id f n m K ho
 have hw:((4:Nat):Int)=4:=rfl
 rw[hw] at hc
 refine fQ ?_
 refine ab.bI (by simp only[go_sem]) xA4 hc fun r h' hq _ _=>?_
 obtain ⟨rfl,rfl⟩:=hq
 refine ab.evF (by simp only[go_sem,reduceIte,Nat.reduceEqDiff,Nat.reduceAdd,bx,ax,if_true,if_false,Nat.reduceMul,Nat.reduceLeDiff];exact rfl) ?_
 refine ab.nil ?_
 refine Wp.ret ⟨trivial,_,rfl,?_,rfl⟩
 simp only[go_sem,reduceIte,Nat.reduceEqDiff]
def nq (b:List UInt8) (p:Nat) (e:Int):Int:=if e=0 then (if p<b.length then 5 else 0) else e
theorem Is (b:List UInt8) (hb:b.length≤140737488355328) (p:Nat) (hp:p≤b.length) (e:Int) (id:Nat) (f:Nat→Option Av.Obj) (n m:Nat) (K:List Nat) (ho:f id=some (rdX b p e)):
  dY Tryz.prog 162 [.ptr id 0] ⟨f,n,K,m⟩ fun r h'=>r= .int .i64 (nq b p e)∧h'=⟨f,n,K,m⟩:=by
 refine f162.fJ (by simp) ?_
 unfold Hv nq
 have hc:=Iq b p e id f n m K ho
 have lb:=aS b
 unfold rdX at ho
 refine fQ ?_
 refine ab.bI (by simp only[go_sem]) xA4 hc fun r h' hq _ _=>?_
 obtain ⟨rfl,rfl⟩:=hq
 refine ab.evF (by simp only[go_sem,reduceIte,Nat.reduceEqDiff,Nat.reduceAdd,bx,ax,if_true,if_false,Nat.reduceMul,Nat.reduceLeDiff];exact rfl) ?_
 refine ab.nil ?_
 by_cases he:e=0
 ·have de:decide (e=0)=true:=decide_eq_true he
  rw[if_pos he]
  by_cases hl:p<b.length
  ·have d1:decide ((p:Int)<(b.length:Int))=true:=decide_eq_true (by omega)
   rw[if_pos hl]
   refine rn0 (cj4 ho de lb d1) ?_
   refine Wp.ret ⟨trivial,_,rfl,?_,rfl⟩
   simp only[go_sem,reduceIte,Nat.reduceEqDiff]
  ·have d1:decide ((p:Int)<(b.length:Int))=false:=decide_eq_false (by omega)
   rw[if_neg hl]
   refine rn0 (cj4 ho de lb d1) ?_
   refine Wp.ret ⟨trivial,_,rfl,?_,rfl⟩
   simp only[go_sem,reduceIte,Nat.reduceEqDiff]
 ·have de:decide (e=0)=false:=decide_eq_false he
  rw[if_neg he]
  refine rn0 (cj2 ho de) ?_
  refine Wp.ret ⟨trivial,_,rfl,?_,rfl⟩
  simp only[go_sem,reduceIte,Nat.reduceEqDiff]
theorem uc (b:List UInt8) (hb:b.length≤140737488355328) (f:Nat→Option Av.Obj) (n m:Nat) (K:List Nat) (hf:f n=none):
  dY Tryz.prog 158 [.sl 1 (al b) .any] ⟨f,n,K,m⟩ fun r h'=>r= .ptr n 0∧h'=⟨upd f n (some (rdX b 0 0)),n+1,K,m⟩:=by
 refine f158.fJ (by simp) ?_
 unfold Hr rdX
 have cc:aE Tryz.prog 201 [.sl 1 (al b) .any] (.sl 1 (al b) .any):=yQ f201 _ (lA b) (by rw[aS];omega) (by rw[aS];omega)
 refine rn1 hf cc ?_
 refine Wp.ret ⟨trivial,_,rfl,?_,rfl⟩
 simp only[go_sem,reduceIte,Nat.reduceEqDiff]
theorem oE {b:List UInt8} {p:Nat} {e:Int} {w:Nat} (h:p≤b.length):ba b p e w≤b.length:=by
 unfold ba;split
 ·rename_i h;exact h.2
 ·exact h
theorem gV {b:List UInt8} {p w:Nat} (h:p+w≤b.length):ba b p 0 w=p+w∧aX b p 0 w=0∧il b p 0 w=((val (iS b p w):Nat):Int):=by
 refine ⟨?_,?_,?_⟩
 ·unfold ba;rw[if_pos ⟨rfl,h⟩]
 ·unfold aX;rw[if_pos rfl,if_pos h]
 ·unfold il;rw[if_pos ⟨rfl,h⟩]
theorem mE {b:List UInt8} {p w:Nat} (h:¬p+w≤b.length):aX b p 0 w=3:=by
 unfold aX;rw[if_pos rfl,if_neg h]
theorem iT {b:List UInt8} {p w:Nat} {e:Int} (h:e≠0):aX b p e w=e:=by
 unfold aX;rw[if_neg h]
def ud (s:List UInt8):Int:=
 let p1:=ba s 0 0 1;let e1:=aX s 0 0 1
 let p2:=ba s p1 e1 2;let e2:=aX s p1 e1 2
 let p3:=ba s p2 e2 4;let e3:=aX s p2 e2 4
 nq s (ba s p3 e3 4) (aX s p3 e3 4)
theorem CN {s:List UInt8} (h:s.length≠11):ud s≠0:=by
 unfold ud
 simp only
 by_cases h1:0+1≤s.length
 ·obtain ⟨a1,a2,-⟩:=gV h1
  rw[a1,a2]
  by_cases h2:0+1+2≤s.length
  ·obtain ⟨a1,a2,-⟩:=gV h2
   rw[a1,a2]
   by_cases h3:0+1+2+4≤s.length
   ·obtain ⟨a1,a2,-⟩:=gV h3
    rw[a1,a2]
    by_cases h4:0+1+2+4+4≤s.length
    ·obtain ⟨a1,a2,-⟩:=gV h4
     rw[a1,a2]
     unfold nq
     rw[if_pos rfl,if_pos (by omega)];decide
    ·rw[mE h4];unfold nq;rw[if_neg (by decide)];decide
   ·rw[mE h3,iT (by decide)];unfold nq;rw[if_neg (by decide)];decide
  ·rw[mE h2,iT (by decide),iT (by decide)];unfold nq;rw[if_neg (by decide)];decide
 ·rw[mE h1,iT (by decide),iT (by decide),iT (by decide)];unfold nq;rw[if_neg (by decide)];decide
def oF:AC:=tlA (tlA (tlA (tlA rX)))
theorem CO:rX= .seq (hdA rX) (.seq (hdA (tlA rX)) (.seq (hdA (tlA (tlA rX))) (.seq (hdA (tlA (tlA (tlA rX)))) oF))):=rfl
def zHd:Av.Obj:= .cells [.int .i64 0,.int .i64 0,.int .i64 0,.bool false,.bool false]
def wA (s:List UInt8) (P:Nat) (E:Int) (h:Hd):Bool:=decide (nq s P E=0)&&(decide (nP h.sz h.re h.im h.g=0)&&decide (cI h.sz h.re h.im h.g h.u=s))
def QH (s:List UInt8) (P:Nat) (E:Int) (h:Hd):aA→St→Prop:=fun e s'=>gq e∧∃q,gh [.cell 2 (some 5),.tmp 3] s'.t s'.h=some q∧ag q (.tup [ua (if wA s P E h=true then h else EH),.int .i64 (if wA s P E h=true then 0 else 4)])
theorem Aa (s:List UInt8) (hs:s.length≤140737488355328) (P:Nat) (hP:P≤s.length) (E:Int) (h:Hd) (m:Nat):
  Wp Tryz.prog 46 oF ⟨tm [(0,.str s),(2,.ptr 0 0),(4,.ptr 1 0),(6,.ptr 2 0)],⟨upd (upd (upd ah 0 (some zHd)) 1 (some (rdX s P E))) 2 (some (.cells [.int .i64 h.sz,.int .i64 h.re,.int .i64 h.im,.bool h.g,.bool h.u])),3,[],m⟩⟩ (QH s P E h):=by
 obtain ⟨a,b,c,g,u⟩:=h
 have ch:=ow a b c g u
 unfold QH wA
 simp only
 unfold oF rX zHd
 simp only[tlA]
 have ce:=fun f n m K ho=>Is s hs P hP E 1 f n m K ho
 unfold jQ at ch
 unfold ua jQ EH
 have n10:¬(1=0):=by decide
 refine fQ ?_
 refine ab.bI (by simp only[go_sem]) xA4 (ce _ _ _ _ (by simp only[upd,reduceIte,Nat.reduceEqDiff])) fun r h' hq _ _=>?_
 obtain ⟨rfl,rfl⟩:=hq
 refine ab.evF (by simp only[go_sem,reduceIte,Nat.reduceEqDiff,Nat.reduceAdd,bx,ax,if_true,if_false,Nat.reduceMul,Nat.reduceLeDiff];exact rfl) ?_
 refine ab.nil ?_
 cases d1:decide (nq s P E=0) with
 |false=>
  rw[Bool.false_and,if_neg (by simp),if_neg (by simp)]
  refine rf0 d1 ?_
  refine aL ?_
  exact ag.refl _
 |true=>
  rw[Bool.true_and]
  cases d2:decide (nP a b c g=0) with
  |false=>
   rw[Bool.false_and,if_neg (by simp),if_neg (by simp)]
   refine rf1 (cj2 d1 d2) ch ?_
   refine aL ?_
   exact ag.refl _
  |true=>
   rw[Bool.true_and]
   cases d3:decide (cI a b c g u=s) with
   |false=>
    rw[if_neg (by simp),if_neg (by simp)]
    refine rf1 (cj3 d1 d2 d3) ch ?_
    refine aL ?_
    exact ag.refl _
   |true=>
    rw[if_pos rfl,if_pos rfl]
    refine rf1 (cj3 d1 d2 d3) ch ?_
    refine aL ?_
    exact ag.refl _
theorem I8:∀c,c<256→(!decide (lR .i64 ((c:Nat):Int) 1=0))=decide (c%2=1):=by decide
theorem I9:∀c,c<256→(!decide (lR .i64 ((c:Nat):Int) 2=0))=decide (c/2%2=1):=by decide
theorem val_one (c:UInt8):val [c]=c.toNat:=by simp[Batch.val]
theorem EJ {s:List UInt8} (h:s.length=11):il s 0 0 1=(((s.getD 0 0).toNat:Nat):Int)∧il s (ba s 0 0 1) (aX s 0 0 1) 2=(hdC s).sz
  ∧il s (ba s (ba s 0 0 1) (aX s 0 0 1) 2) (aX s (ba s 0 0 1) (aX s 0 0 1) 2) 4=(hdC s).re
  ∧il s (ba s (ba s (ba s 0 0 1) (aX s 0 0 1) 2) (aX s (ba s 0 0 1) (aX s 0 0 1) 2) 4) (aX s (ba s (ba s 0 0 1) (aX s 0 0 1) 2) (aX s (ba s 0 0 1) (aX s 0 0 1) 2) 4) 4=(hdC s).im
  ∧ud s=0:=by
 obtain ⟨a1,a2,a3⟩:=gV (b:=s) (p:=0) (w:=1) (by omega)
 obtain ⟨b1,b2,b3⟩:=gV (b:=s) (p:=0+1) (w:=2) (by omega)
 obtain ⟨c1,c2,c3⟩:=gV (b:=s) (p:=0+1+2) (w:=4) (by omega)
 obtain ⟨d1,d2,d3⟩:=gV (b:=s) (p:=0+1+2+4) (w:=4) (by omega)
 have hend:ud s=nq s (ba s (ba s (ba s (ba s 0 0 1) (aX s 0 0 1) 2) (aX s (ba s 0 0 1) (aX s 0 0 1) 2) 4) (aX s (ba s (ba s 0 0 1) (aX s 0 0 1) 2) (aX s (ba s 0 0 1) (aX s 0 0 1) 2) 4) 4) (aX s (ba s (ba s (ba s 0 0 1) (aX s 0 0 1) 2) (aX s (ba s 0 0 1) (aX s 0 0 1) 2) 4) (aX s (ba s (ba s 0 0 1) (aX s 0 0 1) 2) (aX s (ba s 0 0 1) (aX s 0 0 1) 2) 4) 4):=rfl
 rw[hend,a1,a2,b1,b2,c1,c2,d1,d2,a3,b3,c3,d3]
 refine ⟨?_,rfl,rfl,rfl,?_⟩
 ·have:iS s 0 1=[s.getD 0 0]:=by
   unfold iS
   rw[List.drop_zero]
   match s,h with
   |a::r,_=>rfl
  rw[this,val_one]
 ·unfold nq
  rw[if_pos rfl,if_neg (by omega)]
theorem EL {s:List UInt8} (h:s.length=11) {P:Nat} {E:Int} (he:nq s P E=0):wA s P E (hdC s)=hdB s:=by
 unfold wA hdB
 rw[decide_eq_true he,decide_eq_true h,Bool.true_and,Bool.true_and]
 unfold nP cI
 cases eF (hdC s).sz (hdC s).re (hdC s).im (hdC s).g<;>rfl
theorem pQ (s:List UInt8) (hs:s.length≤140737488355328):aE Tryz.prog 112 [.str s] (.tup [ua (hdO s),.int .i64 (hdE s)]):=by
 refine f112.aD (by simp) rfl rfl ?_
 have hO:hdO s=if hdB s then hdC s else EH:=rfl
 have hE:hdE s=if hdB s then 0 else 4:=rfl
 have HR:=Aa s hs
 rw[CO]
 generalize oF=R at*
 unfold rX
 simp only[C.zz]
 simp only[hdA,tlA]
 have c0:=uc s hs
 have n10:¬(1=0):=by decide
 have n01:¬(0=1):=by decide
 refine fQ ?_
 refine ab.bI (by simp only[go_sem]) (by simp only[go_sem,reduceIte,Nat.reduceEqDiff,List.map];exact af.cons ag.cap af.nil) (c0 _ _ _ _ (by simp only[upd,ah];rfl)) fun r h' hq _ _=>?_
 obtain ⟨rfl,rfl⟩:=hq
 refine ab.evF (by simp only[go_sem,reduceIte,Nat.reduceEqDiff,Nat.reduceAdd,bx,ax,if_true,if_false,Nat.reduceMul,Nat.reduceLeDiff,n10,n01];exact rfl) ?_
 refine ab.nil ?_
 refine fQ ?_
 refine ab.bI (by simp only[go_sem]) xA4 (I7 s hs 0 (Nat.zero_le _) 0 1 _ _ _ _ (by simp only[upd,reduceIte])) fun r h' hq _ _=>?_
 obtain ⟨rfl,rfl⟩:=hq
 refine ab.evF (by simp only[go_sem,reduceIte,Nat.reduceEqDiff,Nat.reduceAdd,bx,ax,if_true,if_false,Nat.reduceMul,Nat.reduceLeDiff,n10,n01];exact rfl) ?_
 refine ab.nil ?_
 have p1:ba s 0 0 1≤s.length:=oE (Nat.zero_le _)
 have p2:ba s (ba s 0 0 1) (aX s 0 0 1) 2≤s.length:=oE p1
 have p3:ba s (ba s (ba s 0 0 1) (aX s 0 0 1) 2) (aX s (ba s 0 0 1) (aX s 0 0 1) 2) 4≤s.length:=oE p2
 have p4:ba s (ba s (ba s (ba s 0 0 1) (aX s 0 0 1) 2) (aX s (ba s 0 0 1) (aX s 0 0 1) 2) 4) (aX s (ba s (ba s 0 0 1) (aX s 0 0 1) 2) (aX s (ba s 0 0 1) (aX s 0 0 1) 2) 4) 4≤s.length:=oE p3
 refine fQ ?_
 refine ab.bI (by simp only[go_sem]) xA4 (Ir s hs _ p1 (aX s 0 0 1) 1 _ _ _ _ (by simp only[upd,reduceIte])) fun r h' hq _ _=>?_
 obtain ⟨rfl,rfl⟩:=hq
 refine ab.evF (by simp only[go_sem,reduceIte,Nat.reduceEqDiff,Nat.reduceAdd,bx,ax,if_true,if_false,Nat.reduceMul,Nat.reduceLeDiff,n10,n01];exact rfl) ?_
 refine ab.bI (by simp only[go_sem]) xA4 (FB s hs _ p2 (aX s (ba s 0 0 1) (aX s 0 0 1) 2) 1 _ _ _ _ (by simp only[upd,reduceIte])) fun r h' hq _ _=>?_
 obtain ⟨rfl,rfl⟩:=hq
 refine ab.evF (by simp only[go_sem,reduceIte,Nat.reduceEqDiff,Nat.reduceAdd,bx,ax,if_true,if_false,Nat.reduceMul,Nat.reduceLeDiff,n10,n01];exact rfl) ?_
 refine ab.bI (by simp only[go_sem]) xA4 (FB s hs _ p3 (aX s (ba s (ba s 0 0 1) (aX s 0 0 1) 2) (aX s (ba s 0 0 1) (aX s 0 0 1) 2) 4) 1 _ _ _ _ (by simp only[upd,reduceIte])) fun r h' hq _ _=>?_
 obtain ⟨rfl,rfl⟩:=hq
 refine ab.evF (by simp only[go_sem,reduceIte,Nat.reduceEqDiff,Nat.reduceAdd,bx,ax,if_true,if_false,Nat.reduceMul,Nat.reduceLeDiff,n10,n01];exact rfl) ?_
 refine ab.nil ?_
 show Wp Tryz.prog 46 R _ _
 by_cases h11:s.length=11
 ·obtain ⟨v0,v1,v2,v3,v4⟩:=EJ h11
  have hc:=(s.getD 0 0).toNat_lt
  have g1:=I8 _ hc
  have g2:=I9 _ hc
  have hsm:=EL h11 v4
  have W:=HR _ p4 (aX s (ba s (ba s (ba s 0 0 1) (aX s 0 0 1) 2) (aX s (ba s 0 0 1) (aX s 0 0 1) 2) 4) (aX s (ba s (ba s 0 0 1) (aX s 0 0 1) 2) (aX s (ba s 0 0 1) (aX s 0 0 1) 2) 4) 4) (hdC s)
  unfold QH at W
  rw[hsm,←hO,←hE] at W
  have e1:decide ((s.getD 0 0).toNat%2=1)=(hdC s).g:=rfl
  have e2:decide ((s.getD 0 0).toNat/2%2=1)=(hdC s).u:=rfl
  rw[v1,v2,v3,v0,g1,g2,e1,e2]
  refine Wp.le ?_ (W 1)
  refine aF.of (bk ?_) (fun a u hu=>⟨u,?_,cK.refl _⟩) (fun x hx=>by simp at hx) (Nat.le_refl _) (Nat.le_refl _)
  ·exact xSb
  ·simp only[upd,ah,zHd] at hu ⊢
   by_cases a2:a=2
   ·subst a2;simpa using hu
   ·by_cases a1:a=1
    ·subst a1;simpa using hu
    ·by_cases a0:a=0
     ·subst a0;simpa using hu
     ·simp[a2,a1,a0] at hu
 ·have hne:hdB s=false:=by unfold hdB;rw[decide_eq_false h11];rfl
  have hen:=CN h11
  have W:=fun h=>HR _ p4 (aX s (ba s (ba s (ba s 0 0 1) (aX s 0 0 1) 2) (aX s (ba s 0 0 1) (aX s 0 0 1) 2) 4) (aX s (ba s (ba s 0 0 1) (aX s 0 0 1) 2) (aX s (ba s 0 0 1) (aX s 0 0 1) 2) 4) 4) h
  have hno:∀h,wA s (ba s (ba s (ba s (ba s 0 0 1) (aX s 0 0 1) 2) (aX s (ba s 0 0 1) (aX s 0 0 1) 2) 4) (aX s (ba s (ba s 0 0 1) (aX s 0 0 1) 2) (aX s (ba s 0 0 1) (aX s 0 0 1) 2) 4) 4) (aX s (ba s (ba s (ba s 0 0 1) (aX s 0 0 1) 2) (aX s (ba s 0 0 1) (aX s 0 0 1) 2) 4) (aX s (ba s (ba s 0 0 1) (aX s 0 0 1) 2) (aX s (ba s 0 0 1) (aX s 0 0 1) 2) 4) 4) h=false:=fun h=>by
   unfold wA
   show (decide (ud s=0)&&_)=false
   rw[decide_eq_false hen];rfl
  unfold QH at W
  simp only[hno] at W
  rw[hO,hE,hne]
  refine Wp.le ?_ (W ⟨il s (ba s 0 0 1) (aX s 0 0 1) 2,il s (ba s (ba s 0 0 1) (aX s 0 0 1) 2) (aX s (ba s 0 0 1) (aX s 0 0 1) 2) 4,il s (ba s (ba s (ba s 0 0 1) (aX s 0 0 1) 2) (aX s (ba s 0 0 1) (aX s 0 0 1) 2) 4) (aX s (ba s (ba s 0 0 1) (aX s 0 0 1) 2) (aX s (ba s 0 0 1) (aX s 0 0 1) 2) 4) 4,!decide (lR IntKind.i64 (il s 0 0 1) 1=0),!decide (lR IntKind.i64 (il s 0 0 1) 2=0)⟩ 1)
  refine aF.of (bk ?_) (fun a u hu=>⟨u,?_,cK.refl _⟩) (fun x hx=>by simp at hx) (Nat.le_refl _) (Nat.le_refl _)
  ·exact xSb
  ·simp only[upd,ah,zHd] at hu ⊢
   by_cases a2:a=2
   ·subst a2;simpa using hu
   ·by_cases a1:a=1
    ·subst a1;simpa using hu
    ·by_cases a0:a=0
     ·subst a0;simpa using hu
     ·simp[a2,a1,a0] at hu
theorem xK:∀(s x:List UInt8),(∀b∈s,b≠0)→rdT (s++0::1::x)=some (s,s.length+2)
 |[],x,_=>by simp[rdT]
 |a::s,x,h=>by
  rw[List.cons_append,xB _ _ (h a (by simp)),xK s x (fun b hb=>h b (by simp[hb]))]
  simp
theorem Ab (m:UInt8) (l:List UInt8):bu m (bu m l)=l:=by
 unfold bu
 rw[List.map_map]
 conv=>rhs;rw[←List.map_id l]
 refine List.map_congr_left fun x _=>?_
 simp[Function.comp,UInt8.xor_assoc]
theorem EM (l:List UInt8):vU (vU l)=l:=by
 cases l with
 |nil=>rfl
 |cons a r=>
  show ((a ^^^ 128) ^^^ 128)::r=a::r
  rw[UInt8.xor_assoc];simp
theorem fU:∀(w v:Nat),val (be w v)=v%256^w
 |0,v=>by simp[be,Batch.val,Nat.mod_one]
 |w+1,v=>by
  have e:be (w+1) v=UInt8.ofNat (v/256^w)::be w v:=rfl
  rw[e,iO,fU w v,aH,Nat.pow_succ,Nat.mod_mul]
  have:(UInt8.ofNat (v/256^w)).toNat=v/256^w%256:=by simp
  rw[this,Nat.mul_comm,Nat.add_comm]
theorem CQ (m:UInt8) (n:Nat) (h:n<9223372036854775808):rdN m (bu m (upB n))=n:=by
 unfold rdN
 rw[Ab]
 have e:upB n=vU (be 8 n):=(Il n h).symm
 rw[e,EM]
 unfold i64
 have e8:(256:Nat)^8=18446744073709551616:=by decide
 rw[fU,e8,Nat.mod_eq_of_lt (by omega)]
 exact IntWalk.i64_in _ (by omega)
theorem GD {p:Pt} (hp:p.ok) (x:List UInt8):rdP (ptB p++x)=some (p,(ptB p).length):=by
 obtain ⟨pk,pn,ps⟩:=p
 rcases hp.k with hk|hk|hk
 ·simp only at hk
  subst hk
  obtain ⟨hn,hz,hl⟩:=hp.t rfl
  simp only at hn hz hl
  subst hn
  have hB:ptB ⟨1,0,ps⟩=2::(ps++[0,1]):=rfl
  have hA:ptB ⟨1,0,ps⟩++x=2::(ps++0::1::x):=by rw[hB];simp
  rw[hA,hB]
  have:rdP (2::(ps++0::1::x))=(rdT (ps++0::1::x)).map fun x=>(⟨1,0,x.1⟩,x.2+1):=by simp[rdP]
  rw[this,xK _ _ hz]
  simp
 ·simp only at hk
  subst hk
  obtain ⟨hs,h0,h1⟩:=hp.u (by simp)
  simp only at hs h0 h1
  subst hs
  have hB:ptB ⟨2,pn,[]⟩=3::bu 0 (upB pn.toNat):=rfl
  have hl:(bu 0 (upB pn.toNat)).length=8:=by rw[cV];simp[upB,aH]
  rw[hB,List.cons_append]
  have ht:(bu 0 (upB pn.toNat)++x).take 8=bu 0 (upB pn.toNat):=by rw[List.take_append_of_le_length (by omega),List.take_of_length_le (by omega)]
  have:rdP (3::(bu 0 (upB pn.toNat)++x))=some (⟨2,rdN 0 ((bu 0 (upB pn.toNat)++x).take 8),[]⟩,9):=by
   have hn:¬(bu 0 (upB pn.toNat)++x).length<8:=by rw[List.length_append];omega
   simp only[rdP]
   rw[if_neg (by decide),if_pos trivial,if_neg hn]
  rw[this,ht,CQ 0 pn.toNat (by omega),List.length_cons,hl]
  congr 2
  congr 1
  omega
 ·simp only at hk
  subst hk
  obtain ⟨hs,h0,h1⟩:=hp.u (by simp)
  simp only at hs h0 h1
  subst hs
  have hB:ptB ⟨3,pn,[]⟩=4::bu 255 (upB pn.toNat):=rfl
  have hl:(bu 255 (upB pn.toNat)).length=8:=by rw[cV];simp[upB,aH]
  rw[hB,List.cons_append]
  have ht:(bu 255 (upB pn.toNat)++x).take 8=bu 255 (upB pn.toNat):=by rw[List.take_append_of_le_length (by omega),List.take_of_length_le (by omega)]
  have:rdP (4::(bu 255 (upB pn.toNat)++x))=some (⟨3,rdN 255 ((bu 255 (upB pn.toNat)++x).take 8),[]⟩,9):=by
   have hn:¬(bu 255 (upB pn.toNat)++x).length<8:=by rw[List.length_append];omega
   simp only[rdP]
   rw[if_neg (by decide),if_neg (by decide),if_pos trivial,if_neg hn]
  rw[this,ht,CQ 255 pn.toNat (by omega),List.length_cons,hl]
  congr 2
  congr 1
  omega
theorem xL:∀(l:List Pt),(∀p∈l,p.ok)→qd (cQ l)=some l
 |[],_=>rfl
 |p::l,h=>by
  have hB:cQ (p::l)=ptB p++cQ l:=rfl
  have hne:cQ (p::l)≠[]:=by rw[hB];intro h;exact vS p (List.append_eq_nil_iff.1 h).1
  rw[kI hne,hB,GD (h p (by simp))]
  simp only[List.drop_left]
  rw[xL l (fun q hq=>h q (by simp[hq]))]
  rfl
theorem ue {k:Int} (h:1≤k∧k≤6):pO [dd k]=k:=by
 obtain ⟨h1,h2⟩:=h
 obtain rfl|rfl|rfl|rfl|rfl|rfl:k=1∨k=2∨k=3∨k=4∨k=5∨k=6:=by omega
 all_goals decide
theorem uf (k:Int) (ns:List Int):(ns.map (bR k)).map Pt.n=ns:=by
 rw[List.map_map]
 conv=>rhs;rw[←List.map_id ns]
 exact List.map_congr_left fun x _=>rfl
def FC (k:Int) (b:List UInt8) (r:List Pt):Ky:=if k≠1∧r≠[] then ⟨k,b,(r.getD 0 default).s,(r.drop 1).map Pt.n⟩ else ⟨k,b,[],r.map Pt.n⟩
theorem CR {k:Ky} (h:k.ok):jr (eI k)=k:=by
 have hC:jr (eI k)=FC (pO [dd k.k]) k.b ((if k.o=[] then [] else [txt k.o])++k.ns.map (bR k.k)):=rfl
 rw[hC,ue h.k]
 obtain ⟨kk,b,o,ns⟩:=k
 simp only at*
 unfold FC
 by_cases hk1:kk=1
 ·have ho:=h.e hk1
  simp only at ho
  subst ho
  rw[if_neg (fun x=>x.1 hk1),if_pos rfl,List.nil_append,uf]
 ·have ho:=dg (h.o hk1)
  simp only at ho
  have ho0:o≠[]:=by rintro rfl;simp at ho
  rw[if_neg ho0]
  rw[if_pos ⟨hk1,by simp⟩]
  have e:([txt o]++ns.map (bR kk)).drop 1=ns.map (bR kk):=rfl
  rw[e,uf];rfl
theorem fX {k:Ky} (h:k.ok):eJ (cm k)=true∧bq (cm k)=k:=by
 have hl:=sa h
 have hd:=xL (eI k) (jn h)
 have hd2:qd (cm k)=some (eI k):=hd
 have hO:kQ (cm k)=eI k:=by unfold kQ;rw[if_neg (by omega),hd2];rfl
 have hE:nX (cm k)=0:=by unfold nX;rw[if_neg (by omega),hd2];rfl
 have hc:=CR h
 have hke:iN k=0:=by
  have ha:iM k=true:=by
   unfold iM
   have a1:mY k.ns=true:=List.all_eq_true.2 fun n hn=>decide_eq_true (h.r n hn).1
   rw[a1,decide_eq_true h.n.symm]
   by_cases hk:k.k=1
   ·rw[h.e hk];simp
   ·simp[hk]
  unfold iN
  rw[if_pos ha,if_pos h.b]
  by_cases hk:k.k=1
  ·rw[if_pos hk]
  ·rw[if_neg hk,h.o hk]
 have hks:ft k=cm k:=by unfold ft;rw[if_pos hke]
 have hB:eJ (cm k)=true:=by
  unfold eJ ka
  rw[hE,hO,hc,hke,hks]
  simp[eI]
 exact ⟨hB,by unfold bq;rw[if_pos hB,hO,hc]⟩
theorem wB {s:List UInt8} (h:eJ s=true):(bq s).ok∧cm (bq s)=s:=by
 have hO:bq s=jr (kQ s):=by unfold bq;rw[if_pos h]
 unfold eJ ka at h
 simp only[Bool.and_eq_true,decide_eq_true_eq] at h
 obtain ⟨h1,⟨h2,h3⟩,h4⟩:=h
 obtain ⟨hin,hl⟩:=xJ s
 have hok:=B5 (tX hin hl) h3
 rw[hO]
 refine ⟨hok,?_⟩
 unfold ft at h4
 rw[if_pos h3] at h4
 exact h4
theorem bc (c:UInt8) (a b:List UInt8):Op.bytesLess (c::a) (c::b)=Op.bytesLess a b:=by
 have:¬(c<c):=fun h=>by have:=UInt8.lt_iff_toNat_lt.1 h;omega
 simp[Op.bytesLess,this]
theorem lK {c d:UInt8} (h:c.toNat<d.toNat) (a b:List UInt8):Op.bytesLess (c::a) (d::b)=true:=by
 have:c<d:=UInt8.lt_iff_toNat_lt.2 h
 simp[Op.bytesLess,this]
theorem nt:∀{s s':List UInt8} (x y:List UInt8),(∀b∈s,b≠0)→(∀b∈s',b≠0)→Op.bytesLess s s'=true→Op.bytesLess (s++0::1::x) (s'++0::1::y)=true
 |[],[],x,y,_,_,h=>by simp[Op.bytesLess] at h
 |[],b::s',x,y,_,h2,_=>by
  have hb:=h2 b (by simp)
  refine lK ?_ _ _
  have:b.toNat≠0:=fun e=>hb (UInt8.toNat_inj.1 (by simpa using e))
  simp;omega
 |a::s,[],x,y,_,_,h=>by simp[Op.bytesLess] at h
 |a::s,b::s',x,y,h1,h2,h=>by
  simp only[Op.bytesLess,Bool.or_eq_true,Bool.and_eq_true,decide_eq_true_eq,beq_iff_eq] at h
  simp only[List.cons_append,Op.bytesLess,Bool.or_eq_true,Bool.and_eq_true,decide_eq_true_eq,beq_iff_eq]
  rcases h with h|⟨h,h'⟩
  ·exact .inl h
  ·exact .inr ⟨h,nt x y (fun c hc=>h1 c (by simp[hc])) (fun c hc=>h2 c (by simp[hc])) h'⟩
theorem mF (k:List UInt8):∀a b:List UInt8,Op.bytesLess (k++a) (k++b)=Op.bytesLess a b:=by
 induction k with
 |nil=>intro a b;rfl
 |cons c k ih=>intro a b;rw[List.cons_append,List.cons_append,bc,ih]
theorem rA:∀{a b:List UInt8},a.length=b.length→Op.bytesLess a b=true→Batch.val a<Batch.val b
 |[],[],_,h=>by simp[Op.bytesLess] at h
 |[],_::_,h,_=>by simp at h
 |_::_,[],h,_=>by simp at h
 |c::a,d::b,hl,h=>by
  simp only[List.length_cons,Nat.add_right_cancel_iff] at hl
  rw[Arch.iO,Arch.iO,hl]
  simp only[Op.bytesLess,Bool.or_eq_true,Bool.and_eq_true,decide_eq_true_eq,beq_iff_eq] at h
  rcases h with h|⟨h,h'⟩
  ·have h1:=Batch.fL a
   have h2:c.toNat+1≤d.toNat:=UInt8.lt_iff_toNat_lt.1 h
   rw[hl] at h1
   have h3:=Nat.mul_le_mul_right (256^b.length) h2
   rw[Nat.add_mul,Nat.one_mul] at h3
   omega
  ·subst h
   have:=rA hl h'
   omega
theorem ug {a b:List UInt8} (hl:a.length=b.length) (h:Batch.val a<Batch.val b):Op.bytesLess a b=true:=by
 rcases Batch.dG a b with h1|h1|h1
 ·exact h1
 ·subst h1;omega
 ·have:=rA hl.symm h1;omega
theorem EN {w a b:Nat} (h:a<b) (hb:b<256^w):Op.bytesLess (be w a) (be w b)=true:=
 ug (by simp[aH]) (by rw[fU,fU,Nat.mod_eq_of_lt (by omega),Nat.mod_eq_of_lt hb];exact h)
theorem CS (a:UInt8):(a ^^^ 255).toNat=255 - a.toNat:=by
 rw[UInt8.toNat_xor]
 have h:∀n:Fin 256,n.val ^^^ (255:UInt8).toNat=255 - n.val:=by decide
 exact h ⟨a.toNat,a.toNat_lt⟩
theorem Ac (l:List UInt8):bu 0 l=l:=by simp[bu]
theorem rB:∀{a b:List UInt8},a.length=b.length→Op.bytesLess a b=true→Op.bytesLess (bu 255 b) (bu 255 a)=true
 |[],[],_,h=>by simp[Op.bytesLess] at h
 |[],_::_,h,_=>by simp at h
 |_::_,[],h,_=>by simp at h
 |c::a,d::b,hl,h=>by
  simp only[List.length_cons,Nat.add_right_cancel_iff] at hl
  simp only[Op.bytesLess,Bool.or_eq_true,Bool.and_eq_true,decide_eq_true_eq,beq_iff_eq] at h
  have e1:bu 255 (d::b)=(d ^^^ 255)::bu 255 b:=rfl
  have e2:bu 255 (c::a)=(c ^^^ 255)::bu 255 a:=rfl
  rw[e1,e2]
  rcases h with h|⟨h,h'⟩
  ·refine lK ?_ _ _
   have h2:=UInt8.lt_iff_toNat_lt.1 h
   have:=CS c
   have:=CS d
   have:=c.toNat_lt
   have:=d.toNat_lt
   omega
  ·subst h
   rw[bc]
   exact rB hl h'
theorem xM {a b:Nat} (h:a<b) (hb:b<9223372036854775808):Op.bytesLess (upB a) (upB b)=true:=by
 have e:(256:Nat)^8=18446744073709551616:=by decide
 exact EN (by omega) (by rw[e];omega)
theorem pR (x:Ky):cm x=2::dd x.k::0::1::2::(x.b++0::1::cQ ((if x.o=[] then [] else [txt x.o])++x.ns.map (bR x.k))):=by
 simp[cm,eI,cQ,ptB,txt]
theorem sv {x:Ky} (h:x.o≠[]):cm x=2::dd x.k::0::1::2::(x.b++0::1::2::(x.o++0::1::cQ (x.ns.map (bR x.k)))):=by
 rw[pR,if_neg h]
 simp[cQ,ptB,txt]
theorem pS {x y:Ky} (h:(dd x.k).toNat<(dd y.k).toNat):Op.bytesLess (cm x) (cm y)=true:=by
 rw[pR,pR,bc]
 exact lK h _ _
theorem It {x:Ky} (h:x.ok):∀b∈x.b,b≠0:=fun b hb=>by
 have:=(eX h.b).2.2 b hb
 exact xv (n:=0) (by omega)
theorem Iu {x:Ky} (h:x.ok) (hk:x.k≠1):∀b∈x.o,b≠0:=fun b hb=>by
 have:=(dg (h.o hk)).2.2 b hb
 exact xv (n:=0) (by omega)
theorem EO {x:Ky} (h:x.ok) (hk:x.k≠1):x.o≠[]:=fun e=>by
 have:=(dg (h.o hk)).1
 rw[e] at this;simp at this
theorem uh {x y:Ky} (hx:x.ok) (hy:y.ok) (hk:x.k=y.k) (h:Op.bytesLess x.b y.b=true):Op.bytesLess (cm x) (cm y)=true:=by
 rw[pR,pR,hk,bc,bc,bc,bc,bc]
 exact nt _ _ (It hx) (It hy) h
theorem EP {x y:Ky} (hx:x.ok) (hy:y.ok) (h1:x.k≠1) (hk:x.k=y.k) (hb:x.b=y.b) (h:Op.bytesLess x.o y.o=true):Op.bytesLess (cm x) (cm y)=true:=by
 rw[sv (EO hx h1),sv (EO hy (hk▸h1)),hk,hb,bc,bc,bc,bc,bc,mF,bc,bc,bc]
 exact nt _ _ (Iu hx h1) (Iu hy (hk▸h1)) h
theorem xN {x y:Ky} (hx:x.ok) (hy:y.ok) (h1:x.k≠1) (hk:x.k=y.k) (hb:x.b=y.b) (ho:x.o=y.o) (h:Op.bytesLess (cQ (x.ns.map (bR x.k))) (cQ (y.ns.map (bR y.k)))=true):Op.bytesLess (cm x) (cm y)=true:=by
 rw[sv (EO hx h1),sv (EO hy (hk▸h1)),hk,hb,ho,bc,bc,bc,bc,bc,mF,bc,bc,bc,mF,bc,bc]
 rw[hk] at h
 exact h
theorem Iv {n:Int} (h:0≤n) (k:Int) (hk:k≠2):ptB (bR k n)=3::upB n.toNat:=by
 simp[bR,hk,ptB,Ac]
theorem Iw {n:Int} (h:0≤n):ptB (bR 2 n)=4::bu 255 (upB n.toNat):=by
 simp[bR,ptB]
theorem ER (n:Nat):(upB n).length=8:=by simp[upB,aH]
theorem ES {n o:List UInt8} {i j:Int} (hx:(⟨2,n,o,[i]⟩:Ky).ok) (hy:(⟨2,n,o,[j]⟩:Ky).ok) (h:j<i):Op.bytesLess (cm ⟨2,n,o,[i]⟩) (cm ⟨2,n,o,[j]⟩)=true:=by
 have ri:=hx.r i (by simp)
 have rj:=hy.r j (by simp)
 refine xN hx hy (by simp) rfl rfl rfl ?_
 simp only[List.map_cons,List.map_nil,cQ,List.flatten_cons,List.flatten_nil,List.append_nil]
 rw[Iw ri.1,Iw rj.1,bc]
 exact rB (by simp[ER]) (xM (by omega) (by omega))
theorem ET {n o:List UInt8} {i:Int} {a b:Nat} (hx:(⟨3,n,o,[i,a]⟩:Ky).ok) (hy:(⟨3,n,o,[i,b]⟩:Ky).ok) (h:a<b):Op.bytesLess (cm ⟨3,n,o,[i,a]⟩) (cm ⟨3,n,o,[i,b]⟩)=true:=by
 have ra:=hx.r a (by simp)
 have rb:=hy.r b (by simp)
 refine xN hx hy (by simp) rfl rfl rfl ?_
 simp only[List.map_cons,List.map_nil,cQ,List.flatten_cons,List.flatten_nil,List.append_nil]
 rw[mF,Iv ra.1 3 (by decide),Iv rb.1 3 (by decide),bc]
 exact xM (by omega) (by omega)
theorem kb:∀{a b:List Pr},(a.Pairwise fun x y=>Op.bytesLess x.k y.k=true)→(b.Pairwise fun x y=>Op.bytesLess x.k y.k=true)→(∀p,p∈a↔p∈b)→a=b
 |[],[],_,_,_=>rfl
 |[],y::b,_,_,h=>by have:=(h y).2 (by simp);simp at this
 |x::a,[],_,_,h=>by have:=(h x).1 (by simp);simp at this
 |x::a,y::b,ha,hb,h=>by
  have ha':=List.pairwise_cons.1 ha
  have hb':=List.pairwise_cons.1 hb
  have ir:∀{u:List UInt8},¬Op.bytesLess u u=true:=fun {u} e=>by rw[Batch.bF] at e;cases e
  have hxy:x=y:=by
   rcases List.mem_cons.1 ((h x).1 (by simp)) with e|hx
   ·exact e
   ·rcases List.mem_cons.1 ((h y).2 (by simp)) with e|hy
    ·exact e.symm
    ·exact absurd (jX (hb'.1 x hx) (ha'.1 y hy)) ir
  subst hxy
  congr 1
  refine kb ha'.2 hb'.2 fun p=>⟨fun hp=>?_,fun hp=>?_⟩
  ·rcases List.mem_cons.1 ((h p).1 (by simp[hp])) with e|h1
   ·subst e;exact absurd (ha'.1 p hp) ir
   ·exact h1
  ·rcases List.mem_cons.1 ((h p).2 (by simp[hp])) with e|h1
   ·subst e;exact absurd (hb'.1 p hp) ir
   ·exact h1
end Go.Proofs.YtjnoobmaedgooaaGreat.Arch
end
section
set_option maxRecDepth 100000
namespace Go.Proofs.YtjnoobmaedgooaaGreat.Arch
open Go Go.Av Go.Proofs Go.Proofs.YtjnoobmaedgooaaGreat.C Go.Proofs.YtjnoobmaedgooaaGreat.Batch Go.Proofs.YtjnoobmaedgooaaGreat.Desk
theorem wC {α β:Type} {f:α→β}:∀{l:List α},(l.Pairwise fun a b=>f a≠f b)→∀a∈l,∀b∈l,f a=f b→a=b
 |[],_,a,ha,_,_,_=>by cases ha
 |x::l,h,a,ha,b,hb,e=>by
  obtain ⟨h1,h2⟩:=List.pairwise_cons.1 h
  rcases List.mem_cons.1 ha with ha1|ha1
  ·rcases List.mem_cons.1 hb with hb1|hb1
   ·rw[ha1,hb1]
   ·exact absurd (ha1▸e) (h1 b hb1)
  ·rcases List.mem_cons.1 hb with hb1|hb1
   ·exact absurd (hb1▸e.symm) (h1 a ha1)
   ·exact wC h2 a ha1 b hb1 e
section
variable {m:List Bk} (h:imB m=true)
include h
theorem Ad {b:Bk} (hb:b∈m):(kyB b).ok:=jY h _ (List.mem_flatten.2 ⟨_,List.mem_map.2 ⟨b,hb,rfl⟩,by simp[sn]⟩)
theorem ui {b:Bk} (hb:b∈m) {v:Vs} (hv:v∈b.l):(kyV b.n v).ok:=
 jY h _ (List.mem_flatten.2 ⟨_,List.mem_map.2 ⟨b,hb,rfl⟩,List.mem_cons.2 (.inr (List.mem_flatten.2 ⟨_,List.mem_map.2 ⟨v,hv,rfl⟩,by simp[sk]⟩))⟩)
theorem uj {b:Bk} (hb:b∈m) {v:Vs} (hv:v∈b.l) {k:Nat} (hk:k<ez v.b):(kyC b.n v k).ok:=
 jY h _ (List.mem_flatten.2 ⟨_,List.mem_map.2 ⟨b,hb,rfl⟩,List.mem_cons.2 (.inr (List.mem_flatten.2 ⟨_,List.mem_map.2 ⟨v,hv,rfl⟩,List.mem_cons.2 (.inr (List.mem_map.2 ⟨k,List.mem_range.2 hk,rfl⟩))⟩))⟩)
theorem CT (p:Pr):p∈aU m↔(∃b∈m,p=⟨cm (kyB b),stS b.st⟩)∨(∃b∈m,∃v∈b.l,p=⟨cm (kyV b.n v),gT v⟩)∨(∃b∈m,∃v∈b.l,∃k,k<ez v.b∧p=⟨cm (kyC b.n v k),chunk v.b k⟩):=by
 unfold aU
 rw[List.mem_flatten]
 constructor
 ·rintro ⟨l,hl,hp⟩
  obtain ⟨b,hb,rfl⟩:=List.mem_map.1 hl
  unfold fg at hp
  obtain ⟨c,hc,rfl⟩:=List.mem_map.1 hp
  obtain ⟨r,hr,hc⟩:=List.mem_flatten.1 hc
  unfold cC at hr
  rcases List.mem_cons.1 hr with rfl|hr
  ·simp only[List.mem_singleton] at hc
   subst hc
   exact .inl ⟨b,hb,by simp[dZ,vO,fT (Ad h hb)]⟩
  ·obtain ⟨v,hv,rfl⟩:=List.mem_map.1 hr
   unfold dx at hc
   rcases List.mem_cons.1 hc with rfl|hc
   ·exact .inr (.inl ⟨b,hb,v,hv,by simp[dZ,chV,fT (ui h hb hv)]⟩)
   ·obtain ⟨k,hk,rfl⟩:=List.mem_map.1 hc
    have hk:=List.mem_range.1 hk
    exact .inr (.inr ⟨b,hb,v,hv,k,hk,by simp[dZ,chC,fT (uj h hb hv hk)]⟩)
 ·rintro (⟨b,hb,rfl⟩|⟨b,hb,v,hv,rfl⟩|⟨b,hb,v,hv,k,hk,rfl⟩)
  ·refine ⟨fg b,List.mem_map.2 ⟨b,hb,rfl⟩,?_⟩
   exact List.mem_map.2 ⟨vO b,List.mem_flatten.2 ⟨[vO b],by simp[cC],by simp⟩,by simp[dZ,vO,fT (Ad h hb)]⟩
  ·refine ⟨fg b,List.mem_map.2 ⟨b,hb,rfl⟩,?_⟩
   exact List.mem_map.2 ⟨chV b.n v,List.mem_flatten.2 ⟨dx b.n v,List.mem_cons.2 (.inr (List.mem_map.2 ⟨v,hv,rfl⟩)),by simp[dx]⟩,by simp[dZ,chV,fT (ui h hb hv)]⟩
  ·refine ⟨fg b,List.mem_map.2 ⟨b,hb,rfl⟩,?_⟩
   exact List.mem_map.2 ⟨chC b.n v k,List.mem_flatten.2 ⟨dx b.n v,List.mem_cons.2 (.inr (List.mem_map.2 ⟨v,hv,rfl⟩)),List.mem_cons.2 (.inr (List.mem_map.2 ⟨k,List.mem_range.2 hk,rfl⟩))⟩,by simp[dZ,chC,fT (uj h hb hv hk)]⟩
theorem kK (p:Pr):p∈aQ (aU m)↔(∃b∈m,p=⟨cm (kyB b),stS b.st⟩)∨(∃b∈m,∃v∈b.l,p=⟨cm (kyV b.n v),gT v⟩)∨(∃b∈m,∃v∈b.l,∃k,k<ez v.b∧p=⟨cm (kyC b.n v k),chunk v.b k⟩):=
 ((lG (dK h) (jo h)).2 p).trans (CT h p)
theorem CU {a b:Bk} (ha:a∈m) (hb:b∈m) (e:a.n=b.n):a=b:=
 wC (f:=Bk.n) ((iQ h).imp fun hn=>ox hn) a ha b hb e
theorem EU {b:Bk} (hb:b∈m) {u v:Vs} (hu:u∈b.l) (hv:v∈b.l) (e1:u.o=v.o) (e2:u.id=v.id):u=v:=
 wC (f:=fun v:Vs=>(v.o,v.id)) ((oB (jz h hb)).imp fun hn e=>by
  simp only[Prod.mk.injEq] at e
  rcases next_ne hn with h1|h1
  ·exact h1 e.1
  ·exact h1 e.2) u hu v hv (by rw[e1,e2])
theorem pB {b:Bk} (hb:b∈m):bq (cm (kyB b))=kyB b:=(fX (Ad h hb)).2
theorem pV {b:Bk} (hb:b∈m) {v:Vs} (hv:v∈b.l):bq (cm (kyV b.n v))=kyV b.n v:=(fX (ui h hb hv)).2
theorem pC {b:Bk} (hb:b∈m) {v:Vs} (hv:v∈b.l) {k:Nat} (hk:k<ez v.b):bq (cm (kyC b.n v k))=kyC b.n v k:=(fX (uj h hb hv hk)).2
end
theorem eU {m:List Bk} (q:Pr→Bool):((aQ (aU m)).filter q).Pairwise fun x y=>Op.bytesLess x.k y.k=true:=(gU (aU m)).sublist List.filter_sublist
def BP (m:List Bk):List Pr:=m.map fun b=>⟨cm (kyB b),stS b.st⟩
def VP (b:Bk):List Pr:=b.l.map fun v=>⟨cm (kyV b.n v),gT v⟩
def CP (n:List UInt8) (v:Vs):List Pr:=(List.range (ez v.b)).map fun k=>⟨cm (kyC n v k),chunk v.b k⟩
def isK (k:Int) (p:Pr):Bool:=decide ((bq p.k).k=k)
def gB (n o:List UInt8) (id:Int) (p:Pr):Bool:=decide ((bq p.k).k=3)&&(decide ((bq p.k).b=n)&&(decide ((bq p.k).o=o)&&decide ((bq p.k).ns.getD 0 0=id)))
section
variable {m:List Bk} (h:imB m=true)
include h
theorem EV:(BP m).Pairwise fun x y=>Op.bytesLess x.k y.k=true:=by
 unfold BP
 refine List.pairwise_map.2 (List.Pairwise.imp_of_mem (fun {a b} ha hb hn=>?_) (iQ h))
 exact uh (Ad h ha) (Ad h hb) rfl hn
theorem EW {b:Bk} (hb:b∈m):(VP b).Pairwise fun x y=>Op.bytesLess x.k y.k=true:=by
 unfold VP
 refine List.pairwise_map.2 (List.Pairwise.imp_of_mem (fun {u v} hu hv hn=>?_) (oB (jz h hb)))
 unfold Vs.next at hn
 simp only[Bool.or_eq_true,Bool.and_eq_true,decide_eq_true_eq] at hn
 have ou:=ui h hb hu
 have ov:=ui h hb hv
 rcases hn with hn|⟨e,hn⟩
 ·exact EP ou ov (by simp[kyV]) rfl rfl hn
 ·obtain ⟨o,i⟩:=u
  obtain ⟨o',j⟩:=v
  simp only at e hn
  subst e
  exact ES ou ov hn
theorem EX {b:Bk} (hb:b∈m) {v:Vs} (hv:v∈b.l):(CP b.n v).Pairwise fun x y=>Op.bytesLess x.k y.k=true:=by
 unfold CP
 refine List.pairwise_map.2 (List.Pairwise.imp_of_mem (fun {x y} hx hy hn=>?_) List.pairwise_lt_range)
 exact ET (uj h hb hv (List.mem_range.1 hx)) (uj h hb hv (List.mem_range.1 hy)) hn
theorem EY:((m.map VP).flatten).Pairwise fun x y=>Op.bytesLess x.k y.k=true:=by
 refine List.pairwise_flatten.2 ⟨fun l hl=>?_,?_⟩
 ·obtain ⟨b,hb,rfl⟩:=List.mem_map.1 hl
  exact EW h hb
 ·refine List.pairwise_map.2 (List.Pairwise.imp_of_mem (fun {a b} ha hb hn x hx y hy=>?_) (iQ h))
  obtain ⟨u,hu,rfl⟩:=List.mem_map.1 hx
  obtain ⟨v,hv,rfl⟩:=List.mem_map.1 hy
  exact uh (ui h ha hu) (ui h hb hv) rfl hn
theorem Ix:(aQ (aU m)).filter (isK 1)=BP m:=by
 refine kb (eU _) (EV h) fun p=>?_
 rw[List.mem_filter,kK h]
 unfold BP isK
 rw[List.mem_map]
 constructor
 ·rintro ⟨⟨b,hb,rfl⟩|⟨b,hb,v,hv,rfl⟩|⟨b,hb,v,hv,k,hk,rfl⟩,hq⟩
  ·exact ⟨b,hb,rfl⟩
  ·simp only[pV h hb hv] at hq;simp[kyV] at hq
  ·simp only[pC h hb hv hk] at hq;simp[kyC] at hq
 ·rintro ⟨b,hb,rfl⟩
  exact ⟨.inl ⟨b,hb,rfl⟩,by simp only[pB h hb];simp[kyB]⟩
theorem FD {b:Bk} (hb:b∈m) {v:Vs} (hv:v∈b.l):(aQ (aU m)).filter (gB b.n v.o v.id)=CP b.n v:=by
 refine kb (eU _) (EX h hb hv) fun p=>?_
 rw[List.mem_filter,kK h]
 unfold CP gB
 rw[List.mem_map]
 constructor
 ·rintro ⟨⟨c,hc,rfl⟩|⟨c,hc,u,hu,rfl⟩|⟨c,hc,u,hu,k,hk,rfl⟩,hq⟩
  ·simp only[pB h hc] at hq;simp[kyB] at hq
  ·simp only[pV h hc hu] at hq;simp[kyV] at hq
  ·simp only[pC h hc hu hk] at hq
   simp[kyC] at hq
   obtain ⟨e1,e2,e3⟩:=hq
   obtain rfl:=CU h hc hb (of_decide_eq_true e1)
   obtain rfl:=EU h hc hu hv (of_decide_eq_true e2) e3
   exact ⟨k,List.mem_range.2 hk,rfl⟩
 ·rintro ⟨k,hk,rfl⟩
  have hk:=List.mem_range.1 hk
  exact ⟨.inr (.inr ⟨b,hb,v,hv,k,hk,rfl⟩),by simp only[pC h hb hv hk];simp[kyC]⟩
theorem GF:(aQ (aU m)).filter (isK 2)=(m.map VP).flatten:=by
 refine kb (eU _) (EY h) fun p=>?_
 rw[List.mem_filter,kK h,List.mem_flatten]
 unfold isK
 constructor
 ·rintro ⟨⟨c,hc,rfl⟩|⟨c,hc,v,hv,rfl⟩|⟨c,hc,v,hv,k,hk,rfl⟩,hq⟩
  ·simp only[pB h hc] at hq;simp[kyB] at hq
  ·exact ⟨VP c,List.mem_map.2 ⟨c,hc,rfl⟩,List.mem_map.2 ⟨v,hv,rfl⟩⟩
  ·simp only[pC h hc hv hk] at hq;simp[kyC] at hq
 ·rintro ⟨l,hl,hp⟩
  obtain ⟨b,hb,rfl⟩:=List.mem_map.1 hl
  obtain ⟨v,hv,rfl⟩:=List.mem_map.1 hp
  exact ⟨.inr (.inl ⟨b,hb,v,hv,rfl⟩),by simp only[pV h hb hv];simp[kyV]⟩
theorem Ae:aQ (aU m)=(aQ (aU m)).filter (isK 1)++((aQ (aU m)).filter (isK 3)++(aQ (aU m)).filter (isK 2)):=by
 have kind:∀p∈aQ (aU m),∃x:Ky,p.k=cm x∧bq p.k=x∧(x.k=1∨x.k=2∨x.k=3):=fun p hp=>by
  rcases (kK h p).1 hp with ⟨b,hb,rfl⟩|⟨b,hb,v,hv,rfl⟩|⟨b,hb,v,hv,k,hk,rfl⟩
  ·exact ⟨_,rfl,pB h hb,.inl rfl⟩
  ·exact ⟨_,rfl,pV h hb hv,.inr (.inl rfl)⟩
  ·exact ⟨_,rfl,pC h hb hv hk,.inr (.inr rfl)⟩
 refine kb (gU _) (List.pairwise_append.2 ⟨eU _,List.pairwise_append.2 ⟨eU _,eU _,?_⟩,?_⟩) fun p=>?_
 ·intro x hx y hy
  obtain ⟨hx,kx⟩:=List.mem_filter.1 hx
  obtain ⟨hy,ky⟩:=List.mem_filter.1 hy
  obtain ⟨a,e1,e2,-⟩:=kind x hx
  obtain ⟨b,f1,f2,-⟩:=kind y hy
  unfold isK at kx ky
  rw[e2] at kx
  rw[f2] at ky
  have k1:a.k=3:=by simpa using kx
  have k2:b.k=2:=by simpa using ky
  rw[e1,f1]
  exact pS (by rw[k1,k2];decide)
 ·intro x hx y hy
  obtain ⟨hx,kx⟩:=List.mem_filter.1 hx
  obtain ⟨a,e1,e2,-⟩:=kind x hx
  unfold isK at kx
  rw[e2] at kx
  have k1:a.k=1:=by simpa using kx
  rcases List.mem_append.1 hy with hy|hy
  all_goals
   obtain ⟨hy,ky⟩:=List.mem_filter.1 hy
   obtain ⟨b,f1,f2,-⟩:=kind y hy
   unfold isK at ky
   rw[f2] at ky
   rw[e1,f1]
  ·have k2:b.k=3:=by simpa using ky
   exact pS (by rw[k1,k2];decide)
  ·have k2:b.k=2:=by simpa using ky
   exact pS (by rw[k1,k2];decide)
 ·rw[List.mem_append,List.mem_append,List.mem_filter,List.mem_filter,List.mem_filter]
  constructor
  ·intro hp
   obtain ⟨a,e1,e2,hk⟩:=kind p hp
   unfold isK
   rw[e2]
   rcases hk with hk|hk|hk
   ·exact .inl ⟨hp,by simp[hk]⟩
   ·exact .inr (.inr ⟨hp,by simp[hk]⟩)
   ·exact .inr (.inl ⟨hp,by simp[hk]⟩)
  ·rintro (hp|hp|hp)
   all_goals exact hp.1
end
end Go.Proofs.YtjnoobmaedgooaaGreat.Arch
end
section
set_option maxRecDepth 100000
namespace Go.Proofs.YtjnoobmaedgooaaGreat.Arch
open Go Go.Av Go.Proofs Go.Proofs.YtjnoobmaedgooaaGreat.C Go.Proofs.YtjnoobmaedgooaaGreat.Batch Go.Proofs.YtjnoobmaedgooaaGreat.Desk
theorem nS (s:List UInt8):∀n:Nat,((List.range n).map (chunk s)).flatten=s.take (160*n)
 |0=>by simp
 |n+1=>by
  rw[List.range_succ,List.map_append,List.flatten_append,nS s n]
  simp only[List.map_cons,List.map_nil,List.flatten_cons,List.flatten_nil,List.append_nil,chunk]
  have e:s.take (min s.length (160*n+160))=s.take (160*n+160):=by
   by_cases h:s.length≤160*n+160
   ·rw[Nat.min_eq_left h,List.take_of_length_le h,List.take_of_length_le (Nat.le_refl _)]
   ·rw[Nat.min_eq_right (by omega)]
  rw[e,show 160*(n+1)=160*n+160 by omega,List.drop_take,show 160*n+160 - 160*n=160 by omega,List.take_add]
theorem wD (s:List UInt8):((List.range (ez s)).map (chunk s)).flatten=s:=by
 rw[nS,List.take_of_length_le (by unfold ez;omega)]
theorem EZ {v:Int} (h:nV v=true):stV (stS v)=v∧pP (stS v)=true:=by
 rcases tD v with (rfl|rfl|rfl)|⟨h2,-⟩
 ·exact ⟨by decide,by decide⟩
 ·exact ⟨by decide,by decide⟩
 ·exact ⟨by decide,by decide⟩
 ·rw[h] at h2;cases h2
theorem E0 {sz re im:Int} {g:Bool} (h:eF sz re im g=true) (u:Bool):hdB (cI sz re im g u)=true∧hdO (cI sz re im g u)=⟨sz,re,im,g,u⟩:=by
 have h':=h
 unfold eF jl at h'
 simp only[Bool.and_eq_true,decide_eq_true_eq] at h'
 have hs:cI sz re im g u=dU sz.toNat re.toNat im.toNat g u:=by unfold cI;rw[if_pos h]
 have hl:(dU sz.toNat re.toNat im.toNat g u).length=11:=dc _ _ _ _ _
 have e2:(256:Nat)^2=65536:=by decide
 have e4:(256:Nat)^4=4294967296:=by decide
 have hc:hdC (dU sz.toNat re.toNat im.toNat g u)=⟨sz,re,im,g,u⟩:=by
  have f1:dU sz.toNat re.toNat im.toNat g u=UInt8.ofNat (flN g u)::(be 2 sz.toNat++be 4 re.toNat++be 4 im.toNat):=by
   have e1:be 1 (flN g u)=[UInt8.ofNat (flN g u)]:=by simp[be]
   unfold dU
   rw[e1]
   simp
  have d1:((dU sz.toNat re.toNat im.toNat g u).drop 1).take 2=be 2 sz.toNat:=by
   rw[f1,List.drop_succ_cons,List.drop_zero,List.append_assoc,List.take_left' (aH _ _)]
  have d2:((dU sz.toNat re.toNat im.toNat g u).drop 3).take 4=be 4 re.toNat:=by
   rw[f1,List.drop_succ_cons,List.append_assoc,List.drop_left' (aH _ _),List.take_left' (aH _ _)]
  have d3:((dU sz.toNat re.toNat im.toNat g u).drop 7).take 4=be 4 im.toNat:=by
   rw[f1,List.drop_succ_cons,List.drop_left' (by simp[aH]),List.take_of_length_le (by simp[aH])]
  have g0:(dU sz.toNat re.toNat im.toNat g u).getD 0 0=UInt8.ofNat (flN g u):=by rw[f1];rfl
  unfold hdC
  rw[d1,d2,d3,g0,fU,fU,fU,e2,e4,Nat.mod_eq_of_lt (by omega),Nat.mod_eq_of_lt (by omega),Nat.mod_eq_of_lt (by omega)]
  have k1:((sz.toNat:Nat):Int)=sz:=by omega
  have k2:((re.toNat:Nat):Int)=re:=by omega
  have k3:((im.toNat:Nat):Int)=im:=by omega
  rw[k1,k2,k3]
  cases g<;>cases u<;>rfl
 have hb:hdB (dU sz.toNat re.toNat im.toNat g u)=true:=by
  unfold hdB
  rw[hc,hl]
  simp only[h,decide_true,Bool.and_self]
 rw[hs]
 refine ⟨hb,?_⟩
 unfold hdO
 rw[if_pos hb,hc]
theorem CV {v:Vs} (h:v.okV=true):eF v.sz v.re v.im v.g=true:=by
 simp only[Vs.okV,Vs.fit,Vs.rh,Bool.and_eq_true,decide_eq_true_eq] at h
 exact h.2.1.1
theorem FE {b:Bk} (h:gw b=true):nV b.st=true:=by
 unfold gw at h
 simp only[Bool.and_eq_true,decide_eq_true_eq] at h
 exact h.1.2
theorem lL {v:Vs} (h:v.okV=true):hdB (gT v)=true∧hdO (gT v)=⟨v.sz,v.re,v.im,v.g,v.u⟩:=E0 (CV h) v.u
end Go.Proofs.YtjnoobmaedgooaaGreat.Arch
end
section
set_option maxRecDepth 100000
namespace Go.Proofs.YtjnoobmaedgooaaGreat.Arch
open Go Go.Av Go.Proofs Go.Proofs.YtjnoobmaedgooaaGreat.C Go.Proofs.YtjnoobmaedgooaaGreat.Batch Go.Proofs.YtjnoobmaedgooaaGreat.Desk
structure Pc where
 b:List UInt8
 o:List UInt8
 id:Int
 s:List UInt8
 n:Int
def eK (b o:List UInt8) (id:Int) (p:Pc):Bool:=decide (b=p.b)&&(decide (o=p.o)&&(decide (id=p.id)&&true))
def nZ (b o:List UInt8) (id:Int):List AV:=[.str b,.str o,.int .i64 id]
def sw (s:List UInt8) (n:Int):AV:= .agg [.str s,.int .i64 n]
def eY (q:List Pc):List (AV × AV):=q.map fun p=>(.agg (nZ p.b p.o p.id),sw p.s p.n)
def iq:List Pc→List UInt8→List UInt8→Int→Option (Nat × AV)
 |[],_,_,_=>none
 |p::q,b,o,id=>if eK b o id p then some (0,sw p.s p.n) else (iq q b o id).map fun x=>(x.1+1,x.2)
def cy:List Pc→List UInt8→List UInt8→Int→List UInt8 × Int
 |[],_,_,_=>([],0)
 |p::q,b,o,id=>if eK b o id p then (p.s,p.n) else cy q b o id
def iU:List Pc→List UInt8→List UInt8→Int→List UInt8→Int→List Pc
 |[],b,o,id,s,n=>[⟨b,o,id,s,n⟩]
 |p::q,b,o,id,s,n=>if eK b o id p then ⟨b,o,id,s,n⟩::q else p::iU q b o id s n
def iV:List Pc→List UInt8→List UInt8→Int→List Pc
 |[],_,_,_=>[]
 |p::q,b,o,id=>if eK b o id p then q else p::iV q b o id
theorem wE (b o:List UInt8) (id:Int):∀q:List Pc,dw [.str,.str,.int] (nZ b o id) (eY q)=some (iq q b o id)
 |[]=>by simp[eY,dw,iq,nZ,aW,gX]
 |p::q=>by
  have ih:=wE b o id q
  have e:aW [.str,.str,.int] (nZ b o id) (nZ p.b p.o p.id)=some (eK b o id p):=by simp[nZ,aW,gX,eK]
  have hq:eY (p::q)=(.agg (nZ p.b p.o p.id),sw p.s p.n)::eY q:=rfl
  rw[hq]
  simp only[dw,e,iq]
  cases eK b o id p with
  |true=>rfl
  |false=>simp[ih]
theorem wF (b o:List UInt8) (id:Int):∀q:List Pc,cR (.agg [.str [],.int .i64 0]) false (iq q b o id)=sw (cy q b o id).1 (cy q b o id).2
 |[]=>rfl
 |p::q=>by
  have ih:=wF b o id q
  simp only[iq,cy]
  cases eK b o id p with
  |true=>rfl
  |false=>
   simp only[Bool.false_eq_true,if_false]
   rw[←ih]
   cases iq q b o id<;>rfl
theorem FF (b o:List UInt8) (id:Int) (s:List UInt8) (n:Int):∀q:List Pc,oK (eY q) (nZ b o id) (sw s n) (iq q b o id)=eY (iU q b o id s n)
 |[]=>rfl
 |p::q=>by
  have ih:=FF b o id s n q
  have hq:eY (p::q)=(.agg (nZ p.b p.o p.id),sw p.s p.n)::eY q:=rfl
  rw[hq]
  simp only[iq,iU]
  cases eK b o id p with
  |true=>rfl
  |false=>
   simp only[Bool.false_eq_true,if_false]
   have hr:eY (p::iU q b o id s n)=(.agg (nZ p.b p.o p.id),sw p.s p.n)::eY (iU q b o id s n):=rfl
   rw[hr,←ih]
   cases iq q b o id<;>rfl
theorem FG (b o:List UInt8) (id:Int):∀q:List Pc,oJ (eY q) (iq q b o id)=eY (iV q b o id)
 |[]=>rfl
 |p::q=>by
  have ih:=FG b o id q
  have hq:eY (p::q)=(.agg (nZ p.b p.o p.id),sw p.s p.n)::eY q:=rfl
  rw[hq]
  simp only[iq,iV]
  cases eK b o id p with
  |true=>rfl
  |false=>
   simp only[Bool.false_eq_true,if_false]
   have hr:eY (p::iV q b o id)=(.agg (nZ p.b p.o p.id),sw p.s p.n)::eY (iV q b o id):=rfl
   rw[hr,←ih]
   cases iq q b o id<;>rfl
theorem CW (q:List Pc):(eY q).length=q.length:=List.length_map _
theorem dp {b o:List UInt8} {id:Int} {p:Pc}:eK b o id p=true↔b=p.b∧o=p.o∧id=p.id:=by
 simp[eK]
theorem uk (b o:List UInt8) (id:Int) (s:List UInt8) (n:Int) (b' o':List UInt8) (id':Int):∀q:List Pc,cy (iU q b o id s n) b' o' id'=if b'=b∧o'=o∧id'=id then (s,n) else cy q b' o' id'
 |[]=>by
  simp only[iU,cy]
  by_cases h:b'=b∧o'=o∧id'=id
  ·rw[if_pos h,if_pos (dp.2 h)]
  ·rw[if_neg h,if_neg (fun e=>h (dp.1 e))]
 |p::q=>by
  have ih:=uk b o id s n b' o' id' q
  simp only[iU]
  by_cases hp:eK b o id p=true
  ·rw[if_pos hp]
   obtain ⟨e1,e2,e3⟩:=dp.1 hp
   simp only[cy]
   by_cases h:b'=b∧o'=o∧id'=id
   ·rw[if_pos h,if_pos (dp.2 h)]
   ·rw[if_neg h,if_neg (fun e=>h (dp.1 e)),if_neg (fun e=>h (by obtain ⟨x,y,z⟩:=dp.1 e;exact ⟨x.trans e1.symm,y.trans e2.symm,z.trans e3.symm⟩))]
  ·rw[if_neg hp]
   simp only[cy]
   by_cases h2:eK b' o' id' p=true
   ·rw[if_pos h2,if_pos h2,if_neg]
    rintro ⟨rfl,rfl,rfl⟩
    exact hp h2
   ·rw[if_neg h2,if_neg h2,ih]
def js (q:List Pc):Prop:=q.Pairwise fun x y=>¬(x.b=y.b∧x.o=y.o∧x.id=y.id)
theorem mG {b o:List UInt8} {id:Int} {s:List UInt8} {n:Int} {x:Pc}:∀{q:List Pc},x∈iU q b o id s n→x=⟨b,o,id,s,n⟩∨x∈q
 |[],h=>by simp[iU] at h;exact .inl h
 |p::q,h=>by
  simp only[iU] at h
  split at h
  ·rcases List.mem_cons.1 h with h|h
   ·exact .inl h
   ·exact .inr (by simp[h])
  ·rcases List.mem_cons.1 h with h|h
   ·exact .inr (by simp[h])
   ·rcases mG h with h|h
    ·exact .inl h
    ·exact .inr (by simp[h])
theorem mH {b o:List UInt8} {id:Int} {x:Pc}:∀{q:List Pc},x∈iV q b o id→x∈q
 |[],h=>by simp[iV] at h
 |p::q,h=>by
  simp only[iV] at h
  split at h
  ·simp[h]
  ·rcases List.mem_cons.1 h with h|h
   ·simp[h]
   ·have:=mH h;simp[this]
theorem rC {b o:List UInt8} {id:Int} {s:List UInt8} {n:Int}:∀{q:List Pc},js q→js (iU q b o id s n)
 |[],h=>by simp[iU,js]
 |p::q,h=>by
  obtain ⟨h1,h2⟩:=List.pairwise_cons.1 h
  simp only[iU]
  split
  ·rename_i hp
   obtain ⟨e1,e2,e3⟩:=dp.1 hp
   refine List.pairwise_cons.2 ⟨fun y hy=>?_,h2⟩
   have:=h1 y hy
   simp only
   rw[e1,e2,e3];exact this
  ·rename_i hp
   refine List.pairwise_cons.2 ⟨fun y hy=>?_,rC h2⟩
   rcases mG hy with rfl|hy
   ·simp only
    rintro ⟨e1,e2,e3⟩
    exact hp (dp.2 ⟨e1.symm,e2.symm,e3.symm⟩)
   ·exact h1 y hy
theorem nv {b o:List UInt8} {id:Int}:∀{q:List Pc},js q→js (iV q b o id)∧∀x∈iV q b o id,¬(x.b=b∧x.o=o∧x.id=id)
 |[],h=>by simp[iV,js]
 |p::q,h=>by
  obtain ⟨h1,h2⟩:=List.pairwise_cons.1 h
  simp only[iV]
  split
  ·rename_i hp
   obtain ⟨e1,e2,e3⟩:=dp.1 hp
   refine ⟨h2,fun x hx=>?_⟩
   have:=h1 x hx
   rintro ⟨f1,f2,f3⟩
   exact this ⟨by rw[f1,e1],by rw[f2,e2],by rw[f3,e3]⟩
  ·rename_i hp
   obtain ⟨i1,i2⟩:=nv (b:=b) (o:=o) (id:=id) h2
   refine ⟨List.pairwise_cons.2 ⟨fun y hy=>h1 y (mH hy),i1⟩,fun x hx=>?_⟩
   rcases List.mem_cons.1 hx with rfl|hx
   ·rintro ⟨f1,f2,f3⟩
    exact hp (dp.2 ⟨f1.symm,f2.symm,f3.symm⟩)
   ·exact i2 x hx
theorem um {b o b' o':List UInt8} {id id':Int} (hn:¬(b'=b∧o'=o∧id'=id)):∀q:List Pc,cy (iV q b o id) b' o' id'=cy q b' o' id'
 |[]=>rfl
 |p::q=>by
  have ih:=um hn q
  simp only[iV]
  by_cases hp:eK b o id p=true
  ·rw[if_pos hp]
   simp only[cy]
   rw[if_neg]
   intro e
   obtain ⟨e1,e2,e3⟩:=dp.1 hp
   obtain ⟨f1,f2,f3⟩:=dp.1 e
   exact hn ⟨by rw[f1,e1],by rw[f2,e2],by rw[f3,e3]⟩
  ·rw[if_neg hp]
   simp only[cy]
   rw[ih]
def kY (ns:List (List UInt8)) (nm:List UInt8):Nat→Nat→Nat→Nat
 |0,i,_=>i
 |f+1,i,j=>if i<j then (if Op.bytesLess (ns.getD ((i+j)/2) []) nm then kY ns nm f ((i+j)/2+1) j else kY ns nm f i ((i+j)/2)) else i
def jB (ns:List (List UInt8)) (nm:List UInt8):Nat:=kY ns nm ns.length 0 ns.length
def fw (ns:List (List UInt8)) (nm:List UInt8):Bool:=decide (jB ns nm<ns.length)&&decide (ns.getD (jB ns nm) []=nm)
theorem pT {ns:List (List UInt8)} (hs:ns.Pairwise fun a b=>Op.bytesLess a b=true) {z:Nat} (hz:z<ns.length):∀(f i j:Nat),j - i≤f→i≤z→z≤j→j≤ns.length→kY ns (ns.getD z []) f i j=z
 |0,i,j,h1,h2,h3,h4=>by simp only[kY];omega
 |f+1,i,j,h1,h2,h3,h4=>by
  simp only[kY]
  by_cases hij:i<j
  ·rw[if_pos hij]
   have a1:(i+j)/2<j:=by omega
   have a2:i≤(i+j)/2:=by omega
   have pw:=List.pairwise_iff_getElem.1 hs
   generalize (i+j)/2=c at*
   have gc:ns.getD c []=ns[c]'(by omega):=by simp[List.getD,List.getElem?_eq_getElem (show c<ns.length by omega)]
   have gz:ns.getD z []=ns[z]:=by simp[List.getD,List.getElem?_eq_getElem hz]
   by_cases hl:Op.bytesLess (ns.getD c []) (ns.getD z [])=true
   ·rw[if_pos hl]
    have hcz:c<z:=by
     rcases Nat.lt_trichotomy c z with h|h|h
     ·exact h
     ·subst h;rw[Batch.bF] at hl;cases hl
     ·have:=pw z c hz (by omega) h
      rw[gc,gz] at hl
      have:=Batch.eD this hl
      rw[Batch.bF] at this;cases this
    exact pT hs hz f (c+1) j (by omega) (by omega) h3 h4
   ·rw[if_neg hl]
    have hcz:z≤c:=by
     rcases Nat.lt_or_ge c z with h|h
     ·have:=pw c z (by omega) hz h
      rw[gc,gz] at hl
      exact absurd this hl
     ·exact h
    exact pT hs hz f i c (by omega) h2 hcz (by omega)
  ·rw[if_neg hij];omega
theorem E1 {ns:List (List UInt8)} (hs:ns.Pairwise fun a b=>Op.bytesLess a b=true) {z:Nat} (hz:z<ns.length):jB ns (ns.getD z [])=z∧fw ns (ns.getD z [])=true:=by
 have h:jB ns (ns.getD z [])=z:=pT hs hz _ _ _ (by omega) (by omega) (by omega) (Nat.le_refl _)
 refine ⟨h,?_⟩
 unfold fw
 rw[h]
 simp[hz]
abbrev SS:=List Bk × List Pc
def pU (m:List Bk) (i:Nat) (v:Vs):List Bk:=m.set i ⟨(m.getD i default).n,(m.getD i default).st,(m.getD i default).l++[v]⟩
def uo (k:Ky) (hd:Hd) (b:List UInt8):Vs:=⟨k.o,k.ns.getD 0 0,hd.sz,hd.re,hd.im,hd.g,hd.u,b⟩
def jC (S:SS) (k:Ky) (v:List UInt8):Option SS:=
 if k.k=1 then (if pP v=true then some (S.1++[⟨k.b,stV v,[]⟩],S.2) else none)
 else if k.k=3 then (if k.ns.getD 1 0=(cy S.2 k.b k.o (k.ns.getD 0 0)).2 then some (S.1,iU S.2 k.b k.o (k.ns.getD 0 0) ((cy S.2 k.b k.o (k.ns.getD 0 0)).1++v) ((cy S.2 k.b k.o (k.ns.getD 0 0)).2+1)) else none)
 else if k.k=2 then (if hdB v=true then (if fw (S.1.map Bk.n) k.b=true then some (pU S.1 (jB (S.1.map Bk.n) k.b) (uo k (hdO v) (cy S.2 k.b k.o (k.ns.getD 0 0)).1),iV S.2 k.b k.o (k.ns.getD 0 0)) else none) else none)
 else none
def jt (S:SS) (p:Pr):Option SS:=if eJ p.k=true then jC S (bq p.k) p.v else none
def ju (l:List Pr):Nat→Option SS
 |0=>some ([],[])
 |j+1=>(ju l j).bind fun S=>if (decide (j=0)||Op.bytesLess (l.getD (j - 1) default).k (l.getD j default).k)=true then jt S (l.getD j default) else none
def fF:SS→List Pr→Option SS
 |S,[]=>some S
 |S,p::l=>(jt S p).bind fun S'=>fF S' l
theorem fY:∀(a b:List Pr) (S:SS),fF S (a++b)=(fF S a).bind fun S'=>fF S' b
 |[],b,S=>rfl
 |p::a,b,S=>by
  simp only[List.cons_append,fF]
  cases jt S p with
  |none=>rfl
  |some S'=>exact fY a b S'
theorem uq {l:List Pr} (h:l.Pairwise fun x y=>Op.bytesLess x.k y.k=true):∀j,j≤l.length→ju l j=fF ([],[]) (l.take j)
 |0,_=>rfl
 |j+1,hj=>by
  have hlt:j<l.length:=by omega
  have e:l.getD j default=l[j]:=by simp[List.getD,List.getElem?_eq_getElem hlt]
  have hc:(decide (j=0)||Op.bytesLess (l.getD (j - 1) default).k (l.getD j default).k)=true:=by
   rcases Nat.eq_zero_or_pos j with h0|h0
   ·simp[h0]
   ·have e1:l.getD (j - 1) default=l[j - 1]:=by simp[List.getD,List.getElem?_eq_getElem (show j - 1<l.length by omega)]
    rw[e,e1,List.pairwise_iff_getElem.1 h (j - 1) j (by omega) hlt (by omega)]
    simp
  rw[List.take_succ_eq_append_getElem hlt,fY,←uq h j (by omega)]
  simp only[ju]
  congr 1
  funext S
  rw[if_pos hc,e]
  simp only[fF]
  cases jt S l[j] <;>rfl
def bare (b:Bk):Bk:=⟨b.n,b.st,[]⟩
section
variable {m:List Bk} (h:imB m=true)
include h
theorem Iy {b:Bk} (hb:b∈m) (S:SS):jt S ⟨cm (kyB b),stS b.st⟩=some (S.1++[bare b],S.2):=by
 obtain ⟨e1,e2⟩:=EZ (FE (jz h hb))
 unfold jt
 rw[if_pos (fX (Ad h hb)).1,pB h hb]
 simp[jC,kyB,e1,e2,bare]
theorem CX:∀(a:List Bk) (S:SS),(∀b∈a,b∈m)→fF S (BP a)=some (S.1++a.map bare,S.2)
 |[],S,_=>by simp[BP,fF]
 |b::a,S,hs=>by
  have e:BP (b::a)=⟨cm (kyB b),stS b.st⟩::BP a:=rfl
  rw[e]
  simp only[fF]
  rw[Iy h (hs b (by simp))]
  simp only[Option.bind_some]
  rw[CX a _ fun c hc=>hs c (by simp[hc])]
  simp
end
def QPc (q:List Pc) (C:List Pr):Prop:=js q∧(∀n o id,cy q n o id=(((C.filter (gB n o id)).map Pr.v).flatten,((C.filter (gB n o id)).length:Int)))∧∀p∈q,∃x∈C,gB p.b p.o p.id x=true
def FH (C:List Pr):Prop:=∀a p b,C=a++p::b→eJ p.k=true∧(bq p.k).k=3∧(bq p.k).ns.getD 1 0=((a.filter (gB (bq p.k).b (bq p.k).o ((bq p.k).ns.getD 0 0))).length:Int)
theorem nw {p:Pr} (hk:(bq p.k).k=3) (n o:List UInt8) (id:Int):gB n o id p=true↔n=(bq p.k).b∧o=(bq p.k).o∧id=(bq p.k).ns.getD 0 0:=by
 unfold gB
 rw[hk]
 simp only[decide_true,Bool.true_and,Bool.and_eq_true,decide_eq_true_eq]
 constructor
 ·rintro ⟨a,b,c⟩;exact ⟨a.symm,b.symm,c.symm⟩
 ·rintro ⟨a,b,c⟩;exact ⟨a.symm,b.symm,c.symm⟩
theorem GG (m:List Bk) (C:List Pr) (hC:FH C):∃q,fF (m,[]) C=some (m,q)∧QPc q C:=by
 induction C using oA with
 |h0=>exact ⟨[],rfl,by simp[js],fun n o id=>rfl,fun p hp=>by cases hp⟩
 |h1 a x ih=>
  obtain ⟨q,hq,h1,h2,h3⟩:=ih fun u p v e=>hC u p (v++[x]) (by rw[e];simp)
  obtain ⟨g1,g2,g3⟩:=hC a x [] rfl
  have hadd:jt (m,q) x=some (m,iU q (bq x.k).b (bq x.k).o ((bq x.k).ns.getD 0 0) ((cy q (bq x.k).b (bq x.k).o ((bq x.k).ns.getD 0 0)).1++x.v) ((cy q (bq x.k).b (bq x.k).o ((bq x.k).ns.getD 0 0)).2+1)):=by
   unfold jt
   rw[if_pos g1]
   unfold jC
   rw[if_neg (by rw[g2];decide),if_pos g2,if_pos]
   simp only
   rw[g3,h2]
  refine ⟨_,by rw[fY,hq];simp only[Option.bind_some,fF];rw[hadd];rfl,rC h1,fun n o id=>?_,fun p hp=>?_⟩
  ·rw[uk,List.filter_append]
   by_cases hp:n=(bq x.k).b∧o=(bq x.k).o∧id=(bq x.k).ns.getD 0 0
   ·rw[if_pos hp]
    have hc:=(nw g2 n o id).2 hp
    have e:List.filter (gB n o id) [x]=[x]:=by simp[hc]
    obtain ⟨rfl,rfl,rfl⟩:=hp
    rw[e,h2]
    simp
   ·rw[if_neg hp,h2]
    have e:List.filter (gB n o id) [x]=[]:=by
     simp only[List.filter_cons,List.filter_nil]
     rw[if_neg fun hc=>hp ((nw g2 n o id).1 hc)]
    rw[e,List.append_nil]
  ·rcases mG hp with rfl|hp
   ·exact ⟨x,by simp,(nw g2 _ _ _).2 ⟨rfl,rfl,rfl⟩⟩
   ·obtain ⟨y,hy,e⟩:=h3 p hp
    exact ⟨y,by simp[hy],e⟩
theorem CY {m:List Bk} (n o:List UInt8) (id:Int):((aQ (aU m)).filter (isK 3)).filter (gB n o id)=(aQ (aU m)).filter (gB n o id):=by
 rw[List.filter_filter]
 refine List.filter_congr fun x _=>?_
 unfold gB isK
 cases decide ((bq x.k).k=3)<;>simp
section
variable {m:List Bk} (h:imB m=true)
include h
theorem GH:FH ((aQ (aU m)).filter (isK 3)):=by
 intro a p b e
 have hp:p∈(aQ (aU m)).filter (isK 3):=by rw[e];simp
 obtain ⟨hp,hk⟩:=List.mem_filter.1 hp
 rcases (kK h p).1 hp with ⟨c,hc,rfl⟩|⟨c,hc,v,hv,rfl⟩|⟨c,hc,v,hv,k,hkc,rfl⟩
 ·unfold isK at hk;simp only[pB h hc] at hk;simp[kyB] at hk
 ·unfold isK at hk;simp only[pV h hc hv] at hk;simp[kyV] at hk
 ·have f:=congrArg (List.filter (gB c.n v.o v.id)) e
  rw[CY,FD h hc hv,List.filter_append,List.filter_cons] at f
  have hself:gB c.n v.o v.id ⟨cm (kyC c.n v k),chunk v.b k⟩=true:=by
   unfold gB
   simp only[pC h hc hv hkc]
   simp[kyC]
  rw[if_pos hself] at f
  simp only[pC h hc hv hkc]
  refine ⟨(fX (uj h hc hv hkc)).1,rfl,?_⟩
  show (k:Int)=_
  have hlen:(a.filter (gB c.n v.o v.id)).length<(CP c.n v).length:=by rw[f];simp
  have hcl:(CP c.n v).length=ez v.b:=by simp[CP]
  have g:(CP c.n v)[(a.filter (gB c.n v.o v.id)).length]? =some ⟨cm (kyC c.n v k),chunk v.b k⟩:=by rw[f];simp
  have g2:(CP c.n v)[(a.filter (gB c.n v.o v.id)).length]? =some ⟨cm (kyC c.n v (a.filter (gB c.n v.o v.id)).length),chunk v.b (a.filter (gB c.n v.o v.id)).length⟩:=by
   unfold CP
   rw[List.getElem?_map,List.getElem?_range (by omega)]
   rfl
  rw[g] at g2
  simp only[Option.some.injEq,Pr.mk.injEq] at g2
  have hkey:=key_inj (uj h hc hv hkc) (uj h hc hv (by omega)) g2.1
  have e0:c.n=(kyC c.n v k).b:=rfl
  have ek:(kyC c.n v k).ns.getD 0 0=v.id:=rfl
  rw[ek]
  show (k:Int)=((a.filter (gB c.n v.o v.id)).length:Int)
  simp only[kyC,Ky.mk.injEq,true_and,List.cons.injEq,and_true] at hkey
  exact hkey
end
def Q3 (q:List Pc) (R:List (List UInt8 × Vs)):Prop:=js q∧(∀r∈R,(cy q r.1 r.2.o r.2.id).1=r.2.b)∧∀p∈q,∃r∈R,p.b=r.1∧p.o=r.2.o∧p.id=r.2.id
def E2 (r:List UInt8 × Vs):Pr:=⟨cm (kyV r.1 r.2),gT r.2⟩
theorem CZ {v:Vs} (hv:v.okV=true) (n:List UInt8):uo (kyV n v) (hdO (gT v)) v.b=v:=by
 rw[(lL hv).2]
 rfl
theorem Iz {m:List Bk} (h:imB m=true) {b:Bk} (hb:b∈m) {v:Vs} (hv:v∈b.l) (S:SS) (hn:S.1.map Bk.n=m.map Bk.n) {i:Nat} (hi:i<m.length) (hbi:m.getD i default=b) {R:List (List UInt8 × Vs)} (hq:Q3 S.2 ((b.n,v)::R)) (hR:∀r∈R,¬(r.1=b.n∧r.2.o=v.o∧r.2.id=v.id)):
  ∃q',jt S (E2 (b.n,v))=some (pU S.1 i v,q')∧Q3 q' R:=by
 obtain ⟨h1,h2,h3⟩:=hq
 have hov:=rp (jz h hb) hv
 have hbody:(cy S.2 b.n v.o v.id).1=v.b:=h2 (b.n,v) (by simp)
 have hrise:(m.map Bk.n).Pairwise fun a b=>Op.bytesLess a b=true:=List.pairwise_map.2 (iQ h)
 have hnm:(m.map Bk.n).getD i []=b.n:=by
  have e:m.getD i default=m[i]:=by simp[List.getD,List.getElem?_eq_getElem hi]
  rw[←hbi,e]
  simp[List.getD,List.getElem?_map,List.getElem?_eq_getElem hi]
 obtain ⟨p1,p2⟩:=E1 hrise (z:=i) (by simpa using hi)
 rw[hnm] at p1 p2
 refine ⟨iV S.2 b.n v.o v.id,?_,(nv h1).1,fun r hr=>?_,fun p hp=>?_⟩
 ·unfold jt E2
  simp only
  rw[if_pos (fX (ui h hb hv)).1,pV h hb hv]
  unfold jC
  rw[if_neg (by simp[kyV]),if_neg (by simp[kyV]),if_pos (by simp[kyV]),if_pos (lL hov).1,hn]
  have e1:(kyV b.n v).b=b.n:=rfl
  have e2:(kyV b.n v).o=v.o:=rfl
  have e3:(kyV b.n v).ns.getD 0 0=v.id:=rfl
  rw[e1,e2,e3,if_pos p2,p1,hbody,CZ hov]
 ·rw[um (fun e=>hR r hr e)]
  exact h2 r (by simp[hr])
 ·obtain ⟨r,hr,e1,e2,e3⟩:=h3 p (mH hp)
  rcases List.mem_cons.1 hr with rfl|hr
  ·exact absurd ⟨e1,e2,e3⟩ ((nv h1).2 p hp)
  ·exact ⟨r,hr,e1,e2,e3⟩
theorem E3 (a c:List Bk) (b:Bk) (v:Vs):pU (a++b::c) a.length v=a++⟨b.n,b.st,b.l++[v]⟩::c:=by
 unfold pU
 have e:(a++b::c).getD a.length default=b:=by simp[List.getD]
 rw[e]
 simp
def qg (b:Bk):List (List UInt8 × Vs):=b.l.map fun v=>(b.n,v)
theorem GI (b:Bk):VP b=(qg b).map E2:=by
 unfold VP qg
 rw[List.map_map];rfl
def sx (R:List (List UInt8 × Vs)):Prop:=R.Pairwise fun x y=>¬(y.1=x.1∧y.2.o=x.2.o∧y.2.id=x.2.id)
theorem xO {m:List Bk} (h:imB m=true) {b:Bk} (hb:b∈m) {i:Nat} (hi:i<m.length) (hbi:m.getD i default=b) (a c:List Bk) (hai:a.length=i) (hnm:a.map Bk.n++b.n::c.map Bk.n=m.map Bk.n) (R:List (List UInt8 × Vs)):
  ∀(x y:List Vs),b.l=x++y→∀q,Q3 q (y.map (fun v=>(b.n,v))++R)→sx (y.map (fun v=>(b.n,v))++R)→∃q',fF (a++⟨b.n,b.st,x⟩::c,q) ((y.map fun v=>(b.n,v)).map E2)=some (a++b::c,q')∧Q3 q' R
 |x,[],hl,q,hq,_=>by
  rw[List.append_nil] at hl
  refine ⟨q,?_,by simpa using hq⟩
  simp only[List.map_nil,fF]
  rw[←hl]
 |x,v::y,hl,q,hq,hR=>by
  have hv:v∈b.l:=by rw[hl];simp
  rw[List.map_cons,List.cons_append] at hq hR
  obtain ⟨hR1,hR2⟩:=List.pairwise_cons.1 hR
  obtain ⟨q1,e1,hq1⟩:=Iz h hb hv (a++⟨b.n,b.st,x⟩::c,q) (by simpa using hnm) hi hbi hq hR1
  simp only at e1
  rw[←hai,E3] at e1
  obtain ⟨q2,e2,hq2⟩:=xO h hb hi hbi a c hai hnm R (x++[v]) y (by rw[hl];simp) q1 hq1 hR2
  refine ⟨q2,?_,hq2⟩
  rw[List.map_cons,List.map_cons]
  simp only[fF]
  rw[e1]
  exact e2
theorem xP {m:List Bk} (h:imB m=true):∀(a c:List Bk),m=a++c→∀q,Q3 q (c.map qg).flatten→sx (c.map qg).flatten→fF (a++c.map bare,q) ((c.map VP).flatten)=some (m,[])
 |a,[],hm,q,hq,_=>by
  obtain ⟨-,-,h3⟩:=hq
  have:q=[]:=by
   cases q with
   |nil=>rfl
   |cons p q=>obtain ⟨r,hr,-⟩:=h3 p (by simp);simp at hr
  subst this
  simp only[List.map_nil,List.flatten_nil,fF]
  rw[hm]
 |a,b::c,hm,q,hq,hR=>by
  have hb:b∈m:=by rw[hm];simp
  have hi:a.length<m.length:=by rw[hm];simp
  have hbi:m.getD a.length default=b:=by rw[hm];simp[List.getD]
  rw[List.map_cons,List.flatten_cons] at hq hR
  have hnm:a.map Bk.n++b.n::(c.map bare).map Bk.n=m.map Bk.n:=by
   rw[hm,List.map_map,List.map_append,List.map_cons];rfl
  obtain ⟨q1,e1,hq1⟩:=xO h hb hi hbi a (c.map bare) rfl hnm (c.map qg).flatten [] b.l rfl q hq hR
  have hR2:sx (c.map qg).flatten:=(List.pairwise_append.1 hR).2.1
  have ih:=xP h (a++[b]) c (by rw[hm];simp) q1 hq1 hR2
  rw[List.map_cons,List.map_cons,List.flatten_cons,fY,GI]
  have eb:bare b=⟨b.n,b.st,[]⟩:=rfl
  rw[eb]
  have ev:qg b=b.l.map fun v=>(b.n,v):=rfl
  rw[ev,e1]
  simp only[Option.bind_some]
  simpa using ih
theorem Af {m:List Bk} (h:imB m=true):sx (m.map qg).flatten:=by
 refine List.pairwise_flatten.2 ⟨fun l hl=>?_,?_⟩
 ·obtain ⟨b,hb,rfl⟩:=List.mem_map.1 hl
  unfold qg
  refine List.pairwise_map.2 ((oB (jz h hb)).imp fun hn=>?_)
  rintro ⟨-,e2,e3⟩
  rcases next_ne hn with h1|h1
  ·exact h1 e2.symm
  ·exact h1 e3.symm
 ·refine List.pairwise_map.2 ((iQ h).imp fun {a b} hn x hx y hy=>?_)
  obtain ⟨u,-,rfl⟩:=List.mem_map.1 hx
  obtain ⟨v,-,rfl⟩:=List.mem_map.1 hy
  rintro ⟨e1,-⟩
  exact ox hn e1.symm
theorem Ag {m:List Bk} (h:imB m=true):ju (aQ (aU m)) (aQ (aU m)).length=some (m,[]):=by
 rw[uq (gU _) _ (Nat.le_refl _),List.take_length,Ae h,fY,Ix h,CX h m _ fun b hb=>hb]
 simp only[Option.bind_some,List.nil_append]
 rw[fY]
 obtain ⟨q,hq,q1,q2,q3⟩:=GG (m.map bare) _ (GH h)
 rw[hq]
 simp only[Option.bind_some]
 rw[GF h]
 have:=xP h [] m rfl q ⟨q1,fun r hr=>?_,fun p hp=>?_⟩ (Af h)
 ·simpa using this
 ·obtain ⟨l,hl,hr⟩:=List.mem_flatten.1 hr
  obtain ⟨b,hb,rfl⟩:=List.mem_map.1 hl
  obtain ⟨v,hv,rfl⟩:=List.mem_map.1 hr
  rw[q2,CY,FD h hb hv]
  have e:(CP b.n v).map Pr.v=(List.range (ez v.b)).map (chunk v.b):=by
   unfold CP
   rw[List.map_map];rfl
  simp only
  rw[e,wD]
 ·obtain ⟨x,hx,e⟩:=q3 p hp
  obtain ⟨hx,hk⟩:=List.mem_filter.1 hx
  rcases (kK h x).1 hx with ⟨c,hc,rfl⟩|⟨c,hc,v,hv,rfl⟩|⟨c,hc,v,hv,k,hkc,rfl⟩
  ·unfold isK at hk;simp only[pB h hc] at hk;simp[kyB] at hk
  ·unfold isK at hk;simp only[pV h hc hv] at hk;simp[kyV] at hk
  ·unfold gB at e
   simp only[pC h hc hv hkc] at e
   simp[kyC] at e
   exact ⟨(c.n,v),List.mem_flatten.2 ⟨qg c,List.mem_map.2 ⟨c,hc,rfl⟩,List.mem_map.2 ⟨v,hv,rfl⟩⟩,(of_decide_eq_true e.1).symm,(of_decide_eq_true e.2.1).symm,e.2.2.symm⟩
end Go.Proofs.YtjnoobmaedgooaaGreat.Arch
end
section
set_option maxRecDepth 100000
namespace Go.Proofs.YtjnoobmaedgooaaGreat.Arch
open Go Go.Av Go.Proofs Go.Proofs.YtjnoobmaedgooaaGreat.C Go.Proofs.YtjnoobmaedgooaaGreat.Batch Go.Proofs.YtjnoobmaedgooaaGreat.Desk
abbrev v4:Value:= .iface 28 (.int .i64 4)
theorem fx:aE Tryz.prog 56 [.bool true] (.tup []):=by
 refine f56.aD (by simp) rfl rfl ?_
 unfold c56
 simp only[C.zz]
 refine fQ ?_
 exact ⟨trivial,_,rfl,ag.refl _⟩
theorem dy:AU Tryz.prog 56 [.bool false] v4:=by
 intro n m
 obtain ⟨v,h',hc,rfl,rfl⟩:=aI.DJ (Q:=fun v h'=>v=v4∧h'=H0 n m) (args:=[.bool false]) (h:=H0 n m) f56 (by simp) (by
  unfold c56
  simp only[C.zz]
  refine Wp.cA xA1 (by trivial) ?_
  refine Wp.cond_true xA2 ?_
  refine Wp.lB (ay.eval (aZ xA1) ?_)
  refine ay.here (R:=fun v h'=>∃v',aA.panic v= .panic v'∧v'=v4∧h'=H0 n m) (en:=aC) rfl (aV _) (fun ops i o ho hit=>uW ho hit rfl rfl rfl) (fun l hl=>by cases hl) ?_
  exact ⟨_,rfl,rfl,rfl⟩)
 exact hc
theorem IA (x y:List UInt8):aE Tryz.prog 96 [.str x,.str y] (.int .i64 (ng x y)):=by
 intro n m G w vs hv R F
 simp only[an,ak] at hv
 obtain ⟨_,_,rfl,rfl,_,_,rfl,rfl,rfl⟩:=hv
 refine (rf x y w).mono ?_
 rintro e w' ⟨rfl,rfl⟩
 exact ⟨_,G,rfl,Trans.refl _ _ _,R,by simp[ak]⟩
theorem E4 (x y:List UInt8):decide (ng x y<0)=Op.bytesLess x y:=by
 unfold ng
 cases h:Op.bytesLess x y<;>cases h2:Op.bytesLess y x<;>simp
theorem E5 (x y:List UInt8):decide (ng x y=0)=decide (x=y):=by
 unfold ng
 rcases Batch.dG x y with h|h|h
 ·have hn:¬x=y:=fun e=>by rw[e,Batch.bF] at h;cases h
  simp[h,hn]
 ·subst h;simp[Batch.bF]
 ·have hn:¬x=y:=fun e=>by rw[e,Batch.bF] at h;cases h
  have:=Batch.pt h
  simp[h,hn,this]
theorem FI (n:List UInt8) (st:Int) (l:List Vs) (nm:List UInt8):aE Tryz.prog 114 [.agg [.str n,.int .i64 st,.sl 8 (vss l) .any],.str nm] (.int .i64 (ng n nm)):=by
 refine f114.aD (by simp) (by simp[az,aO,bC,my]) rfl ?_
 unfold Hh
 simp only[C.zz]
 have cc:=IA n nm
 refine vc cc ?_
 refine aL ?_
 exact ag.refl _
def mI (x:Bk × Nat):List AV:=[.str x.1.n,.int .i64 x.1.st,.sl 8 (vss x.1.l) (.own x.2)]
def dS (bt:List (Bk × Nat)):List AV:=bt.flatMap mI
def bV (bt:List (Bk × Nat)) (k:Nat):AV:=if bt=[] then .sl 3 [] (.exact 0) else .tsl 3 k 0 bt.length none
theorem fG:∀bt:List (Bk × Nat),(dS bt).length=bt.length*3
 |[]=>rfl
 |a::bt=>by
  have:=fG bt
  simp only[dS,List.flatMap_cons,List.length_append,List.length_cons] at*
  have:(mI a).length=3:=rfl
  omega
theorem oG (bt:List (Bk × Nat)) (i:Nat) (h:i<bt.length):dS bt=dS (bt.take i)++(mI (bt.getD i default)++dS (bt.drop (i+1))):=by
 have e:bt.getD i default=bt[i]:=by simp[List.getD,List.getElem?_eq_getElem h]
 unfold dS
 rw[e]
 have e2:bt=bt.take i++bt[i]::bt.drop (i+1):=by rw[←List.drop_eq_getElem_cons h,List.take_append_drop]
 conv=>lhs;rw[e2]
 rw[List.flatMap_append,List.flatMap_cons]
theorem Ah (bt:List (Bk × Nat)) (i:Nat) (h:i<bt.length):((dS bt).drop (i*3)).take 3=mI (bt.getD i default):=by
 have hl:(dS (bt.take i)).length=i*3:=by rw[fG,List.length_take,Nat.min_eq_left (by omega)]
 rw[oG bt i h,←hl,List.drop_left]
 exact List.take_left' rfl
theorem FJ (h:H) (bt:List (Bk × Nat)) (k:Nat) (nm:List UInt8) (hk:bt≠[]→h.objs k=some (.cells (dS bt))) (hl:bt.length≤1000000):
  aN Tryz.prog 113 [bV bt k,.str nm,.clo (.func 114) [] []] h (.tup [.int .i64 (jB ((bt.map Prod.fst).map Bk.n) nm),.bool (fw ((bt.map Prod.fst).map Bk.n) nm)]) h:=by
 refine aI.mq f113 (by simp) ?_
 unfold Hg
 simp only[C.zz]
 by_cases hb:bt=[]
 ·subst hb
  have hv:bV [] k= .sl 3 [] (.exact 0):=rfl
  have hp:jB (([]:List (Bk × Nat)).map Prod.fst |>.map Bk.n) nm=0:=rfl
  have ht:fw (([]:List (Bk × Nat)).map Prod.fst |>.map Bk.n) nm=false:=rfl
  rw[hv,hp,ht]
  refine rf0 @List.length_nil.{0} ?_
  refine Wp.eN [0,1,2,8] xA7 (fun _:Nat=>[(9,.int .i64 0),(10,.int .i64 0)]) (fun _=>h) (fun _=>True) (fun j=>j) 0 trivial rfl ?_ ?_
  ·exact xSb
  intro _ _
  have d:decide ((0:Int)<0)=false:=by decide
  refine rf0 (cj2 @List.length_nil.{0} d) ?_
  refine Wp.ret ⟨trivial,_,rfl,?_,rfl⟩
  exact ag.refl _
 ·have ho:=hk hb
  have hv:bV bt k= .tsl 3 k 0 bt.length none:=by unfold bV;rw[if_neg hb]
  rw[hv]
  have hrl:=fG bt
  have hcell:=fun i hi=>Ah bt i hi
  have hnl:((bt.map Prod.fst).map Bk.n).length=bt.length:=by simp
  have hng:∀i,i<bt.length→((bt.map Prod.fst).map Bk.n).getD i []=(bt.getD i default).1.n:=fun i hi=>by
   simp[List.getD,List.getElem?_eq_getElem hi]
  generalize dS bt=cs at*
  have hbp:jB ((bt.map Prod.fst).map Bk.n) nm=kY ((bt.map Prod.fst).map Bk.n) nm bt.length 0 bt.length:=by unfold jB;rw[hnl]
  have hbt:fw ((bt.map Prod.fst).map Bk.n) nm=(decide (jB ((bt.map Prod.fst).map Bk.n) nm<bt.length)&&decide (((bt.map Prod.fst).map Bk.n).getD (jB ((bt.map Prod.fst).map Bk.n) nm) []=nm)):=by unfold fw;rw[hnl]
  rw[hbt]
  generalize (bt.map Prod.fst).map Bk.n=ns at*
  generalize jB ns nm=bp at*
  refine fQ ?_
  refine Wp.eN [0,1,2,8] xA7 (fun j:Nat × Nat × Nat=>[(9,.int .i64 (j.2.1:Nat)),(10,.int .i64 (j.2.2:Nat))]) (fun _=>h) (fun j=>j.2.2 - j.2.1≤j.1∧j.2.1≤j.2.2∧j.2.2≤bt.length∧kY ns nm j.1 j.2.1 j.2.2=bp) (fun j=>j.1) (bt.length,0,bt.length) ⟨by simp,Nat.zero_le _,Nat.le_refl _,hbp.symm⟩ rfl ?_ ?_
  ·exact xSb
  rintro ⟨f,i,j⟩ ⟨a1,a2,a3,a4⟩
  simp only at a1 a2 a3 a4
  by_cases hc:i<j
  ·have d1:decide ((i:Int)<(j:Int))=true:=decide_eq_true (by omega)
   have e1:IntKind.i64.wrap ((i:Int)+(j:Int))=((i+j:Nat):Int):=by rw[IntWalk.i64_in _ (by omega)];omega
   have e2:IntKind.u64.wrap ((i+j:Nat):Int)=((i+j:Nat):Int):=IntWalk.u64_in _ (by omega)
   have e3:((i+j:Nat):Int).fdiv (2^(min (Int.toNat 1) 64))=(((i+j)/2:Nat):Int):=by
    rw[show min (Int.toNat 1) 64=1 from rfl,Int.fdiv_eq_ediv_of_nonneg _ (by omega)]
    omega
   have e4:IntKind.i64.wrap (((i+j)/2:Nat):Int)=(((i+j)/2:Nat):Int):=IntWalk.i64_in _ (by omega)
   have e5:¬(1:Int)<0:=by omega
   obtain ⟨f,rfl⟩:∃f',f=f'+1:=⟨f - 1,by omega⟩
   have c1:(i+j)/2<j:=by omega
   have c2:i≤(i+j)/2:=by omega
   have hcl:=hcell ((i+j)/2) (by omega)
   have hg:=hng ((i+j)/2) (by omega)
   simp only[kY,if_pos hc] at a4
   generalize (i+j)/2=c at*
   have p1:(0:Int)≤(c:Int):=by omega
   have p2:(c:Int)<(bt.length:Int):=by omega
   have p3:c*3+3≤cs.length:=by omega
   unfold mI at hcl
   have cc:=FI (bt.getD c default).1.n (bt.getD c default).1.st (bt.getD c default).1.l nm
   rw[hg] at a4
   generalize bt.getD c default=bb at*
   have hlt:=E4 bb.1.n nm
   generalize ng bb.1.n nm=r at*
   repeat (first
    |refine ab.nil ?_
    |((first|apply Wp.au|apply Wp.bJ);(· simp only[go_sem,reduceIte,Nat.reduceEqDiff,Nat.reduceAdd,bx,ax,if_true,if_false,Nat.reduceMul,Nat.reduceLeDiff,d1,e1,e2,e3,e4,e5,IntKind.bits,p1,p2,p3,ho,hcl,Int.toNat_natCast];exact rfl))
    |(apply Wp.aK;(· simp only[go_sem,reduceIte,Nat.reduceEqDiff,Nat.reduceAdd,bx,ax,if_true,if_false,Nat.reduceMul,Nat.reduceLeDiff,d1,e1,e2,e3,e4,e5,IntKind.bits,p1,p2,p3,ho,hcl,Int.toNat_natCast];exact rfl);(· rfl))
    |refine Wp.skip ?_
    |refine Wp.label ?_
    |refine Wp.block ?_
    |refine Wp.exit ?_
    |refine Wp.seq ?_)
   refine ab.rK (by simp only[go_sem,reduceIte,Nat.reduceEqDiff,Nat.reduceAdd,bx];try rfl) (by simp only[go_sem,reduceIte,Nat.reduceEqDiff];exact rfl) rfl rfl (by decide) (by simp only[go_sem,reduceIte,Nat.reduceEqDiff,List.map];exact af.cons (ag.agg (af.cons (ag.refl _) (af.cons (ag.refl _) (af.cons ag.cap af.nil)))) (af.cons (ag.refl _) af.nil)) cc ?_
   cases hb2:Op.bytesLess bb.1.n nm with
   |true=>
    rw[hb2] at hlt a4
    simp only[if_true] at a4
    refine ab.evF (by simp only[go_sem,reduceIte,Nat.reduceEqDiff,Nat.reduceAdd,bx,ax,if_true,if_false,Nat.reduceMul,Nat.reduceLeDiff,hlt];exact rfl) ?_
    have e6:IntKind.i64.wrap ((c:Int)+1)=((c+1:Nat):Int):=by rw[IntWalk.i64_in _ (by omega)];omega
    refine rf0 hlt ?_
    refine ⟨(f,c+1,j),⟨by simp only;omega,by simp only;omega,a3,a4⟩,by simp only;omega,?_⟩
    refine aF.of (bk ?_) (OLe.cP _) (fun a ha=>ha) (Nat.le_refl _) (Nat.le_refl _)
    simp only[av,go_sem,reduceIte,Nat.reduceEqDiff,Nat.reduceAdd,bx,e6];and_intros<;>first|exact trivial|exact ag.refl _|exact ag.any _|(refine ag.int ?_;omega)
   |false=>
    rw[hb2] at hlt a4
    simp only[Bool.false_eq_true,if_false] at a4
    refine ab.evF (by simp only[go_sem,reduceIte,Nat.reduceEqDiff,Nat.reduceAdd,bx,ax,if_true,if_false,Nat.reduceMul,Nat.reduceLeDiff,hlt];exact rfl) ?_
    refine rf0 hlt ?_
    refine ⟨(f,i,c),⟨by simp only;omega,c2,by simp only;omega,a4⟩,by simp only;omega,?_⟩
    refine aF.of (bk ?_) (OLe.cP _) (fun a ha=>ha) (Nat.le_refl _) (Nat.le_refl _)
    exact xSb
  ·obtain rfl:i=j:=by omega
   have hbi:bp=i:=by
    cases f with
    |zero=>exact a4.symm
    |succ f=>simp only[kY,if_neg hc] at a4;exact a4.symm
   subst hbi
   have d1:decide ((bp:Int)<(bp:Int))=false:=decide_eq_false (by omega)
   by_cases hlt:bp<bt.length
   ·have d2:decide ((bp:Int)<(bt.length:Int))=true:=decide_eq_true (by omega)
    have d3:decide (bp<bt.length)=true:=decide_eq_true hlt
    have hcl:=hcell bp hlt
    have hg:=hng bp hlt
    have p1:(0:Int)≤(bp:Int):=by omega
    have p2:(bp:Int)<(bt.length:Int):=by omega
    have p3:bp*3+3≤cs.length:=by omega
    unfold mI at hcl
    have cc:=FI (bt.getD bp default).1.n (bt.getD bp default).1.st (bt.getD bp default).1.l nm
    rw[hg]
    generalize bt.getD bp default=bb at*
    have hlt:=E5 bb.1.n nm
    generalize ng bb.1.n nm=r at*
    refine rf0 (cj8 d1 d2 p1 p2 p3 ho hcl @Int.toNat_natCast) ?_
    refine ab.rK (by simp only[go_sem,reduceIte,Nat.reduceEqDiff,Nat.reduceAdd,bx];try rfl) (by simp only[go_sem,reduceIte,Nat.reduceEqDiff];exact rfl) rfl rfl (by decide) (by simp only[go_sem,reduceIte,Nat.reduceEqDiff,List.map];exact af.cons (ag.agg (af.cons (ag.refl _) (af.cons (ag.refl _) (af.cons ag.cap af.nil)))) (af.cons (ag.refl _) af.nil)) cc ?_
    refine ab.evF (by simp only[go_sem,reduceIte,Nat.reduceEqDiff,Nat.reduceAdd,bx,ax,if_true,if_false,Nat.reduceMul,Nat.reduceLeDiff,hlt];exact rfl) ?_
    refine rf0 hlt ?_
    refine Wp.ret ⟨trivial,_,rfl,?_,rfl⟩
    rw[d3,Bool.true_and]
    exact ag.refl _
   ·have d2:decide ((bp:Int)<(bt.length:Int))=false:=decide_eq_false (by omega)
    have d3:decide (bp<bt.length)=false:=decide_eq_false hlt
    refine rf0 (cj2 d1 d2) ?_
    refine Wp.ret ⟨trivial,_,rfl,?_,rfl⟩
    rw[d3,Bool.false_and]
    exact ag.refl _
def blX:AC→AC
 | .block _ c=>c
 |c=>c
def thA:AC→AC
 | .cond _ a _=>a
 |c=>c
def elA:AC→AC
 | .cond _ _ b=>b
 |c=>c
def eZ:AC:=tlA (tlA (tlA c64))
def gC:AC:=blX (tlA eZ)
def kZ:AC:=thA (tlA gC)
def el1:AC:=elA (tlA gC)
def kd:AC:=thA (tlA el1)
def el2:AC:=elA (tlA el1)
def kf:AC:=thA (tlA el2)
def elD:AC:=elA (tlA el2)
theorem E6:c64= .seq (hdA c64) (.seq (hdA (tlA c64)) (.seq (hdA (tlA (tlA c64))) eZ)):=rfl
theorem wG:eZ= .seq (hdA eZ) (.block 0 (.seq (hdA gC) (.cond (.t 28) kZ (.seq (hdA el1) (.cond (.t 54) kd (.seq (hdA el2) (.cond (.t 93) kf elD))))))):=rfl
structure kR (L:List Pr) (h:H) (bt:List (Bk × Nat)) (q:List Pc) (J:Nat):Prop where
 row:∃k,h.objs 3=some (.cells [bV bt k,.mp 2])∧(bt≠[]→5≤k∧k<h.n∧∃cs,h.objs k=some (.cells cs)∧af cs (dS bt))
 mp:h.objs 2=some (.map (eY q))
 o0:h.objs 0=some (.cells [.sl 2 (prs L) .any])
 o1:h.objs 1=some (.cells [.sl 3 [] (.exact 0)])
 o4:h.objs 4=some (.cells [.ptr 3 0])
 hn:5≤h.n
 tk:∀x∈bt,x.2∈h.toks
 tm:∀x∈bt,x.2<h.m
 nd:(bt.map Prod.snd).Nodup
 len:bt.length≤J
 vers:∀x∈bt,x.1.l.length≤J
 pcs:∀p∈q,0≤p.n∧p.n≤J∧p.s.length≤J*140737488355328
structure Mid (L:List Pr) (F:Nat→Option Av.Obj) (n:Nat) (toks:List Nat) (m:Nat) (bt:List (Bk × Nat)) (q:List Pc) (J k:Nat) (p:Pr) (key:Ky):Prop where
 hk:bt≠[]→5≤k∧k<n
 hn:5≤n
 row:F 3=some (.cells [bV bt k,.mp 2])
 cs:bt≠[]→F k=some (.cells (dS bt))
 mp:F 2=some (.map (eY q))
 o0:F 0=some (.cells [.sl 2 (prs L) .any])
 o1:F 1=some (.cells [.sl 3 [] (.exact 0)])
 o4:F 4=some (.cells [.ptr 3 0])
 P:F n=some (.cells [.str p.k,.str p.v])
 K:F (n+1)=some (.cells [.int .i64 key.k,.str key.b,.str key.o,.sl 1 (ints key.ns) .any])
 tk:∀x∈bt,x.2∈toks
 tm:∀x∈bt,x.2<m
 nd:(bt.map Prod.snd).Nodup
 len:bt.length≤J
 vers:∀x∈bt,x.1.l.length≤J
 pcs:∀p∈q,0≤p.n∧p.n≤J∧p.s.length≤J*140737488355328
 hJ:J≤5000
def QA (L:List Pr) (J:Nat) (R:Option SS):aA→St→Prop:=fun e s'=>match R with
 |none=>e= .panic v4∧s'.h.objs 1=some (.cells [.sl 3 [] (.exact 0)])
 |some S=>e= .normal∧∃bt',bt'.map Prod.fst=S.1∧kR L s'.h bt' S.2 (J+1)
theorem Ai (bt:List (Bk × Nat)) (x:Bk × Nat):dS (bt++[x])=dS bt++mI x:=by simp[dS]
theorem af.IB:∀(A:List AV) {a b:List AV},af a b→af (A++a) (A++b)
 |[],_,_,h=>h
 |x::A,_,_,h=>af.cons (ag.refl _) (af.IB A h)
theorem sy {q:List Pc} {J:Nat} (h:∀p∈q,0≤p.n∧p.n≤J∧p.s.length≤J*140737488355328):∀p∈q,0≤p.n∧p.n≤((J+1:Nat):Int)∧p.s.length≤(J+1)*140737488355328:=fun p hp=>by
 obtain ⟨a,b,c⟩:=h p hp
 exact ⟨a,by omega,Nat.le_trans c (Nat.mul_le_mul_right _ (Nat.le_succ J))⟩
set_option maxHeartbeats 2000000 in
theorem GJ {L:List Pr} {F:Nat→Option Av.Obj} {n:Nat} {toks:List Nat} {m:Nat} {bt:List (Bk × Nat)} {q:List Pc} {J k:Nat} {p:Pr} {key:Ky} (M:Mid L F n toks m bt q J k p key) (hk1:key.k=1):
  Wp Tryz.prog 161 kZ ⟨tm [(0,.ptr 3 0),(3,.ptr n 0),(4,.ptr (n+1) 0)],⟨F,n+2,toks,m⟩⟩ (QA L J (jC (bt.map Prod.fst,q) key p.v)):=by
 have hR:jC (bt.map Prod.fst,q) key p.v=if pP p.v=true then some (bt.map Prod.fst++[⟨key.b,stV p.v,[]⟩],q) else none:=by
  unfold jC;rw[if_pos hk1]
 rw[hR]
 have cut:kZ= .seq (hdA kZ) (.seq (hdA (tlA kZ)) (tlA (tlA kZ))):=rfl
 rw[cut]
 generalize hT:tlA (tlA kZ)=T
 unfold kZ gC eZ c64
 simp only[hdA,tlA,blX,thA]
 have cs:=tZ p.v
 have fP:=M.P
 have fK:=M.K
 have f3:=M.row
 have hst:stR p.v=if pP p.v=true then 0 else 4:=rfl
 refine Wp.au (by simp only[go_sem,reduceIte,Nat.reduceEqDiff,Nat.reduceAdd,bx,ax,if_true,if_false,Nat.reduceMul,Nat.reduceLeDiff,fP];exact rfl) ?_
 refine ab.aP xA2 (by simp only[go_sem,reduceIte,Nat.reduceEqDiff,Nat.reduceAdd,bx,List.map];exact af.refl _) (cs) ?_
 refine ab.evF (by simp only[go_sem,reduceIte,Nat.reduceEqDiff,Nat.reduceAdd,bx,ax,if_true,if_false,Nat.reduceMul,Nat.reduceLeDiff];exact rfl) ?_
 refine ab.nil ?_
 cases hb:pP p.v with
 |false=>
  rw[hb] at hst
  rw[if_neg (by simp)] at hst ⊢
  rw[hst]
  refine Wp.cH (by simp only[go_sem,reduceIte,Nat.reduceEqDiff,Nat.reduceAdd,bx,ax,if_true,if_false,Nat.reduceMul,Nat.reduceLeDiff];exact rfl) (by simp only[go_sem,reduceIte,Nat.reduceEqDiff,Nat.reduceAdd,bx,List.map];exact af.refl _) dy (trivial) ?_
  exact ⟨rfl,M.o1⟩
 |true=>
  rw[hb] at hst
  rw[if_pos rfl] at hst ⊢
  rw[hst]
  refine Wp.au (by simp only[go_sem,reduceIte,Nat.reduceEqDiff,Nat.reduceAdd,bx,ax,if_true,if_false,Nat.reduceMul,Nat.reduceLeDiff];exact rfl) ?_
  refine ab.aP xA2 (by simp only[go_sem,reduceIte,Nat.reduceEqDiff,Nat.reduceAdd,bx,List.map];exact af.refl _) (fx) ?_
  refine ab.nil ?_
  rw[←hT]
  unfold kZ gC eZ c64
  simp only[hdA,tlA,blX,thA]
  have hn:=M.hn
  refine Wp.le (aF.tok _ _) ?_
  simp only
  have n3:¬(3=n+2):=by omega
  have n4:¬(4=n+2):=by omega
  have n0:¬(0=n+2):=by omega
  have n1:¬(1=n+2):=by omega
  have n2:¬(2=n+2):=by omega
  have nn:¬(n+1=n+2):=by omega
  by_cases ho:bt=[]
  ·subst ho
   have hv:bV [] k= .sl 3 [] (.exact 0):=rfl
   rw[hv] at f3
   refine Wp.reg ?_
   refine ae.part 11 (by simp only[go_sem,reduceIte,Nat.reduceEqDiff,Nat.reduceAdd,bx,f3,fK,n3,nn];exact rfl) ?_
   simp only[List.drop_succ_cons,List.drop_zero,List.drop_nil]
   refine ae.opT xA2 (by simp only[jA,go_sem,reduceIte,Nat.reduceEqDiff,Nat.reduceAdd,bx,List.all_cons,List.all_nil,List.length_cons,List.length_nil,Nat.reduceMul,Nat.reduceLeDiff,Nat.reduceLT,Nat.zero_lt_succ,and_self,if_true,decide_true,Bool.and_self];exact rfl) rfl ?_
   refine ae.evR (by simp only[go_sem,reduceIte,Nat.reduceEqDiff,Nat.reduceAdd,bx,f3,n3,List.length_cons,List.length_nil];exact rfl) ?_
   refine ae.nil ⟨by simp[aJ,ar,apart,aC,n3],?_⟩
   have m3:¬(n+2=3):=by omega
   refine ⟨rfl,[(⟨key.b,stV p.v,[]⟩,m)],rfl,⟨n+2,by simp[upd,bV],fun _=>⟨by omega,by simp only;omega,_,by simp only[upd,m3,if_false,if_true];exact rfl,?_⟩⟩,by simp only[upd,n2,if_false,Nat.reduceEqDiff,reduceIte];exact M.mp,by simp only[upd,n0,if_false,Nat.reduceEqDiff,reduceIte];exact M.o0,by simp only[upd,n1,if_false,Nat.reduceEqDiff,reduceIte];exact M.o1,by simp only[upd,n4,if_false,Nat.reduceEqDiff,reduceIte];exact M.o4,by simp only;omega,by simp,by simp,by simp,by simp,by simp,sy M.pcs⟩
   exact af.cons (ag.refl _) (af.cons (ag.refl _) (af.cons (ag.dF rfl) af.nil))
  ·have hv:bV bt k= .tsl 3 k 0 bt.length none:=by unfold bV;rw[if_neg ho]
   rw[hv] at f3
   obtain ⟨y1,y2⟩:=M.hk ho
   have fk:=M.cs ho
   have x3:¬(3=k):=by omega
   have x7:¬(k=n+2):=by omega
   have x8:¬(n+1=k):=by omega
   have hcl:=fG bt
   have hlen:=M.len
   have hJ:=M.hJ
   have r1:(bt.length+1)*48≤140737488355328:=by omega
   have r2:bt.length+1<4611686018427387904:=by omega
   refine Wp.reg ?_
   refine ae.part 11 (by simp only[go_sem,reduceIte,Nat.reduceEqDiff,Nat.reduceAdd,bx,f3,fK,n3,nn];exact rfl) ?_
   simp only[List.drop_succ_cons,List.drop_zero,List.drop_nil]
   refine ae.opK xA2 (by simp only[kO,go_sem,reduceIte,Nat.reduceEqDiff,Nat.reduceAdd,bx,List.all_cons,List.all_nil,List.length_cons,List.length_nil,Nat.reduceMul,Nat.reduceLeDiff,Nat.reduceLT,x7,fk,hcl,r1,r2,Nat.zero_lt_succ,and_self,if_true,decide_true,Bool.and_self];exact rfl) rfl ?_
   refine ae.evR (by simp only[go_sem,reduceIte,Nat.reduceEqDiff,Nat.reduceAdd,bx,f3,n3,x3,List.length_cons,List.length_nil];exact rfl) ?_
   refine ae.nil ⟨by simp[aJ,ar,apart,aC,n3,x3],?_⟩
   have m3:¬(n+2=3):=by omega
   have k0:¬(0=k):=by omega
   have k1:¬(1=k):=by omega
   have k2:¬(2=k):=by omega
   have k4:¬(4=k):=by omega
   refine ⟨rfl,bt++[(⟨key.b,stV p.v,[]⟩,m)],by simp,⟨n+2,by simp[upd,bV],fun _=>⟨by omega,by simp only;omega,_,by simp only[upd,m3,if_false,if_true];exact rfl,?_⟩⟩,by simp only[upd,n2,k2,if_false,Nat.reduceEqDiff,reduceIte];exact M.mp,by simp only[upd,n0,k0,if_false,Nat.reduceEqDiff,reduceIte];exact M.o0,by simp only[upd,n1,k1,if_false,Nat.reduceEqDiff,reduceIte];exact M.o1,by simp only[upd,n4,k4,if_false,Nat.reduceEqDiff,reduceIte];exact M.o4,by simp only;omega,?_,?_,?_,by simp;omega,?_,sy M.pcs⟩
   ·rw[Ai]
    exact af.IB _ (af.cons (ag.refl _) (af.cons (ag.refl _) (af.cons (ag.dF rfl) af.nil)))
   ·intro x hx
    rcases List.mem_append.1 hx with hx|hx
    ·exact List.mem_cons_of_mem _ (M.tk x hx)
    ·simp only[List.mem_singleton] at hx;subst hx;exact List.mem_cons_self
   ·intro x hx
    rcases List.mem_append.1 hx with hx|hx
    ·have:=M.tm x hx;simp only;omega
    ·simp only[List.mem_singleton] at hx;subst hx;exact Nat.lt_succ_self _
   ·rw[List.map_append]
    refine List.nodup_append.2 ⟨M.nd,by simp,fun a ha b hb=>?_⟩
    simp only[List.map_cons,List.map_nil,List.mem_singleton] at hb
    subst hb
    obtain ⟨x,hx,rfl⟩:=List.mem_map.1 ha
    have:=M.tm x hx
    omega
   ·intro x hx
    rcases List.mem_append.1 hx with hx|hx
    ·have:=M.vers x hx;omega
    ·simp only[List.mem_singleton] at hx;subst hx;simp
theorem xQ {J:Nat} {b o:List UInt8} {id:Int}:∀{q:List Pc},(∀p∈q,0≤p.n∧p.n≤J∧p.s.length≤J*140737488355328)→0≤(cy q b o id).2∧(cy q b o id).2≤J∧(cy q b o id).1.length≤J*140737488355328
 |[],_=>⟨Int.le_refl _,Int.natCast_nonneg _,Nat.zero_le _⟩
 |p::q,h=>by
  simp only[cy]
  split
  ·exact h p (by simp)
  ·exact xQ fun x hx=>h x (by simp[hx])
set_option maxHeartbeats 4000000 in
theorem GK {L:List Pr} {F:Nat→Option Av.Obj} {n:Nat} {toks:List Nat} {m:Nat} {bt:List (Bk × Nat)} {q:List Pc} {J k:Nat} {p:Pr} {key:Ky} (M:Mid L F n toks m bt q J k p key) (hk3:key.k=3) (hok:key.ok) (hpv:p.v.length≤140737488355328):
  Wp Tryz.prog 161 kd ⟨tm [(0,.ptr 3 0),(3,.ptr n 0),(4,.ptr (n+1) 0)],⟨F,n+2,toks,m⟩⟩ (QA L J (jC (bt.map Prod.fst,q) key p.v)):=by
 have hnl:key.ns.length=2:=by
  have:=hok.n
  rw[hk3] at this
  have e:fN 3=2:=rfl
  rw[e] at this;omega
 obtain ⟨v0,v1,hns⟩:∃v0 v1,key.ns=[v0,v1]:=by
  match hh:key.ns,hnl with
  |[a,b],_=>exact ⟨a,b,rfl⟩
 have hR:jC (bt.map Prod.fst,q) key p.v=if v1=(cy q key.b key.o v0).2 then some (bt.map Prod.fst,iU q key.b key.o v0 ((cy q key.b key.o v0).1++p.v) ((cy q key.b key.o v0).2+1)) else none:=by
  unfold jC
  rw[if_neg (by rw[hk3];decide),if_pos hk3,hns]
  rfl
 rw[hR]
 obtain ⟨c0,c1,s0⟩:=xQ (b:=key.b) (o:=key.o) (id:=v0) M.pcs
 have hf:dw [.str,.str,.int] [.str key.b,.str key.o,.int .i64 v0] (eY q)=some (iq q key.b key.o v0):=wE key.b key.o v0 q
 have hl:cR (.agg [.str [],.int .i64 0]) false (iq q key.b key.o v0)= .agg [.str (cy q key.b key.o v0).1,.int .i64 (cy q key.b key.o v0).2]:=wF key.b key.o v0 q
 have hp:oK (eY q) [.str key.b,.str key.o,.int .i64 v0] (.agg [.str ((cy q key.b key.o v0).1++p.v),.int .i64 ((cy q key.b key.o v0).2+1)]) (iq q key.b key.o v0)=eY (iU q key.b key.o v0 ((cy q key.b key.o v0).1++p.v) ((cy q key.b key.o v0).2+1)):=FF key.b key.o v0 _ _ q
 have hJ:=M.hJ
 have hadd:(cy q key.b key.o v0).1.length+p.v.length<9223372036854775808:=by
  have:=Nat.mul_le_mul_right 140737488355328 hJ
  omega
 have e1:IntKind.i64.wrap ((cy q key.b key.o v0).2+1)=(cy q key.b key.o v0).2+1:=IntWalk.i64_in _ (by omega)
 have sl:((cy q key.b key.o v0).1++p.v).length≤(J+1)*140737488355328:=by
  rw[List.length_append,Nat.add_mul,Nat.one_mul]
  omega
 have pin:∀x∈iU q key.b key.o v0 ((cy q key.b key.o v0).1++p.v) ((cy q key.b key.o v0).2+1),0≤x.n∧x.n≤((J+1:Nat):Int)∧x.s.length≤(J+1)*140737488355328:=fun x hx=>by
  rcases mG hx with rfl|hx
  ·exact ⟨by simp only;omega,by simp only;omega,sl⟩
  ·exact sy M.pcs x hx
 generalize (cy q key.b key.o v0).1=s at*
 generalize (cy q key.b key.o v0).2=c at*
 generalize iU q key.b key.o v0 (s++p.v) (c+1)=q' at*
 generalize iq q key.b key.o v0=R at*
 simp only[go_sem,reduceIte,Nat.reduceEqDiff,Nat.reduceAdd,bx] at hl hp
 have cut:kd= .seq (hdA kd) (.seq (hdA (tlA kd)) (.seq (hdA (tlA (tlA kd))) (tlA (tlA (tlA kd))))):=rfl
 rw[cut]
 generalize hT:tlA (tlA (tlA kd))=T
 unfold kd el1 gC eZ c64
 simp only[hdA,tlA,blX,thA,elA]
 have fP:=M.P
 have fK:=M.K
 have f3:=M.row
 have f2:=M.mp
 have hi0:ints key.ns=[.int .i64 v0,.int .i64 v1]:=by rw[hns];rfl
 rw[hi0] at fK
 have hn:=M.hn
 have n3:¬(3=n+2):=by omega
 have n4:¬(4=n+2):=by omega
 have n0:¬(0=n+2):=by omega
 have n1:¬(1=n+2):=by omega
 have n2:¬(2=n+2):=by omega
 have nn:¬(n+1=n+2):=by omega
 have np:¬(n=n+2):=by omega
 have o3:¬(3=n+2+1):=by omega
 have o4:¬(4=n+2+1):=by omega
 have o0:¬(0=n+2+1):=by omega
 have o1:¬(1=n+2+1):=by omega
 have o2:¬(2=n+2+1):=by omega
 have on:¬(n+1=n+2+1):=by omega
 have op:¬(n=n+2+1):=by omega
 have oq:¬(n+2=n+2+1):=by omega
 have z0:(0:Int)<((2:Nat):Int):=by decide
 have z1:(1:Int)<((2:Nat):Int):=by decide
 have z2:(0:Int)≤1:=by decide
 have t1:Int.toNat 1=1:=rfl
 refine Wp.aG (by simp only[go_sem,reduceIte,Nat.reduceEqDiff,Nat.reduceAdd,bx,ax,if_true,if_false,Nat.reduceMul,Nat.reduceLeDiff,fK,n3,nn,z0,List.length_cons,List.length_nil,Int.toNat_zero,List.getD_cons_zero,Int.le_refl,and_self];exact rfl) ?_
 refine ae.nil ⟨by simp[aJ,ar,apart,aC,nn],?_⟩
 refine Wp.aG (by simp only[go_sem,reduceIte,Nat.reduceEqDiff,Nat.reduceAdd,bx,ax,if_true,if_false,Nat.reduceMul,Nat.reduceLeDiff,f3,f2,n3,n2,hf,hl,oq];exact rfl) ?_
 refine ae.nil ⟨by simp[aJ,ar,apart,aC,n3,o3,o2,oq] <;>omega,?_⟩
 by_cases hc:v1=c
 ·have d1:decide (v1=c)=true:=decide_eq_true hc
  rw[if_pos hc]
  refine Wp.aG (by simp only[go_sem,reduceIte,Nat.reduceEqDiff,Nat.reduceAdd,bx,ax,if_true,if_false,Nat.reduceMul,Nat.reduceLeDiff,fK,nn,on,oq,z1,z2,t1,d1,List.length_cons,List.length_nil,List.getD_cons_succ,List.getD_cons_zero,and_self];exact rfl) ?_
  refine ae.aP xA2 (by simp only[go_sem,reduceIte,Nat.reduceEqDiff,Nat.reduceAdd,bx,List.map];exact af.refl _) (fx) ?_
  refine ae.evR xA1 ?_
  refine ae.nil ⟨by simp[aJ,ar,apart,aC,on],?_⟩
  rw[←hT]
  unfold kd el1 gC eZ c64
  simp only[hdA,tlA,blX,thA,elA]
  refine Wp.cf (by simp only[go_sem,reduceIte,Nat.reduceEqDiff,Nat.reduceAdd,bx,ax,if_true,if_false,Nat.reduceMul,Nat.reduceLeDiff,f3,f2,n3,n2,o3,o2,oq,np,op,fP,hf,hp,hadd,e1];exact rfl) ?_
  refine ae.nil ⟨by simp[aJ,ar,apart,aC,n3,o3,o2,oq,n2,np,op] <;>omega,?_⟩
  refine ⟨rfl,bt,rfl,⟨k,by simp only[upd,n3,o3,if_false,Nat.reduceEqDiff,reduceIte];exact f3,fun ho=>?_⟩,by simp only[upd,if_true,hp],by simp only[upd,n0,o0,if_false,Nat.reduceEqDiff,reduceIte];exact M.o0,by simp only[upd,n1,o1,if_false,Nat.reduceEqDiff,reduceIte];exact M.o1,by simp only[upd,n4,o4,if_false,Nat.reduceEqDiff,reduceIte];exact M.o4,by simp only;omega,M.tk,M.tm,M.nd,Nat.le_succ_of_le M.len,fun x hx=>Nat.le_succ_of_le (M.vers x hx),pin⟩
  obtain ⟨y1,y2⟩:=M.hk ho
  have k2:¬(k=2):=by omega
  have k3:¬(k=n+2):=by omega
  have k4:¬(k=n+2+1):=by omega
  exact ⟨y1,by simp only;omega,_,by simp only[upd,k2,k3,k4,if_false];exact M.cs ho,af.refl _⟩
 ·have d1:decide (v1=c)=false:=decide_eq_false hc
  rw[if_neg hc]
  refine Wp.cH (by simp only[go_sem,reduceIte,Nat.reduceEqDiff,Nat.reduceAdd,bx,ax,if_true,if_false,Nat.reduceMul,Nat.reduceLeDiff,fK,nn,on,oq,z1,z2,t1,d1,List.length_cons,List.length_nil,List.getD_cons_succ,List.getD_cons_zero,and_self];exact rfl) (by simp only[go_sem,reduceIte,Nat.reduceEqDiff,Nat.reduceAdd,bx,List.map];exact af.refl _) dy (⟨by simp[ar,apart,aC,on],rfl⟩) ?_
  exact ⟨rfl,by simp only[upd,n1,o1,if_false];exact M.o1⟩
theorem C4 (bt:List (Bk × Nat)) (i:Nat) (h:i<bt.length):(dS bt)[i*3+2]? =some (.sl 8 (vss (bt.getD i default).1.l) (.own (bt.getD i default).2)):=by
 have hl:(dS (bt.take i)).length=i*3:=by rw[fG,List.length_take,Nat.min_eq_left (by omega)]
 rw[oG bt i h,List.getElem?_append_right (by omega),hl,show i*3+2 - i*3=2 by omega]
 rfl
theorem Aj (bt:List (Bk × Nat)) (i:Nat) (h:i<bt.length):(dS bt).take (i*3+2)=dS (bt.take i)++[.str (bt.getD i default).1.n,.int .i64 (bt.getD i default).1.st]:=by
 have hl:(dS (bt.take i)).length=i*3:=by rw[fG,List.length_take,Nat.min_eq_left (by omega)]
 rw[oG bt i h,List.take_append,hl,show i*3+2 - i*3=2 by omega,List.take_of_length_le (by omega)]
 rfl
theorem Ak (bt:List (Bk × Nat)) (i:Nat) (h:i<bt.length):(dS bt).drop (i*3+2+1)=dS (bt.drop (i+1)):=by
 have hl:(dS (bt.take i)).length=i*3:=by rw[fG,List.length_take,Nat.min_eq_left (by omega)]
 rw[oG bt i h,List.drop_append,hl,show i*3+2+1 - i*3=3 by omega,List.drop_of_length_le (by omega)]
 rfl
theorem C5 (bt:List (Bk × Nat)) (i:Nat) (h:i<bt.length) (y:Bk × Nat):dS (bt.set i y)=dS (bt.take i)++(mI y++dS (bt.drop (i+1))):=by
 unfold dS
 rw[List.set_eq_take_append_cons_drop,if_pos h,List.flatMap_append,List.flatMap_cons]
theorem Al {l:List Nat} (h:l.Nodup) {i a:Nat} (ha:a∉l):(l.set i a).Nodup:=by
 refine List.pairwise_iff_getElem.2 fun j k hj hk hjk=>?_
 rw[List.getElem_set,List.getElem_set]
 have hp:=List.pairwise_iff_getElem.1 h
 simp only[List.length_set] at hj hk
 split
 ·split
  ·omega
  ·exact fun e=>ha (e▸List.getElem_mem _)
 ·split
  ·exact fun e=>ha (e▸List.getElem_mem _)
  ·exact hp j k hj hk hjk
theorem ur {bt:List (Bk × Nat)} (h:(bt.map Prod.snd).Nodup) {i:Nat} (hi:i<bt.length) {y x:Bk × Nat} (hx:x∈bt.set i y):x=y∨(x∈bt∧x.2≠(bt.getD i default).2):=by
 obtain ⟨j,hj,rfl⟩:=List.mem_iff_getElem.1 hx
 simp only[List.length_set] at hj
 rw[List.getElem_set]
 split
 ·exact .inl rfl
 ·rename_i hij
  refine .inr ⟨List.getElem_mem _,?_⟩
  have e:bt.getD i default=bt[i]:=by simp[List.getD,List.getElem?_eq_getElem hi]
  rw[e]
  have hp:=List.pairwise_iff_getElem.1 h
  intro e2
  rcases Nat.lt_or_gt_of_ne hij with h1|h1
  ·exact hp i j (by simpa using hi) (by simpa using hj) h1 (by simpa using e2.symm)
  ·exact hp j i (by simpa using hj) (by simpa using hi) h1 (by simpa using e2)
theorem gD {e:aA} (h:e= .normal):gq e:=by subst h;trivial
set_option maxHeartbeats 8000000 in
theorem GL {L:List Pr} {F:Nat→Option Av.Obj} {n:Nat} {toks:List Nat} {m:Nat} {bt:List (Bk × Nat)} {q:List Pc} {J k:Nat} {p:Pr} {key:Ky} (M:Mid L F n toks m bt q J k p key) (hk2:key.k=2) (hok:key.ok) (hpv:p.v.length≤140737488355328):
  Wp Tryz.prog 161 kf ⟨tm [(0,.ptr 3 0),(3,.ptr n 0),(4,.ptr (n+1) 0)],⟨F,n+2,toks,m⟩⟩ (QA L J (jC (bt.map Prod.fst,q) key p.v)):=by
 have hnl:key.ns.length=1:=by
  have:=hok.n
  rw[hk2] at this
  have e:fN 2=1:=rfl
  rw[e] at this;omega
 obtain ⟨v0,hns⟩:∃v0,key.ns=[v0]:=List.length_eq_one_iff.1 hnl
 have hR:jC (bt.map Prod.fst,q) key p.v=if hdB p.v=true then (if fw ((bt.map Prod.fst).map Bk.n) key.b=true then some (pU (bt.map Prod.fst) (jB ((bt.map Prod.fst).map Bk.n) key.b) (uo key (hdO p.v) (cy q key.b key.o v0).1),iV q key.b key.o v0) else none) else none:=by
  unfold jC
  rw[if_neg (by rw[hk2];decide),if_neg (by rw[hk2];decide),if_pos hk2,hns]
  rfl
 rw[hR]
 have hvo:uo key (hdO p.v) (cy q key.b key.o v0).1=⟨key.o,v0,(hdO p.v).sz,(hdO p.v).re,(hdO p.v).im,(hdO p.v).g,(hdO p.v).u,(cy q key.b key.o v0).1⟩:=by
  unfold uo;rw[hns];rfl
 rw[hvo]
 have hf:dw [.str,.str,.int] [.str key.b,.str key.o,.int .i64 v0] (eY q)=some (iq q key.b key.o v0):=wE key.b key.o v0 q
 have hl:cR (.agg [.str [],.int .i64 0]) false (iq q key.b key.o v0)= .agg [.str (cy q key.b key.o v0).1,.int .i64 (cy q key.b key.o v0).2]:=wF key.b key.o v0 q
 have hd:oJ (eY q) (iq q key.b key.o v0)=eY (iV q key.b key.o v0):=FG key.b key.o v0 q
 have pin:∀x∈iV q key.b key.o v0,0≤x.n∧x.n≤((J+1:Nat):Int)∧x.s.length≤(J+1)*140737488355328:=fun x hx=>sy M.pcs x (mH hx)
 generalize (cy q key.b key.o v0).1=s at*
 generalize (cy q key.b key.o v0).2=c at*
 generalize iV q key.b key.o v0=q' at*
 generalize iq q key.b key.o v0=R at*
 simp only[go_sem,reduceIte,Nat.reduceEqDiff,Nat.reduceAdd,bx] at hl hd
 have ch:=pQ p.v hpv
 have hhe:hdE p.v=if hdB p.v=true then 0 else 4:=rfl
 unfold ua jQ at ch
 have dE:decide (hdE p.v=0)=hdB p.v:=by
  rw[hhe]
  cases hdB p.v<;>decide
 generalize hdE p.v=he at*
 generalize hdO p.v=hd' at*
 obtain ⟨hsz,hre,him,hg,hu⟩:=hd'
 simp only at ch ⊢
 have hlen:=M.len
 have hJ:=M.hJ
 have cut:kf= .seq (hdA kf) (.seq (hdA (tlA kf)) (.seq (hdA (tlA (tlA kf))) (tlA (tlA (tlA kf))))):=rfl
 rw[cut]
 generalize hT:tlA (tlA (tlA kf))=T
 unfold kf el2 el1 gC eZ c64
 simp only[hdA,tlA,blX,thA,elA]
 have fP:=M.P
 have fK:=M.K
 have f3:=M.row
 have f2:=M.mp
 have hi0:ints key.ns=[.int .i64 v0]:=by rw[hns];rfl
 rw[hi0] at fK
 have hn:=M.hn
 have n3:¬(3=n+2):=by omega
 have n4:¬(4=n+2):=by omega
 have n0:¬(0=n+2):=by omega
 have n1:¬(1=n+2):=by omega
 have n2:¬(2=n+2):=by omega
 have nn:¬(n+1=n+2):=by omega
 have np:¬(n=n+2):=by omega
 have o3:¬(3=n+2+1):=by omega
 have o4:¬(4=n+2+1):=by omega
 have o0:¬(0=n+2+1):=by omega
 have o1:¬(1=n+2+1):=by omega
 have o2:¬(2=n+2+1):=by omega
 have on:¬(n+1=n+2+1):=by omega
 have op:¬(n=n+2+1):=by omega
 have oq:¬(n+2=n+2+1):=by omega
 have z0:(0:Int)<((1:Nat):Int):=by decide
 refine Wp.au (by simp only[go_sem,reduceIte,Nat.reduceEqDiff,Nat.reduceAdd,bx,ax,if_true,if_false,Nat.reduceMul,Nat.reduceLeDiff,fP,np];exact rfl) ?_
 refine ab.aP xA2 (by simp only[go_sem,reduceIte,Nat.reduceEqDiff,Nat.reduceAdd,bx,List.map];exact af.refl _) (ch) ?_
 refine ab.evF (by simp only[go_sem,reduceIte,Nat.reduceEqDiff,Nat.reduceAdd,bx,ax,if_true,if_false,Nat.reduceMul,Nat.reduceLeDiff];exact rfl) ?_
 refine ab.nil ?_
 by_cases ho:bt=[]
 ·have hv:bV bt k= .sl 3 [] (.exact 0):=by rw[ho];rfl
  rw[hv] at f3
  have ht0:fw ((bt.map Prod.fst).map Bk.n) key.b=false:=by rw[ho];rfl
  have ca:=FJ (H0 (n+2+1) m) bt k key.b (fun x=>absurd ho x) (by omega)
  rw[hv,ht0] at ca
  rw[ht0]
  generalize jB ((bt.map Prod.fst).map Bk.n) key.b=bp at*
  refine Wp.aG (by simp only[go_sem,reduceIte,Nat.reduceEqDiff,Nat.reduceAdd,bx,ax,if_true,if_false,Nat.reduceMul,Nat.reduceLeDiff,f3,fK,n3,nn];exact rfl) ?_
  refine ae.fc xA2 (by simp only[go_sem,reduceIte,Nat.reduceEqDiff,Nat.reduceAdd,bx,List.map];exact af.refl _) (ca) (aV _) ?_
  refine ae.evR xA1 ?_
  refine ae.nil ⟨by simp[aJ,ar,apart,aC],?_⟩
  cases hb:hdB p.v with
  |false=>
   rw[hb] at dE
   rw[if_neg (by simp)]
   refine Wp.cH (by simp only[go_sem,reduceIte,Nat.reduceEqDiff,Nat.reduceAdd,bx,ax,if_true,if_false,Nat.reduceMul,Nat.reduceLeDiff,dE];exact rfl) (by simp only[go_sem,reduceIte,Nat.reduceEqDiff,Nat.reduceAdd,bx,List.map];exact af.refl _) dy (trivial) ?_
   exact ⟨rfl,by simp only[upd,n1,if_false];exact M.o1⟩
  |true=>
   rw[hb] at dE
   rw[if_pos rfl,if_neg (by simp)]
   refine Wp.cH (by simp only[go_sem,reduceIte,Nat.reduceEqDiff,Nat.reduceAdd,bx,ax,if_true,if_false,Nat.reduceMul,Nat.reduceLeDiff,dE];exact rfl) (by simp only[go_sem,reduceIte,Nat.reduceEqDiff,Nat.reduceAdd,bx,List.map];exact af.refl _) dy (trivial) ?_
   exact ⟨rfl,by simp only[upd,n1,if_false];exact M.o1⟩
 ·have hv:bV bt k= .tsl 3 k 0 bt.length none:=by unfold bV;rw[if_neg ho]
  rw[hv] at f3
  obtain ⟨y1,y2⟩:=M.hk ho
  have fk:=M.cs ho
  have ca:=FJ (.only (upd ah k (some (.cells (dS bt)))) [] (n+2+1) m) bt k key.b (fun _=>by simp[H.only,upd]) (by omega)
  rw[hv] at ca
  have hbpl:fw ((bt.map Prod.fst).map Bk.n) key.b=true→jB ((bt.map Prod.fst).map Bk.n) key.b<bt.length:=by
   intro h
   unfold fw at h
   simp only[Bool.and_eq_true,decide_eq_true_eq,List.length_map] at h
   exact h.1
  generalize hbt:fw ((bt.map Prod.fst).map Bk.n) key.b=bh at*
  generalize hbp:jB ((bt.map Prod.fst).map Bk.n) key.b=i at*
  have k3:¬(3=k):=by omega
  have kn2:¬(k=n+2):=by omega
  have kn3:¬(k=n+2+1):=by omega
  have k2:¬(k=2):=by omega
  have k3':¬(k=3):=by omega
  refine Wp.aG (by simp only[go_sem,reduceIte,Nat.reduceEqDiff,Nat.reduceAdd,bx,ax,if_true,if_false,Nat.reduceMul,Nat.reduceLeDiff,f3,fK,n3,nn];exact rfl) ?_
  refine ae.fc xA2 (by simp only[go_sem,reduceIte,Nat.reduceEqDiff,Nat.reduceAdd,bx,List.map];exact af.refl _) (ca) (cF _ (by simp only[upd,kn2,if_false];exact fk)) ?_
  refine ae.evR xA1 ?_
  refine ae.nil ⟨by simp[aJ,ar,apart,aC],?_⟩
  cases hb:hdB p.v with
  |false=>
   rw[hb] at dE
   rw[if_neg (by simp)]
   refine Wp.cH (by simp only[go_sem,reduceIte,Nat.reduceEqDiff,Nat.reduceAdd,bx,ax,if_true,if_false,Nat.reduceMul,Nat.reduceLeDiff,dE];exact rfl) (by simp only[go_sem,reduceIte,Nat.reduceEqDiff,Nat.reduceAdd,bx,List.map];exact af.refl _) dy (trivial) ?_
   exact ⟨rfl,by simp only[upd,n1,if_false];exact M.o1⟩
  |true=>
  rw[hb] at dE
  rw[if_pos rfl]
  cases bh with
  |false=>
   rw[if_neg (by simp)]
   refine Wp.cH (by simp only[go_sem,reduceIte,Nat.reduceEqDiff,Nat.reduceAdd,bx,ax,if_true,if_false,Nat.reduceMul,Nat.reduceLeDiff,dE];exact rfl) (by simp only[go_sem,reduceIte,Nat.reduceEqDiff,Nat.reduceAdd,bx,List.map];exact af.refl _) dy (trivial) ?_
   exact ⟨rfl,by simp only[upd,n1,if_false];exact M.o1⟩
  |true=>
  rw[if_pos rfl]
  have hi:=hbpl rfl
  refine Wp.au (by simp only[go_sem,reduceIte,Nat.reduceEqDiff,Nat.reduceAdd,bx,ax,if_true,if_false,Nat.reduceMul,Nat.reduceLeDiff,dE];exact rfl) ?_
  refine ab.aP xA2 (by simp only[go_sem,reduceIte,Nat.reduceEqDiff,Nat.reduceAdd,bx,List.map];exact af.refl _) (fx) ?_
  refine ab.nil ?_
  rw[←hT]
  unfold kf el2 el1 gC eZ c64
  simp only[hdA,tlA,blX,thA,elA]
  refine Wp.aG (by simp only[go_sem,reduceIte,Nat.reduceEqDiff,Nat.reduceAdd,bx,ax,if_true,if_false,Nat.reduceMul,Nat.reduceLeDiff,fK,n3,nn,z0,List.length_cons,List.length_nil,Int.toNat_zero,List.getD_cons_zero,Int.le_refl,and_self];exact rfl) ?_
  refine ae.nil ⟨by simp[aJ,ar,apart,aC,on,nn],?_⟩
  have p1:(0:Int)≤(i:Int):=by omega
  have p2:(i:Int)<(bt.length:Int):=by omega
  refine Wp.au (by simp only[go_sem,reduceIte,Nat.reduceEqDiff,Nat.reduceAdd,bx,ax,if_true,if_false,Nat.reduceMul,Nat.reduceLeDiff,f3,n3,o3,p1,p2,Int.toNat_natCast,and_self];exact rfl) ?_
  refine ab.nil ?_
  have hcl:=fG bt
  have hC2:=C4 bt i hi
  have hTk:=Aj bt i hi
  have hDr:=Ak bt i hi
  have hset:=C5 bt i hi (⟨(bt.getD i default).1.n,(bt.getD i default).1.st,(bt.getD i default).1.l++[⟨key.o,v0,hsz,hre,him,hg,hu,s⟩]⟩,m)
  have hmem:bt.getD i default∈bt:=by
   have e:bt.getD i default=bt[i]:=by simp[List.getD,List.getElem?_eq_getElem hi]
   rw[e];exact List.getElem_mem hi
  have htk:=M.tk _ hmem
  have htm:=M.tm _ hmem
  have hvl:=M.vers _ hmem
  have hfst:(bt.set i (⟨(bt.getD i default).1.n,(bt.getD i default).1.st,(bt.getD i default).1.l++[⟨key.o,v0,hsz,hre,him,hg,hu,s⟩]⟩,m)).map Prod.fst=pU (bt.map Prod.fst) i ⟨key.o,v0,hsz,hre,him,hg,hu,s⟩:=by
   unfold pU
   have e:(bt.map Prod.fst).getD i default=(bt.getD i default).1:=by simp[List.getD,List.getElem?_eq_getElem hi]
   rw[e,List.map_set]
  have hms:=fun {y x:Bk × Nat} (hx:x∈bt.set i y)=>ur M.nd hi hx
  rw[←hfst]
  generalize bt.getD i default=bb at*
  generalize dS bt=cs at*
  obtain ⟨⟨bn,bst,bl⟩,tk⟩:=bb
  simp only at hC2 hTk hset htk htm hvl hms ⊢
  have lv:=eG bl
  have e6:(bl.length+1)*72≤140737488355328:=by omega
  have e7:bl.length+1<4611686018427387904:=by omega
  have y2:i*3+2+1≤cs.length:=by omega
  have kk:¬(n+2+1=k):=by omega
  have kk2:¬(2=k):=by omega
  have kk3:¬(n+2=k):=by omega
  refine Wp.aG (by simp only[go_sem,reduceIte,Nat.reduceEqDiff,Nat.reduceAdd,bx,ax,if_true,if_false,Nat.reduceMul,Nat.reduceLeDiff,f3,f2,fK,fk,n3,n2,o3,o2,on,nn,oq,kn2,kn3,hC2,hTk,hDr,lv,e6,e7,y2,htk,hf,hl,List.length_cons,List.length_nil,and_self];exact rfl) ?_
  refine ae.nil ⟨by simp[aJ,ar,apart,aC,n3,o3,o2,oq,n2,on,nn] <;>omega,?_⟩
  refine Wp.cf (by simp only[go_sem,reduceIte,Nat.reduceEqDiff,Nat.reduceAdd,bx,ax,if_true,if_false,Nat.reduceMul,Nat.reduceLeDiff,f3,f2,n3,n2,o3,o2,k3,kk,kk2,kk3,oq,hf,hd];exact rfl) ?_
  refine ae.nil ⟨by simp[aJ,ar,apart,aC,n3,o3,o2,oq,n2,on,nn] <;>omega,?_⟩
  have hvs:bV (bt.set i (⟨bn,bst,bl++[⟨key.o,v0,hsz,hre,him,hg,hu,s⟩]⟩,m)) k= .tsl 3 k 0 bt.length none:=by
   unfold bV
   rw[if_neg (by simpa using ho),List.length_set]
  have k0:¬(0=k):=by omega
  have k1:¬(1=k):=by omega
  have k4:¬(4=k):=by omega
  refine ⟨rfl,_,rfl,⟨k,by simp only[upd,n3,o3,k3,if_false,Nat.reduceEqDiff,reduceIte];rw[hvs];exact f3,fun _=>⟨y1,by simp only;omega,_,by simp only[upd,k2,if_true,if_false];exact rfl,?_⟩⟩,by simp only[upd,if_true],by simp only[upd,n0,o0,k0,if_false,Nat.reduceEqDiff,reduceIte];exact M.o0,by simp only[upd,n1,o1,k1,if_false,Nat.reduceEqDiff,reduceIte];exact M.o1,by simp only[upd,n4,o4,k4,if_false,Nat.reduceEqDiff,reduceIte];exact M.o4,by simp only;omega,?_,?_,?_,by rw[List.length_set];omega,?_,pin⟩
  ·rw[hset]
   simp[mI,vss,cM]
   exact af.refl _
  ·intro x hx
   rcases hms hx with rfl|⟨h1,h2⟩
   ·exact List.mem_cons_self
   ·refine List.mem_cons_of_mem _ (List.mem_filter.2 ⟨M.tk x h1,by simpa using h2⟩)
  ·intro x hx
   rcases hms hx with rfl|⟨h1,h2⟩
   ·exact Nat.lt_succ_self _
   ·have:=M.tm x h1
    simp only;omega
  ·rw[List.map_set]
   refine Al M.nd fun hm=>?_
   obtain ⟨x,hx,e⟩:=List.mem_map.1 hm
   have:=M.tm x hx
   omega
  ·intro x hx
   rcases hms hx with rfl|⟨h1,h2⟩
   ·simp only[List.length_append,List.length_cons,List.length_nil];omega
   ·have:=M.vers x h1;omega
theorem pW {L:List Pr} {J:Nat} {R:Option SS} {e:aA} {s':St} (h:QA L J R e s'):aA.inBlock 0 (QA L J R) e s':=by
 cases R with
 |none=>
  have h':=h
  obtain ⟨h1,-⟩:=h'
  subst h1;exact h
 |some S=>
  have h':=h
  obtain ⟨h1,-⟩:=h'
  subst h1;exact h
theorem C6 {L:List Pr} {F:Nat→Option Av.Obj} {n:Nat} {toks:List Nat} {m:Nat} {bt:List (Bk × Nat)} {q:List Pc} {J k:Nat} {p:Pr} {key:Ky} (M:Mid L F n toks m bt q J k p key) (hok:key.ok) (hpv:p.v.length≤140737488355328):
  Wp Tryz.prog 161 eZ ⟨tm [(0,.ptr 3 0),(3,.ptr n 0),(4,.ptr (n+1) 0)],⟨F,n+2,toks,m⟩⟩ (QA L J (jC (bt.map Prod.fst,q) key p.v)):=by
 have WB:=fun hk=>GJ M (key:=key) hk
 have WC:=fun hk=>GK M hk hok hpv
 have WV:=fun hk=>GL M hk hok hpv
 have hk:=hok.k
 rw[wG]
 generalize hB:kZ=B at*
 generalize hC:kd=C at*
 generalize hV:kf=V at*
 generalize hD:elD=D at*
 unfold el2 el1 gC eZ c64
 simp only[hdA,tlA,blX,thA,elA]
 have fK:=M.K
 by_cases h1:key.k=1
 ·have d1:decide (key.k=1)=true:=decide_eq_true h1
  refine rf0 (cj2 fK d1) ?_
  refine Wp.mono (Wp.le (aF.of (bk ?_) (OLe.cP _) (fun x hx=>hx) (Nat.le_refl _) (Nat.le_refl _)) (WB h1)) (fun e s' h=>pW h)
  exact xSb
 have d1:decide (key.k=1)=false:=decide_eq_false h1
 by_cases h3:key.k=3
 ·have d3:decide (key.k=3)=true:=decide_eq_true h3
  refine rf0 (cj3 fK d1 d3) ?_
  refine Wp.mono (Wp.le (aF.of (bk ?_) (OLe.cP _) (fun x hx=>hx) (Nat.le_refl _) (Nat.le_refl _)) (WC h3)) (fun e s' h=>pW h)
  exact xSb
 have d3:decide (key.k=3)=false:=decide_eq_false h3
 by_cases h2:key.k=2
 ·have d2:decide (key.k=2)=true:=decide_eq_true h2
  refine rf0 (cj4 fK d1 d3 d2) ?_
  refine Wp.mono (Wp.le (aF.of (bk ?_) (OLe.cP _) (fun x hx=>hx) (Nat.le_refl _) (Nat.le_refl _)) (WV h2)) (fun e s' h=>pW h)
  exact xSb
 have d2:decide (key.k=2)=false:=decide_eq_false h2
 have hR:jC (bt.map Prod.fst,q) key p.v=none:=by
  unfold jC
  rw[if_neg h1,if_neg h3,if_neg h2]
 rw[hR]
 refine rf0 (cj4 fK d1 d3 d2) ?_
 rw[←hD]
 unfold elD el2 el1 gC eZ c64
 simp only[hdA,tlA,blX,thA,elA]
 refine Wp.rU (by simp only[go_sem,reduceIte,Nat.reduceEqDiff,Nat.reduceAdd,bx,ax,if_true,if_false,Nat.reduceMul,Nat.reduceLeDiff];exact rfl) (by simp only[go_sem,reduceIte,Nat.reduceEqDiff,Nat.reduceAdd,bx,List.map];exact af.refl _) dy (trivial) ?_
 exact ⟨rfl,M.o1⟩
theorem kL {F:Nat→Option Av.Obj} {k:Nat} {cs cs':List AV} (h:F k=some (.cells cs)) (hs:af cs cs'):OLe F (upd F k (some (.cells cs'))):=fun j o' hj=>by
 simp only[upd] at hj
 split at hj
 ·rename_i e
  subst e
  cases hj
  exact ⟨_,h,hs⟩
 ·exact ⟨o',hj,cK.refl _⟩
set_option maxHeartbeats 2000000 in
theorem FK (L:List Pr) (h:H) (bt:List (Bk × Nat)) (q:List Pc) (J:Nat) (hJ:J≤5000) (I:kR L h bt q J) (p:Pr) (hpk:p.k.length≤140737488355328) (hpv:p.v.length≤140737488355328):
  Wp Tryz.prog 161 c64 ⟨eh [.ptr 3 0,.agg [.str p.k,.str p.v]],h⟩ (QA L J (jt (bt.map Prod.fst,q) p)):=by
 obtain ⟨F,n,toks,m⟩:=h
 obtain ⟨k,f3,hrow⟩:=I.row
 have f2:=I.mp
 have f0:=I.o0
 have f1:=I.o1
 have f4:=I.o4
 have hn:=I.hn
 have htk:=I.tk
 have htm:=I.tm
 simp only at f3 hrow f2 f0 f1 f4 hn htk htm
 obtain ⟨F',hle,g3,g2,g0,g1,g4,gk⟩:∃F',OLe F F'∧F' 3=some (.cells [bV bt k,.mp 2])∧F' 2=some (.map (eY q))∧F' 0=some (.cells [.sl 2 (prs L) .any])∧F' 1=some (.cells [.sl 3 [] (.exact 0)])∧F' 4=some (.cells [.ptr 3 0])∧(bt≠[]→5≤k∧k<n∧F' k=some (.cells (dS bt))):=by
  by_cases ho:bt=[]
  ·exact ⟨F,OLe.cP _,f3,f2,f0,f1,f4,fun x=>absurd ho x⟩
  ·obtain ⟨a,b,cs,c,d⟩:=hrow ho
   refine ⟨upd F k (some (.cells (dS bt))),kL c d,?_,?_,?_,?_,?_,fun _=>⟨a,b,by simp[upd]⟩⟩
   all_goals
    simp only[upd]
    rw[if_neg (by omega)]
    assumption
 refine Wp.le (aF.of (fun _=>ag.refl _) hle (fun x hx=>hx) (Nat.le_refl _) (Nat.le_refl _)) ?_
 have W:=fun (key:Ky) (M:Mid L (upd (upd (upd F' n (some (.cells [.str p.k,.str p.v]))) (n+1) (some (.cells [.int .i64 0,.str [],.str [],.sl 1 [] (.exact 0)]))) (n+1) (some (.cells [.int .i64 key.k,.str key.b,.str key.o,.sl 1 (ints key.ns) .any]))) n toks m bt q J k p key) hok=>C6 M hok hpv
 have n3:¬(3=n):=by omega
 have n4:¬(4=n):=by omega
 have n0:¬(0=n):=by omega
 have n1:¬(1=n):=by omega
 have n2:¬(2=n):=by omega
 have m3:¬(3=n+1):=by omega
 have m4:¬(4=n+1):=by omega
 have m0:¬(0=n+1):=by omega
 have m1:¬(1=n+1):=by omega
 have m2:¬(2=n+1):=by omega
 have nn:¬(n=n+1):=by omega
 have cp:=EG p.k hpk
 have hpe:wv p.k=if eJ p.k then 0 else 4:=rfl
 have hS:jt (bt.map Prod.fst,q) p=if eJ p.k=true then jC (bt.map Prod.fst,q) (bq p.k) p.v else none:=rfl
 rw[hS,E6]
 generalize hT:eZ=T at*
 unfold c64
 simp only[C.zz]
 simp only[hdA,tlA]
 cases hb:eJ p.k with
 |false=>
  rw[hb] at hpe
  rw[if_neg (by simp)] at hpe ⊢
  rw[hpe] at cp
  unfold eR at cp
  refine Wp.au (by simp only[go_sem,reduceIte,Nat.reduceEqDiff,Nat.reduceAdd,bx,ax,if_true,if_false,Nat.reduceMul,Nat.reduceLeDiff];exact rfl) ?_
  refine ab.nil ?_
  refine Wp.au (by simp only[go_sem,reduceIte,Nat.reduceEqDiff,Nat.reduceAdd,bx,ax,if_true,if_false,Nat.reduceMul,Nat.reduceLeDiff];exact rfl) ?_
  refine ab.aP xA2 (by simp only[go_sem,reduceIte,Nat.reduceEqDiff,Nat.reduceAdd,bx,List.map];exact af.refl _) (cp) ?_
  refine ab.evF (by simp only[go_sem,reduceIte,Nat.reduceEqDiff,Nat.reduceAdd,bx,ax,if_true,if_false,Nat.reduceMul,Nat.reduceLeDiff,nn];exact rfl) ?_
  refine ab.nil ?_
  refine Wp.cH (by simp only[go_sem,reduceIte,Nat.reduceEqDiff,Nat.reduceAdd,bx,ax,if_true,if_false,Nat.reduceMul,Nat.reduceLeDiff,nn];exact rfl) (by simp only[go_sem,reduceIte,Nat.reduceEqDiff,Nat.reduceAdd,bx,List.map];exact af.refl _) dy (trivial) ?_
  exact ⟨rfl,by simp only[upd,n1,m1,if_false];exact g1⟩
 |true=>
  rw[hb] at hpe
  rw[if_pos rfl] at hpe ⊢
  rw[hpe] at cp
  have hok:=(wB hb).1
  have W2:=W (bq p.k)
  unfold eR at cp
  generalize bq p.k=key at*
  refine Wp.au (by simp only[go_sem,reduceIte,Nat.reduceEqDiff,Nat.reduceAdd,bx,ax,if_true,if_false,Nat.reduceMul,Nat.reduceLeDiff];exact rfl) ?_
  refine ab.nil ?_
  refine Wp.au (by simp only[go_sem,reduceIte,Nat.reduceEqDiff,Nat.reduceAdd,bx,ax,if_true,if_false,Nat.reduceMul,Nat.reduceLeDiff];exact rfl) ?_
  refine ab.aP xA2 (by simp only[go_sem,reduceIte,Nat.reduceEqDiff,Nat.reduceAdd,bx,List.map];exact af.refl _) (cp) ?_
  refine ab.evF (by simp only[go_sem,reduceIte,Nat.reduceEqDiff,Nat.reduceAdd,bx,ax,if_true,if_false,Nat.reduceMul,Nat.reduceLeDiff,nn];exact rfl) ?_
  refine ab.nil ?_
  refine Wp.au (by simp only[go_sem,reduceIte,Nat.reduceEqDiff,Nat.reduceAdd,bx,ax,if_true,if_false,Nat.reduceMul,Nat.reduceLeDiff,nn];exact rfl) ?_
  refine ab.aP xA2 (by simp only[go_sem,reduceIte,Nat.reduceEqDiff,Nat.reduceAdd,bx,List.map];exact af.refl _) (fx) ?_
  refine ab.nil ?_
  refine Wp.le (aF.of (bk ?_) (OLe.cP _) (fun x hx=>hx) (Nat.le_refl _) (Nat.le_refl _)) (W2 ?_ hok)
  ·exact xSb
  ·refine ⟨fun ho=>⟨(gk ho).1,(gk ho).2.1⟩,hn,?_,fun ho=>?_,?_,?_,?_,?_,?_,?_,htk,htm,I.nd,I.len,I.vers,I.pcs,hJ⟩
   ·simp only[upd,n3,m3,if_false];exact g3
   ·obtain ⟨a,b,c⟩:=gk ho
    have e1:¬(k=n):=by omega
    have e2:¬(k=n+1):=by omega
    simp only[upd,e1,e2,if_false];exact c
   ·simp only[upd,n2,m2,if_false];exact g2
   ·simp only[upd,n0,m0,if_false];exact g0
   ·simp only[upd,n1,m1,if_false];exact g1
   ·simp only[upd,n4,m4,if_false];exact g4
   ·simp only[upd,nn,if_false,if_true]
   ·simp only[upd,if_true]
theorem C7 {L:List Pr} {h:H} {bt:List (Bk × Nat)} {q:List Pc} {J:Nat} (hJ:J≤5000) (I:kR L h bt q J) {p:Pr} (hpk:p.k.length≤140737488355328) (hpv:p.v.length≤140737488355328) {S:SS} (hS:jt (bt.map Prod.fst,q) p=some S):
  ∃r h',aN Tryz.prog 64 [.ptr 3 0,.agg [.str p.k,.str p.v]] h r h'∧(h.n≤h'.n∧h.m≤h'.m)∧∃bt',bt'.map Prod.fst=S.1∧kR L h' bt' S.2 (J+1):=by
 have W:=FK L h bt q J hJ I p hpk hpv
 rw[hS] at W
 exact aI.rW (Q:=fun _ h'=>∃bt',bt'.map Prod.fst=S.1∧kR L h' bt' S.2 (J+1)) f64 (by simp) (W.mono fun e s' hq=>⟨gD hq.1,_,rfl,hq.2⟩)
theorem xR {L:List Pr} {h:H} {bt:List (Bk × Nat)} {q:List Pc} {J:Nat} (hJ:J≤5000) (I:kR L h bt q J) {p:Pr} (hpk:p.k.length≤140737488355328) (hpv:p.v.length≤140737488355328) (hS:jt (bt.map Prod.fst,q) p=none):
  ∃h',di Tryz.prog 64 [.ptr 3 0,.agg [.str p.k,.str p.v]] h v4 h'∧(h.n≤h'.n∧h.m≤h'.m)∧h'.objs 1=some (.cells [.sl 3 [] (.exact 0)]):=by
 have W:=FK L h bt q J hJ I p hpk hpv
 rw[hS] at W
 obtain ⟨v,h',a,b,rfl,c⟩:=aI.tg (Q:=fun v h'=>v=v4∧h'.objs 1=some (.cells [.sl 3 [] (.exact 0)])) f64 (by simp) (W.mono fun e s' hq=>⟨_,hq.1,rfl,hq.2⟩)
 exact ⟨h',a,b,c⟩
def Am:AV:= .tup [.agg [.sl 3 [] .any],.int .i64 4]
theorem cw (l:List Pr) (j:Nat) (d:AV) (h:j<l.length):(prs l).getD j d= .agg [.str (l.getD j default).k,.str (l.getD j default).v]:=by
 simp[prs,gR,List.getD,List.getElem?_eq_getElem h]
theorem E7 (a b:List Pr) (ha:a.length≤1000000) (hb:b.length≤1000000):aE Tryz.prog 65 [.sl 2 (prs a) .any,.sl 2 (prs b) .any] (.bool (decide (a=b))):=by
 refine f65.aD (by simp) (by simp[az,aO,bC,iJ]) rfl ?_
 unfold c65
 simp only[C.zz]
 have lea:=bj a
 have leb:=bj b
 by_cases hlen:a.length=b.length
 ·have e0:decide (((a.length:Nat):Int)=((b.length:Nat):Int))=true:=decide_eq_true (by omega)
  refine rn0 (cj4 lea leb e0 @Bool.not_true) ?_
  refine Wp.gN [0,1,12] xA6 (fun j:Nat=>[(13,.int .i64 (j:Nat))]) (fun j=>j≤a.length∧a.take j=b.take j) (fun j=>a.length - j) 0 ⟨Nat.zero_le _,rfl⟩ ?_ ?_
  ·exact xSb
  rintro j ⟨hj,hpre⟩
  by_cases hc:j<a.length
  ·obtain ⟨g1,g2,g3,e1⟩:=fW hc (Nat.le_trans ha (by decide))
   have g4:(j:Int)<(b.length:Int):=by omega
   have hat:=cw a j .any hc
   have hbt:=cw b j .any (by omega)
   have ea:a.getD j default=a[j]:=by simp[List.getD,List.getElem?_eq_getElem hc]
   have eb:b.getD j default=b[j]:=by simp[List.getD,List.getElem?_eq_getElem (show j<b.length by omega)]
   by_cases hp:a.getD j default=b.getD j default
   ·have hnext:a.take (j+1)=b.take (j+1):=by
     rw[List.take_succ_eq_append_getElem hc,List.take_succ_eq_append_getElem (show j<b.length by omega),hpre,←ea,←eb,hp]
    rw[←hp] at hbt
    generalize a.getD j default=p at*
    refine rn0 (bM g1 g2 g3 g4 lea leb hat hbt @Int.toNat_natCast @beq_self_eq_true.{0} @bne_self_eq_false.{0} (cj4 @decide_true @Bool.and_self @Option.map_some.{0,0} @Bool.not_true)) ?_
    refine ⟨j+1,⟨by omega,hnext⟩,Nat.sub_lt_sub_left hc (Nat.lt_succ_self _),?_⟩
    refine aF.tm (by simp only[av,go_sem,reduceIte,Nat.reduceEqDiff,Nat.reduceAdd,bx,e1];and_intros<;>first|exact trivial|exact ag.refl _|exact ag.any _|(refine ag.int ?_;omega))
   ·have hne:decide (a=b)=false:=decide_eq_false fun h=>hp (by rw[h])
    rw[hne]
    generalize a.getD j default=p at*
    generalize b.getD j default=q at*
    have dpq:(decide (p.k=q.k)&&decide (p.v=q.v))=false:=by
     rw[Bool.and_eq_false_iff]
     by_cases h1:p.k=q.k
     ·refine .inr (decide_eq_false fun h2=>hp ?_)
      obtain ⟨pk,pv⟩:=p
      obtain ⟨qk,qv⟩:=q
      simp only at h1 h2
      rw[h1,h2]
     ·exact .inl (decide_eq_false h1)
    refine rn0 (bM g1 g2 g3 g4 lea leb hat hbt dpq @Int.toNat_natCast @Option.map_some.{0,0} @Bool.not_false) ?_
    refine aL ?_
    exact ag.refl _
  ·have hj2:j=a.length:=by omega
   subst hj2
   have g1:=ik a.length
   have he:decide (a=b)=true:=by
    rw[List.take_length,hlen,List.take_length] at hpre
    exact decide_eq_true hpre
   rw[he]
   refine rn0 (cj2 g1 lea) ?_
   refine aL ?_
   exact ag.refl _
 ·have e0:decide (((a.length:Nat):Int)=((b.length:Nat):Int))=false:=decide_eq_false (by omega)
  have hne:decide (a=b)=false:=decide_eq_false fun h=>hlen (by rw[h])
  rw[hne]
  refine rn0 (cj4 lea leb e0 @Bool.not_false) ?_
  refine aL ?_
  exact ag.refl _
def qh (b:Bk):List AV:=[.str b.n,.int .i64 b.st,.sl 8 (vss b.l) .any]
theorem C8 (m:List Bk):(m.map qh).map AV.agg=bks m:=by
 rw[List.map_map];rfl
def iW (L:List Pr):List Bk:=match ju L L.length with
 |some S=>S.1
 |none=>[]
def fH (L:List Pr):Bool:=match ju L L.length with
 |some S=>decide (S.2=[])&&(decide (imE S.1=0)&&decide ((if imB S.1=true then aQ (aU S.1) else [])=L))
 |none=>false
def QM (L:List Pr):aA→St→Prop:=fun e s'=>if fH L=true then e= .normal∧s'.h.objs 3=some (.cells [.sl 3 (bks (iW L)) .any,.mp 2])∧s'.h.objs 1=some (.cells [.sl 3 [] (.exact 0)])∧s'.h.objs 4=some (.cells [.ptr 3 0]) else e= .panic v4∧s'.h.objs 1=some (.cells [.sl 3 [] (.exact 0)])
theorem ny {L:List Pr} (h:fH L=false) {s':St} (h1:s'.h.objs 1=some (.cells [.sl 3 [] (.exact 0)])):QM L (.panic v4) s':=by
 unfold QM
 rw[h,if_neg (by simp)]
 exact ⟨rfl,h1⟩
theorem uu {L:List Pr} {j:Nat} (h:ju L j=none):∀k,ju L (j+k)=none
 |0=>h
 |k+1=>by
  have:=uu h k
  rw[show j+(k+1)=(j+k)+1 by omega]
  simp only[ju]
  rw[this];rfl
theorem Da {L:List Pr} {j:Nat} (hj:j≤L.length) (h:ju L j=none):fH L=false:=by
 have:=uu h (L.length - j)
 rw[show j+(L.length - j)=L.length by omega] at this
 unfold fH
 rw[this]
theorem E8 (m:List Bk) (v:Vs):∀i,i<m.length→((pU m i v).map fun b=>b.l.length).sum=(m.map fun b=>b.l.length).sum+1:=by
 unfold pU
 induction m with
 |nil=>intro i hi;simp at hi
 |cons b m ih=>
  intro i hi
  cases i with
  |zero=>simp[List.getD];omega
  |succ i=>
   have:=ih i (by simpa using hi)
   simp only[List.set_cons_succ,List.map_cons,List.sum_cons]
   have e:(b::m).getD (i+1) default=m.getD i default:=by simp[List.getD]
   rw[e,this];omega
theorem An {S S':SS} {p:Pr} (h:jt S p=some S'):S'.1.length+(S'.1.map fun b=>b.l.length).sum≤S.1.length+(S.1.map fun b=>b.l.length).sum+1:=by
 unfold jt at h
 split at h
 ·unfold jC at h
  split at h
  ·split at h
   ·cases h;simp;omega
   ·cases h
  ·split at h
   ·split at h
    ·cases h;simp only;omega
    ·cases h
   ·split at h
    ·split at h
     ·split at h
      ·rename_i ht
       cases h
       have hi:jB (S.1.map Bk.n) (bq p.k).b<S.1.length:=by
        unfold fw at ht
        simp only[Bool.and_eq_true,decide_eq_true_eq,List.length_map] at ht
        exact ht.1
       have hl:∀v,(pU S.1 (jB (S.1.map Bk.n) (bq p.k).b) v).length=S.1.length:=fun v=>by simp[pU]
       simp only
       rw[E8 _ _ _ hi,hl];omega
      ·cases h
     ·cases h
    ·cases h
 ·cases h
theorem nz (L:List Pr):∀(j:Nat) {S:SS},ju L j=some S→S.1.length+(S.1.map fun b=>b.l.length).sum≤j
 |0,S,h=>by cases h;simp
 |j+1,S,h=>by
  simp only[ju] at h
  obtain ⟨S0,h0,h1⟩:=Option.bind_eq_some_iff.1 h
  have:=nz L j h0
  split at h1
  ·have:=An h1;omega
  ·cases h1
theorem lM {m:List Bk} (h:imB m=true):(aU m).length≤m.length+17*(m.map fun b=>b.l.length).sum:=by
 have key:∀b∈m,(fg b).length≤1+17*b.l.length:=fun b hx=>by
  have ho:=jz h hx
  have e:(fg b).length=1+((b.l.map (dx b.n)).flatten).length:=by
   unfold fg cC
   rw[List.length_map,List.flatten_cons,List.length_append];rfl
  rw[e]
  have hv:∀l:List Vs,(∀v∈l,v.okV=true)→((l.map (dx b.n)).flatten).length≤17*l.length:=by
   intro l
   induction l with
   |nil=>intro _;simp
   |cons v l ih=>
    intro hv
    have h1:=ih fun u hu=>hv u (by simp[hu])
    have h2:=oz (mC (hv v (by simp))).2
    have h3:(dx b.n v).length=ez v.b+1:=by simp[dx]
    simp only[List.map_cons,List.flatten_cons,List.length_append,List.length_cons,h3]
    omega
  have:=hv b.l fun v hv=>rp ho hv
  omega
 clear h
 induction m with
 |nil=>simp[aU]
 |cons b m ih=>
  have h1:=ih fun u hu=>key u (by simp[hu])
  have h2:=key b (by simp)
  unfold aU at*
  simp only[List.map_cons,List.flatten_cons,List.length_append,List.length_cons,List.sum_cons]
  omega
theorem kR.ext {L:List Pr} {F F':Nat→Option Av.Obj} {n n':Nat} {toks:List Nat} {m:Nat} {bt:List (Bk × Nat)} {q:List Pc} {J:Nat} (I:kR L ⟨F,n,toks,m⟩ bt q J) (hF:∀a,a<n→F' a=F a) (hn:n≤n'):kR L ⟨F',n',toks,m⟩ bt q J:=by
 obtain ⟨k,f3,hrow⟩:=I.row
 have h5:=I.hn
 simp only at h5
 refine ⟨⟨k,(hF 3 (by omega)).trans f3,fun ho=>?_⟩,(hF 2 (by omega)).trans I.mp,(hF 0 (by omega)).trans I.o0,(hF 1 (by omega)).trans I.o1,(hF 4 (by omega)).trans I.o4,by simp only;omega,I.tk,I.tm,I.nd,I.len,I.vers,I.pcs⟩
 obtain ⟨a,b,cs,c,d⟩:=hrow ho
 simp only at b
 exact ⟨a,by simp only;omega,cs,(hF k b).trans c,d⟩
theorem pX:∀bt:List (Bk × Nat),af (dS bt) (((bt.map Prod.fst).map qh).flatten)
 |[]=>af.nil
 |x::bt=>by
  have ih:=pX bt
  have e1:dS (x::bt)= .str x.1.n:: .int .i64 x.1.st:: .sl 8 (vss x.1.l) (.own x.2)::dS bt:=rfl
  have e2:(((x::bt).map Prod.fst).map qh).flatten= .str x.1.n:: .int .i64 x.1.st:: .sl 8 (vss x.1.l) .any::((bt.map Prod.fst).map qh).flatten:=rfl
  rw[e1,e2]
  exact af.cons (ag.refl _) (af.cons (ag.refl _) (af.cons ag.cap ih))
def kh:AC:=tlA c63
theorem E9 {L:List Pr} {h:H} {bt:List (Bk × Nat)} {q:List Pc} {J:Nat} (I:kR L h bt q J) (N:Nat):∃h',aF ⟨tm [(0,.ptr 0 0),(1,.ptr 4 0)],h⟩ ⟨tm [(0,.ptr 0 0),(1,.ptr 4 0)],h'⟩∧h'.objs 3=some (.cells [.sl 3 (bks (bt.map Prod.fst)) .any,.mp 2])∧h'.objs 2=some (.map (eY q))∧h'.objs 0=some (.cells [.sl 2 (prs L) .any])∧h'.objs 1=some (.cells [.sl 3 [] (.exact 0)])∧h'.objs 4=some (.cells [.ptr 3 0]):=by
 obtain ⟨F,n,toks,m⟩:=h
 obtain ⟨k,f3,hrow⟩:=I.row
 have f2:=I.mp
 have f0:=I.o0
 have f1:=I.o1
 have f4:=I.o4
 simp only at f3 hrow f2 f0 f1 f4
 by_cases ho:bt=[]
 ·subst ho
  have hv:bV [] k= .sl 3 [] (.exact 0):=rfl
  rw[hv] at f3
  refine ⟨⟨upd F 3 (some (.cells [.sl 3 [] .any,.mp 2])),n,toks,m⟩,aF.of (fun _=>ag.refl _) (kL f3 (af.cons ag.cap (af.cons (ag.refl _) af.nil))) (fun x hx=>hx) (Nat.le_refl _) (Nat.le_refl _),by simp[upd,bks],?_,?_,?_,?_⟩
  all_goals
   simp only[upd]
   rw[if_neg (by decide)]
   assumption
 ·have hv:bV bt k= .tsl 3 k 0 bt.length none:=by unfold bV;rw[if_neg ho]
  rw[hv] at f3
  obtain ⟨a,b,cs,c,d⟩:=hrow ho
  have hrl:((bt.map Prod.fst).map qh).length=bt.length:=by simp
  have hr3:∀x∈(bt.map Prod.fst).map qh,x.length=3:=fun x hx=>by
   obtain ⟨b,-,rfl⟩:=List.mem_map.1 hx
   rfl
  have hsub:af cs (((bt.map Prod.fst).map qh).flatten):=fun G w v h=>pX bt G w v (d G w v h)
  have s1:aF ⟨tm [(0,.ptr 0 0),(1,.ptr 4 0)],⟨F,n,toks,m⟩⟩ ⟨tm [(0,.ptr 0 0),(1,.ptr 4 0)],⟨upd F k (some (.cells (((bt.map Prod.fst).map qh).flatten))),n,toks,m⟩⟩:=aF.of (fun _=>ag.refl _) (kL c hsub) (fun x hx=>hx) (Nat.le_refl _) (Nat.le_refl _)
  have k3:¬(3=k):=by omega
  have s2:=aF.Ha (tm [(0,.ptr 0 0),(1,.ptr 4 0)]) ⟨upd F k (some (.cells (((bt.map Prod.fst).map qh).flatten))),n,toks,m⟩ k 3 (rows:=(bt.map Prod.fst).map qh) (sz:=3) (c:=none) (rest:=[.mp 2]) hr3 k3 (by simp only[upd,if_true]) (by rw[hrl];simp only[upd,k3,if_false];exact f3)
  rw[C8] at s2
  have k0:¬(0=k):=by omega
  have k1:¬(1=k):=by omega
  have k2:¬(2=k):=by omega
  have k4:¬(4=k):=by omega
  refine ⟨_,aF.trans s1 (aF.trans s2 (aF.of (bk ?_) (OLe.cP _) (fun x hx=>hx) (Nat.le_refl _) (Nat.le_refl _))),by simp only[upd,if_true],?_,?_,?_,?_⟩
  ·simp only[av,go_sem,reduceIte,Nat.reduceEqDiff,Nat.reduceAdd,bx,unT,decide_eq_true_eq,k0,k4];and_intros<;>first|exact trivial|exact ag.refl _|exact ag.any _|(refine ag.int ?_;omega)
  ·simp only[upd,H.drop,k2,decide_false,if_false,Bool.false_eq_true,Nat.reduceEqDiff,reduceIte];exact f2
  ·simp only[upd,H.drop,k0,decide_false,if_false,Bool.false_eq_true,Nat.reduceEqDiff,reduceIte];exact f0
  ·simp only[upd,H.drop,k1,decide_false,if_false,Bool.false_eq_true,Nat.reduceEqDiff,reduceIte];exact f1
  ·simp only[upd,H.drop,k4,decide_false,if_false,Bool.false_eq_true,Nat.reduceEqDiff,reduceIte];exact f4
set_option maxHeartbeats 2000000 in
theorem Db {L:List Pr} (hl:L.length≤4000) {h:H} {bt:List (Bk × Nat)} {q:List Pc} (I:kR L h bt q L.length) (hR:ju L L.length=some (bt.map Prod.fst,q)):
  Wp Tryz.prog 54 kh ⟨tm [(0,.ptr 0 0),(1,.ptr 4 0)],h⟩ (QM L):=by
 obtain ⟨h',hle,f3,f2,f0,f1,f4⟩:=E9 I 54
 refine Wp.le hle ?_
 have hS:iW L=bt.map Prod.fst:=by unfold iW;rw[hR]
 have hO:fH L=(decide (q=[])&&(decide (imE (bt.map Prod.fst)=0)&&decide ((if imB (bt.map Prod.fst)=true then aQ (aU (bt.map Prod.fst)) else [])=L))):=by unfold fH;rw[hR]
 have hcnt:=nz L _ hR
 have hfew:Few (bt.map Prod.fst):=fun b hb=>by
  obtain ⟨x,hx,rfl⟩:=List.mem_map.1 hb
  have:=I.vers x hx
  omega
 have hbd:imB (bt.map Prod.fst)=true→(aU (bt.map Prod.fst)).length≤100000:=fun hb=>by
  have:=lM hb
  simp only at hcnt
  omega
 have cp:=jZ (bt.map Prod.fst) hfew hbd
 have hsl:(if imB (bt.map Prod.fst)=true then aQ (aU (bt.map Prod.fst)) else []).length≤1000000:=by
  split
  ·rename_i hb
   have:=xz (aU (bt.map Prod.fst))
   have:=hbd hb
   omega
  ·simp
 have ce:=E7 (if imB (bt.map Prod.fst)=true then aQ (aU (bt.map Prod.fst)) else []) L hsl (by omega)
 have hen:bP (bt.map Prod.fst)= .agg [.sl 3 (bks (bt.map Prod.fst)) .any]:=rfl
 rw[hen] at cp
 have hq:=CW q
 have dq:decide ((((eY q).length:Nat):Int)=0)=decide (q=[]):=by
  rw[hq,decide_eq_decide,←List.length_eq_zero_iff];omega
 clear hR I hbd hfew hcnt hle
 generalize hm:bt.map Prod.fst=mm at*
 generalize (if imB mm=true then aQ (aU mm) else [])=again at*
 have cut:kh= .seq (hdA kh) (.seq (hdA (tlA kh)) (tlA (tlA kh))):=rfl
 rw[cut]
 unfold kh c63
 simp only[hdA,tlA]
 cases hqe:decide (q=[]) with
 |false=>
  rw[hqe] at dq
  rw[hqe,Bool.false_and] at hO
  refine Wp.cH (by simp only[go_sem,reduceIte,Nat.reduceEqDiff,Nat.reduceAdd,bx,ax,if_true,if_false,Nat.reduceMul,Nat.reduceLeDiff,f4,f3,f2,dq];exact rfl) (by simp only[go_sem,reduceIte,Nat.reduceEqDiff,Nat.reduceAdd,bx,List.map];exact af.refl _) dy (trivial) ?_
  exact ny hO f1
 |true=>
 rw[hqe] at dq
 rw[hqe,Bool.true_and] at hO
 refine Wp.au (by simp only[go_sem,reduceIte,Nat.reduceEqDiff,Nat.reduceAdd,bx,ax,if_true,if_false,Nat.reduceMul,Nat.reduceLeDiff,f4,f3,f2,dq];exact rfl) ?_
 refine ab.aP xA2 (by simp only[go_sem,reduceIte,Nat.reduceEqDiff,Nat.reduceAdd,bx,List.map];exact af.refl _) (fx) ?_
 refine ab.nil ?_
 refine Wp.au (by simp only[go_sem,reduceIte,Nat.reduceEqDiff,Nat.reduceAdd,bx,ax,if_true,if_false,Nat.reduceMul,Nat.reduceLeDiff,f4,f3];exact rfl) ?_
 refine ab.aP xA2 (by simp only[go_sem,reduceIte,Nat.reduceEqDiff,Nat.reduceAdd,bx,List.map];exact af.refl _) (cp) ?_
 refine ab.evF (by simp only[go_sem,reduceIte,Nat.reduceEqDiff,Nat.reduceAdd,bx,ax,if_true,if_false,Nat.reduceMul,Nat.reduceLeDiff];exact rfl) ?_
 refine ab.nil ?_
 cases hde:decide (imE mm=0) with
 |false=>
  rw[hde,Bool.false_and] at hO
  refine Wp.rU (by simp only[go_sem,reduceIte,Nat.reduceEqDiff,Nat.reduceAdd,bx,ax,if_true,if_false,Nat.reduceMul,Nat.reduceLeDiff,hde];exact rfl) (by simp only[go_sem,reduceIte,Nat.reduceEqDiff,Nat.reduceAdd,bx,List.map];exact af.refl _) dy (trivial) ?_
  exact ny hO f1
 |true=>
 rw[hde,Bool.true_and] at hO
 cases hdg:decide (again=L) with
 |false=>
  rw[hdg] at hO ce
  refine Wp.yY (aR.eval (log:=[]) (aZ (by simp only[go_sem,reduceIte,Nat.reduceEqDiff,Nat.reduceAdd,bx,ax,if_true,if_false,hde,f0];exact rfl)) (aR.step (x:= .bool false) (fun ops i o ho hit=>kP.mo (N:=54) (full:=false) (.inl (aV _)) (cN ho hit xA2 rfl (by simp only[go_sem,reduceIte,Nat.reduceEqDiff,Nat.reduceAdd,bx,List.map];exact af.refl _) (ce _ _))) (aR.eval (log:=[]) (aZ (by simp only[go_sem,reduceIte,Nat.reduceEqDiff,Nat.reduceAdd,bx,ax,if_true,if_false,hde];exact rfl)) (aR.here fun ops i o ho hit=>qc.of (aV _) (dD ho hit rfl rfl (by simp only[go_sem,reduceIte,Nat.reduceEqDiff,Nat.reduceAdd,bx,List.map];exact af.refl _) (dy _ _)))))) ?_
  exact ny hO f1
 |true=>
  rw[hdg] at hO ce
  refine Wp.bJ (by simp only[go_sem,reduceIte,Nat.reduceEqDiff,Nat.reduceAdd,bx,ax,if_true,if_false,Nat.reduceMul,Nat.reduceLeDiff,hde,f0];exact rfl) ?_
  refine ab.aP xA2 (by simp only[go_sem,reduceIte,Nat.reduceEqDiff,Nat.reduceAdd,bx,List.map];exact af.refl _) (ce) ?_
  refine ab.evF (by simp only[go_sem,reduceIte,Nat.reduceEqDiff,Nat.reduceAdd,bx,ax,if_true,if_false,Nat.reduceMul,Nat.reduceLeDiff];exact rfl) ?_
  refine ab.aP xA2 (by simp only[go_sem,reduceIte,Nat.reduceEqDiff,Nat.reduceAdd,bx,List.map];exact af.refl _) (fx) ?_
  refine ab.nil ?_
  unfold QM
  rw[hO,if_pos rfl,hS]
  exact ⟨rfl,f3,f1,f4⟩
theorem Dc {L:List Pr} {j:Nat} {S:SS} (h:ju L j=some S):ju L (j+1)=if (decide (j=0)||Op.bytesLess (L.getD (j - 1) default).k (L.getD j default).k)=true then jt S (L.getD j default) else none:=by
 simp only[ju]
 rw[h];rfl
set_option maxHeartbeats 4000000 in
theorem GM (L:List Pr) (hl:L.length≤4000) (hks:∀p∈L,p.k.length≤140737488355328) (hvs:∀p∈L,p.v.length≤140737488355328) (h:H) (I0:kR L h [] [] 0):
  Wp Tryz.prog 54 c63 ⟨eh [.ptr 0 0,.ptr 4 0],h⟩ (QM L):=by
 have cut:c63= .seq (hdA c63) kh:=rfl
 rw[cut]
 have WR:=fun {h:H} {bt:List (Bk × Nat)} {q:List Pc} (I:kR L h bt q L.length) hR=>Db hl I hR
 generalize kh=R63 at*
 unfold c63
 simp only[C.zz]
 simp only[hdA]
 have lp:=bj L
 have f0:=I0.o0
 refine rf0 (cj2 f0 lp) ?_
 refine Wp.eN [0,1,6,7] xA7 (fun j:Nat × H=>[(8,.int .i64 (j.1:Nat))]) (fun j=>j.2) (fun j=>j.1≤L.length∧∃bt q,ju L j.1=some (bt.map Prod.fst,q)∧kR L j.2 bt q j.1) (fun j=>L.length - j.1) (0,h) ⟨Nat.zero_le _,[],[],rfl,I0⟩ rfl ?_ ?_
 ·exact xSb
 rintro ⟨j,h1⟩ ⟨hj,bt,q,hrun,I⟩
 simp only at hj hrun I
 by_cases hc:j<L.length
 ·obtain ⟨g1,g2,g3,e1⟩:=fW hc (by omega)
  have hat:=cw L j .any hc
  have hget:L.getD j default=L[j]:=by simp[List.getD,List.getElem?_eq_getElem hc]
  have hmem:L.getD j default∈L:=by rw[hget];exact List.getElem_mem hc
  have hpk:=hks _ hmem
  have hpv:=hvs _ hmem
  have hstep:=Dc hrun
  obtain ⟨F,n,toks,m⟩:=h1
  have hn:=I.hn
  have g0:=I.o0
  have g4:=I.o4
  simp only at hn g0 g4
  have n0:¬(0=n):=by omega
  have n4:¬(4=n):=by omega
  have bad:ju L (j+1)=none→fH L=false:=fun hb=>Da (by omega) hb
  have hprev:j≠0→(prs L).getD (j - 1) .any= .agg [.str (L.getD (j - 1) default).k,.str (L.getD (j - 1) default).v]:=fun h0=>cw L (j - 1) .any (by omega)
  generalize L.getD j default=p at*
  generalize L.getD (j - 1) default=p0 at*
  have I2:∀o o':Av.Obj,kR L ⟨upd (upd F n (some o)) n (some o'),n+1,toks,m⟩ bt q j:=fun o o'=>I.ext (fun a ha=>by
   have:a≠n:=by omega
   simp only[upd,if_neg this]) (Nat.le_succ _)
  refine Wp.au (by simp only[go_sem,reduceIte,Nat.reduceEqDiff,Nat.reduceAdd,bx,ax,if_true,if_false,Nat.reduceMul,Nat.reduceLeDiff,g1,lp];exact rfl) ?_
  refine ab.nil ?_
  refine Wp.seq ?_
  refine Wp.cond_true (by simp only[go_sem,reduceIte,Nat.reduceEqDiff,Nat.reduceAdd,bx,g1,lp]) ?_
  refine Wp.skip ?_
  refine Wp.seq (Wp.block ?_)
  refine Wp.au (by simp only[go_sem,reduceIte,Nat.reduceEqDiff,Nat.reduceAdd,bx,ax,if_true,if_false,Nat.reduceMul,Nat.reduceLeDiff,g2,g3,lp,hat,Int.toNat_natCast];exact rfl) ?_
  refine ab.nil ?_
  have key:∀(b:Bool),b=(decide (j=0)||Op.bytesLess p0.k p.k)→True:=fun _ _=>trivial
  by_cases h0:j=0
  ·have d0:decide ((j:Int)=0)=true:=decide_eq_true (by omega)
   have hcond:(decide (j=0)||Op.bytesLess p0.k p.k)=true:=by simp[h0]
   rw[if_pos hcond] at hstep
   refine Wp.aG (by simp only[go_sem,reduceIte,Nat.reduceEqDiff,Nat.reduceAdd,bx,ax,if_true,if_false,Nat.reduceMul,Nat.reduceLeDiff,d0];exact rfl) ?_
   refine ae.aP xA2 (by simp only[go_sem,reduceIte,Nat.reduceEqDiff,Nat.reduceAdd,bx,List.map];exact af.refl _) (fx) ?_
   refine ae.evR xA1 ?_
   refine ae.nil ⟨by simp[aJ,ar,apart,aC],?_⟩
   cases hS:jt (bt.map Prod.fst,q) p with
   |none=>
    rw[hS] at hstep
    obtain ⟨h2,bI,hnm,ho1⟩:=xR (by omega) (I2 (.cells [.str [],.str []]) (.cells [.str p.k,.str p.v])) hpk hpv hS
    refine Wp.pa (by simp only[go_sem,reduceIte,Nat.reduceEqDiff,Nat.reduceAdd,bx,ax,if_true,if_false,g4,n4];exact rfl) (by simp only[go_sem,reduceIte,Nat.reduceEqDiff,Nat.reduceAdd,bx,List.map];exact af.refl _) hnm bI ?_
    exact ny (bad hstep) ho1
   |some S=>
    rw[hS] at hstep
    obtain ⟨r,h2,bI,hnm,bt2,hfst,I3⟩:=C7 (by omega) (I2 (.cells [.str [],.str []]) (.cells [.str p.k,.str p.v])) hpk hpv hS
    refine Wp.bJ (by simp only[go_sem,reduceIte,Nat.reduceEqDiff,Nat.reduceAdd,bx,ax,if_true,if_false,Nat.reduceMul,Nat.reduceLeDiff,g4,n4];exact rfl) ?_
    refine ab.fc xA2 (by simp only[go_sem,reduceIte,Nat.reduceEqDiff,Nat.reduceAdd,bx,List.map];exact af.refl _) hnm (bI) ?_
    refine ab.nil ?_
    refine Wp.bJ (by simp only[go_sem,reduceIte,Nat.reduceEqDiff,Nat.reduceAdd,bx,ax,if_true,if_false,Nat.reduceMul,Nat.reduceLeDiff,e1];exact rfl) ?_
    refine ab.nil ?_
    refine ⟨(j+1,h2),⟨by simp only;omega,bt2,S.2,by simp only;rw[hstep,hfst],I3⟩,by simp only;omega,?_⟩
    refine aF.of (bk ?_) (OLe.cP _) (fun x hx=>hx) (Nat.le_refl _) (Nat.le_refl _)
    simp only[av,go_sem,reduceIte,Nat.reduceEqDiff,Nat.reduceAdd,bx,e1];and_intros<;>first|exact trivial|exact ag.refl _|exact ag.any _|(refine ag.int ?_;omega)
  ·have d0:decide ((j:Int)=0)=false:=decide_eq_false (by omega)
   have ej:IntKind.i64.wrap ((j:Int) - 1)=((j - 1:Nat):Int):=by rw[IntWalk.i64_in _ (by omega)];omega
   have p1:(0:Int)≤((j - 1:Nat):Int):=by omega
   have p2:((j - 1:Nat):Int)<(L.length:Int):=by omega
   have hat2:=hprev h0
   have hz:decide (j=0)=false:=decide_eq_false h0
   rw[hz,Bool.false_or] at hstep
   cases hb:Op.bytesLess p0.k p.k with
   |false=>
    rw[hb,if_neg (by simp)] at hstep
    refine Wp.cH (by simp only[go_sem,reduceIte,Nat.reduceEqDiff,Nat.reduceAdd,bx,ax,if_true,if_false,Nat.reduceMul,Nat.reduceLeDiff,d0,g0,n0,ej,p1,p2,lp,hat2,hb,Int.toNat_natCast];exact rfl) (by simp only[go_sem,reduceIte,Nat.reduceEqDiff,Nat.reduceAdd,bx,List.map];exact af.refl _) dy (⟨by simp[ar,apart,aC],rfl⟩) ?_
    exact ny (bad hstep) (I2 (.cells [.str [],.str []]) (.cells [.str p.k,.str p.v])).o1
   |true=>
    rw[hb,if_pos rfl] at hstep
    refine Wp.aG (by simp only[go_sem,reduceIte,Nat.reduceEqDiff,Nat.reduceAdd,bx,ax,if_true,if_false,Nat.reduceMul,Nat.reduceLeDiff,d0,g0,n0,ej,p1,p2,lp,hat2,hb,Int.toNat_natCast];exact rfl) ?_
    refine ae.aP xA2 (by simp only[go_sem,reduceIte,Nat.reduceEqDiff,Nat.reduceAdd,bx,List.map];exact af.refl _) (fx) ?_
    refine ae.evR xA1 ?_
    refine ae.nil ⟨by simp[aJ,ar,apart,aC],?_⟩
    cases hS:jt (bt.map Prod.fst,q) p with
    |none=>
     rw[hS] at hstep
     obtain ⟨h2,bI,hnm,ho1⟩:=xR (by omega) (I2 (.cells [.str [],.str []]) (.cells [.str p.k,.str p.v])) hpk hpv hS
     refine Wp.pa (by simp only[go_sem,reduceIte,Nat.reduceEqDiff,Nat.reduceAdd,bx,ax,if_true,if_false,g4,n4];exact rfl) (by simp only[go_sem,reduceIte,Nat.reduceEqDiff,Nat.reduceAdd,bx,List.map];exact af.refl _) hnm bI ?_
     exact ny (bad hstep) ho1
    |some S=>
     rw[hS] at hstep
     obtain ⟨r,h2,bI,hnm,bt2,hfst,I3⟩:=C7 (by omega) (I2 (.cells [.str [],.str []]) (.cells [.str p.k,.str p.v])) hpk hpv hS
     refine Wp.bJ (by simp only[go_sem,reduceIte,Nat.reduceEqDiff,Nat.reduceAdd,bx,ax,if_true,if_false,Nat.reduceMul,Nat.reduceLeDiff,g4,n4];exact rfl) ?_
     refine ab.fc xA2 (by simp only[go_sem,reduceIte,Nat.reduceEqDiff,Nat.reduceAdd,bx,List.map];exact af.refl _) hnm (bI) ?_
     refine ab.nil ?_
     refine Wp.bJ (by simp only[go_sem,reduceIte,Nat.reduceEqDiff,Nat.reduceAdd,bx,ax,if_true,if_false,Nat.reduceMul,Nat.reduceLeDiff,e1];exact rfl) ?_
     refine ab.nil ?_
     refine ⟨(j+1,h2),⟨by simp only;omega,bt2,S.2,by simp only;rw[hstep,hfst],I3⟩,by simp only;omega,?_⟩
     refine aF.of (bk ?_) (OLe.cP _) (fun x hx=>hx) (Nat.le_refl _) (Nat.le_refl _)
     simp only[av,go_sem,reduceIte,Nat.reduceEqDiff,Nat.reduceAdd,bx,e1];and_intros<;>first|exact trivial|exact ag.refl _|exact ag.any _|(refine ag.int ?_;omega)
 ·have hj2:j=L.length:=by omega
  subst hj2
  have ig:=ik L.length
  refine Wp.au (by simp only[go_sem,reduceIte,Nat.reduceEqDiff,Nat.reduceAdd,bx,ax,if_true,if_false,Nat.reduceMul,Nat.reduceLeDiff,ig,lp];exact rfl) ?_
  refine ab.nil ?_
  refine Wp.seq ?_
  refine Wp.cond_false (by simp only[go_sem,reduceIte,Nat.reduceEqDiff,Nat.reduceAdd,bx,ig]) ?_
  refine Wp.exit ?_
  show Wp Tryz.prog 54 R63 _ _
  refine Wp.le (aF.of (bk ?_) (OLe.cP _) (fun x hx=>hx) (Nat.le_refl _) (Nat.le_refl _)) (WR I hrun)
  exact xSb
def nA (L:List Pr):AV:=if fH L=true then .tup [bP (iW L),.int .i64 0] else Am
theorem fV {α:Type} (f:Nat→α) (i:Nat) (a b:α):upd (upd f i a) i b=upd f i b:=by
 funext j
 simp only[upd]
 split<;>rfl
def h63 (L:List Pr):H:=⟨upd (upd (upd (upd (upd ah 0 (some (.cells [.sl 2 (prs L) .any]))) 1 (some (.cells [.sl 3 [] (.exact 0)]))) 2 (some (.map []))) 3 (some (.cells [.sl 3 [] (.exact 0),.mp 2]))) 4 (some (.cells [.ptr 3 0])),5,[],0⟩
theorem IC (L:List Pr):kR L (h63 L) [] [] 0:=by
 unfold h63
 exact ⟨⟨5,by simp[upd,bV],fun h=>absurd rfl h⟩,by simp[upd,eY],by simp[upd],by simp[upd],by simp[upd],by simp,by simp,by simp,by simp,by simp,by simp,by simp⟩
theorem ID (L:List Pr) (hl:L.length≤4000) (hks:∀p∈L,p.k.length≤140737488355328) (hvs:∀p∈L,p.v.length≤140737488355328):
  ∃h',aN Tryz.prog 54 [.clo (.func 63) [] [.ptr 0 0,.ptr 4 0]] (h63 L) (.int .i64 (if fH L=true then 0 else 4)) h'∧((h63 L).n≤h'.n∧(h63 L).m≤h'.m)∧h'.objs 1=some (.cells [.sl 3 [] (.exact 0)])∧
   (fH L=true→h'.objs 3=some (.cells [.sl 3 (bks (iW L)) .any,.mp 2])∧h'.objs 4=some (.cells [.ptr 3 0])):=by
 have W:=GM L hl hks hvs (h63 L) (IC L)
 unfold QM at W
 cases ho:fH L with
 |true=>
  rw[ho] at W
  simp only[if_true] at W
  obtain ⟨r,h',a,b,c,d,e⟩:=aI.rW (Q:=fun _ h'=>h'.objs 3=some (.cells [.sl 3 (bks (iW L)) .any,.mp 2])∧h'.objs 1=some (.cells [.sl 3 [] (.exact 0)])∧h'.objs 4=some (.cells [.ptr 3 0])) f63 (by simp) (W.mono fun e s' hq=>⟨gD hq.1,_,rfl,hq.2⟩)
  exact ⟨h',Bu rfl rfl (by decide) a,b,d,fun _=>⟨c,e⟩⟩
 |false=>
  rw[ho] at W
  simp only[Bool.false_eq_true,if_false] at W
  obtain ⟨v,h',a,b,rfl,c⟩:=aI.tg (Q:=fun v h'=>v=v4∧h'.objs 1=some (.cells [.sl 3 [] (.exact 0)])) f63 (by simp) (W.mono fun e s' hq=>⟨_,hq.1,rfl,hq.2⟩)
  exact ⟨h',xg rfl rfl (by decide) a,b,c,fun h=>by cases h⟩
theorem xS (L:List Pr) (hl:L.length≤4000) (hks:∀p∈L,p.k.length≤140737488355328) (hvs:∀p∈L,p.v.length≤140737488355328):
  aE Tryz.prog 20 [.sl 2 (prs L) .any] (nA L):=by
 have hpure:aO (nA L)=true:=by
  unfold nA
  split
  ·simp[aO,az,bC,bP,Av.bA (fun b=>jm b),bks]
  ·rfl
 refine f20.wY (by simp) (by simp[az,aO,bC,iJ]) hpure ?_
 unfold c20
 simp only[C.zz]
 obtain ⟨h',bI,hnm,f1,fok⟩:=ID L hl hks hvs
 refine Wp.au (by simp only[go_sem,reduceIte,Nat.reduceEqDiff,Nat.reduceAdd,bx,ax,if_true,if_false,Nat.reduceMul,Nat.reduceLeDiff];exact rfl) ?_
 refine ab.nil ?_
 refine Wp.au (by simp only[go_sem,reduceIte,Nat.reduceEqDiff,Nat.reduceAdd,bx,ax,if_true,if_false,Nat.reduceMul,Nat.reduceLeDiff];exact rfl) ?_
 refine ab.nil ?_
 refine Wp.le (s':=⟨tm [(1,.ptr 0 0),(2,.ptr 1 0),(4,.ptr 4 0)],h63 L⟩) (aF.of (bk ?_) (by rw[fV];exact OLe.cP _) (fun x hx=>hx) (Nat.le_refl _) (Nat.le_refl _)) ?_
 ·exact xSb
 refine Wp.au (by simp only[go_sem,reduceIte,Nat.reduceEqDiff,Nat.reduceAdd,bx,ax,if_true,if_false,Nat.reduceMul,Nat.reduceLeDiff];exact rfl) ?_
 refine ab.fc xA2 (by simp only[go_sem,reduceIte,Nat.reduceEqDiff,Nat.reduceAdd,bx,List.map];exact af.refl _) hnm (bI) ?_
 cases ho:fH L with
 |false=>
  have hI:nA L=Am:=by unfold nA;rw[if_neg (by rw[ho];simp)]
  rw[hI]
  simp only[Bool.false_eq_true,if_false]
  refine ab.evF (by simp only[go_sem,reduceIte,Nat.reduceEqDiff,Nat.reduceAdd,bx,ax,if_true,if_false,Nat.reduceMul,Nat.reduceLeDiff];exact rfl) ?_
  refine ab.nil ?_
  refine rf0 f1 ?_
  refine Wp.ret ⟨trivial,_,rfl,.inl ?_⟩
  exact ag.tup (af.cons (ag.agg (af.cons ag.cap af.nil)) (af.cons (ag.refl _) af.nil))
 |true=>
  have hI:nA L= .tup [bP (iW L),.int .i64 0]:=by unfold nA;rw[if_pos ho]
  obtain ⟨f3,f4⟩:=fok ho
  rw[hI]
  simp only[if_true]
  refine ab.evF (by simp only[go_sem,reduceIte,Nat.reduceEqDiff,Nat.reduceAdd,bx,ax,if_true,if_false,Nat.reduceMul,Nat.reduceLeDiff];exact rfl) ?_
  refine ab.nil ?_
  refine rf0 (cj3 f1 f3 f4) ?_
  refine Wp.ret ⟨trivial,_,rfl,.inl ?_⟩
  exact ag.refl _
def cS (B:List UInt8) (a:Nat):Av.Obj:= .cells [.sl 1 (al B) .any,.int .i64 (a:Nat)]
theorem Ao (B:List UInt8) (a k:Nat):((al B).take (a+k)).drop a=al ((B.drop a).take k):=by
 unfold al
 rw[←List.map_take,←List.map_drop,List.drop_take,show a+k - a=k by omega]
theorem Dd (id:Nat) (o o':Av.Obj) (n m:Nat):(⟨upd (upd ah id (some o)) id (some o'),n,[],m⟩:H)= .only (upd ah id (some o')) [] n m:=by
 rw[fV];rfl
set_option maxHeartbeats 1000000 in
theorem nB (B:List UInt8) (hB:B.length≤10000000) (a k:Nat) (h:a+k≤B.length):mT Tryz.prog 57 [.ptr 3 0,.int .i64 (k:Nat)] 3 (cS B a) (.str ((B.drop a).take k)) (cS B (a+k)):=by
 intro n m
 refine ⟨m,Nat.le_refl _,aI.mq f57 (by simp) ?_⟩
 unfold c57 cS
 have lb:=aS B
 have g1:IntKind.i64.wrap (((B.length:Nat):Int) - (a:Int))=((B.length - a:Nat):Int):=by rw[IntWalk.i64_in _ (by omega)];omega
 have g2:decide ((k:Int)≤((B.length - a:Nat):Int))=true:=decide_eq_true (by omega)
 have e1:IntKind.i64.wrap ((a:Int)+(k:Int))=((a+k:Nat):Int):=by rw[IntWalk.i64_in _ (by omega)];omega
 have e2:IntKind.i64.wrap (((a+k:Nat):Int) - (k:Int))=(a:Int):=by rw[IntWalk.i64_in _ (by omega)];omega
 have p1:(0:Int)≤(a:Int):=by omega
 have p2:(a:Int)≤((a+k:Nat):Int):=by omega
 have p3:(0:Int)≤((a+k:Nat):Int):=by omega
 have p4:((a+k:Nat):Int)≤(B.length:Int):=by omega
 have cb:=Ao B a k
 have ub:=bW ((B.drop a).take k)
 refine Wp.au (by simp only[go_sem,reduceIte,Nat.reduceEqDiff,Nat.reduceAdd,bx,ax,if_true,if_false,Nat.reduceMul,Nat.reduceLeDiff];exact rfl) ?_
 refine ab.nil ?_
 refine Wp.aG (by simp only[go_sem,reduceIte,Nat.reduceEqDiff,Nat.reduceAdd,bx,ax,if_true,if_false,Nat.reduceMul,Nat.reduceLeDiff,lb,g1,g2];exact rfl) ?_
 refine ae.aP xA2 (by simp only[go_sem,reduceIte,Nat.reduceEqDiff,Nat.reduceAdd,bx,List.map];exact af.refl _) (fx) ?_
 refine ae.evR xA1 ?_
 refine ae.nil ⟨by simp[aJ,ar,apart,aC],?_⟩
 refine Wp.au (by simp only[go_sem,reduceIte,Nat.reduceEqDiff,Nat.reduceAdd,bx,ax,if_true,if_false,Nat.reduceMul,Nat.reduceLeDiff,e1];exact rfl) ?_
 refine ab.nil ?_
 refine Wp.aG (by simp only[go_sem,reduceIte,Nat.reduceEqDiff,Nat.reduceAdd,bx,ax,if_true,if_false,Nat.reduceMul,Nat.reduceLeDiff,lb,e1,e2,p1,p2,p3,p4,cb,ub,Int.toNat_natCast,Option.map_some,true_or];exact rfl) ?_
 refine ae.nil ⟨by simp[aJ,ar,apart,aC],?_⟩
 refine Wp.ret ⟨trivial,_,rfl,ag.refl _,?_⟩
 exact Dd 3 _ _ n m
theorem nC (B:List UInt8) (hB:B.length≤10000000) (a k:Nat) (ha:a≤B.length) (hk:k≤1000000000000) (h:¬a+k≤B.length):DX Tryz.prog 57 [.ptr 3 0,.int .i64 (k:Nat)] 3 (cS B a) v4:=by
 intro n m
 obtain ⟨v,h',hc,rfl,rfl⟩:=aI.DJ (Q:=fun v h'=>v=v4∧h'= .only (upd ah 3 (some (cS B a))) [] n m) (args:=[.ptr 3 0,.int .i64 (k:Nat)]) (h:= .only (upd ah 3 (some (cS B a))) [] n m) f57 (by simp) (by
  unfold c57 cS
  have lb:=aS B
  have g1:IntKind.i64.wrap (((B.length:Nat):Int) - (a:Int))=((B.length - a:Nat):Int):=by rw[IntWalk.i64_in _ (by omega)];omega
  have g2:decide ((k:Int)≤((B.length - a:Nat):Int))=false:=decide_eq_false (by omega)
  refine Wp.au (by simp only[go_sem,reduceIte,Nat.reduceEqDiff,Nat.reduceAdd,bx,ax,if_true,if_false,Nat.reduceMul,Nat.reduceLeDiff];exact rfl) ?_
  refine ab.nil ?_
  refine Wp.cH (by simp only[go_sem,reduceIte,Nat.reduceEqDiff,Nat.reduceAdd,bx,ax,if_true,if_false,Nat.reduceMul,Nat.reduceLeDiff,lb,g1,g2];exact rfl) (by simp only[go_sem,reduceIte,Nat.reduceEqDiff,Nat.reduceAdd,bx,List.map];exact af.refl _) dy (⟨by simp[ar,apart,aC],rfl⟩) ?_
  exact ⟨_,rfl,rfl,rfl⟩)
 exact hc
set_option maxHeartbeats 1000000 in
theorem uv (B:List UInt8) (hB:B.length≤10000000) (a w:Nat) (hw:w≤8) (h:a+w≤B.length):mT Tryz.prog 59 [.ptr 3 0,.int .i64 (w:Nat)] 3 (cS B a) (.int .i64 (i64 ((B.drop a).take w))) (cS B (a+w)):=by
 intro n m
 obtain ⟨m1,hm1,ct⟩:=nB B hB a w h n m
 refine ⟨m1+1,by omega,aI.mq f59 (by simp) ?_⟩
 have hl:((B.drop a).take w).length=w:=by rw[List.length_take,List.length_drop];omega
 unfold c59
 simp only[C.zz]
 unfold i64
 generalize (B.drop a).take w=s at*
 have ls:=aS s
 refine Wp.au (by simp only[go_sem,reduceIte,Nat.reduceEqDiff,Nat.reduceAdd,bx,ax,if_true,if_false,Nat.reduceMul,Nat.reduceLeDiff];exact rfl) ?_
 refine ab.nil ?_
 refine Wp.au (by simp only[go_sem,reduceIte,Nat.reduceEqDiff,Nat.reduceAdd,bx,ax,if_true,if_false,Nat.reduceMul,Nat.reduceLeDiff];exact rfl) ?_
 refine ab.nil ?_
 refine Wp.seq ?_
 refine Wp.au (by simp only[go_sem,reduceIte,Nat.reduceEqDiff,Nat.reduceAdd,bx,ax,if_true,if_false,Nat.reduceMul,Nat.reduceLeDiff];exact rfl) ?_
 refine ab.fc (h':= .only (upd ah 3 (some (cS B (a+w)))) [] n m1) xA2 (by simp only[go_sem,reduceIte,Nat.reduceEqDiff,Nat.reduceAdd,bx,List.map];exact af.refl _) ⟨Nat.le_refl _,hm1⟩ ct ?_
 refine ab.evF (by simp only[go_sem,reduceIte,Nat.reduceEqDiff,Nat.reduceAdd,bx,ax,if_true,if_false,Nat.reduceMul,Nat.reduceLeDiff,ls,hl];exact rfl) ?_
 refine ab.nil ?_
 refine Wp.le (s':=⟨tm [(11,.sl 1 (al s) .any),(12,.int .i64 w),(5,.int .u64 0),(13,.int .i64 0)],.only (upd ah 3 (some (cS B (a+w)))) [] n (m1+1)⟩) (aF.of (bk ?_) (OLe.cP _) (fun x hx=>by cases hx) (Nat.le_refl _) (Nat.le_refl _)) ?_
 ·simp only[av,go_sem,reduceIte,Nat.reduceEqDiff,Nat.reduceAdd,bx]
  and_intros<;>first|exact trivial|exact ag.refl _|exact ag.cap
 have hv:∀j,j≤w→val (s.take j)<256^j:=fun j hj=>by
  have:=fL (s.take j)
  rwa [List.length_take,hl,Nat.min_eq_left hj] at this
 refine Wp.block ?_
 refine Wp.eN [11,12] xA7 (fun j:Nat=>[(5,.int .u64 (val (s.take j))),(13,.int .i64 j)]) (fun j=> .only (upd ah 3 (some (cS B (a+w)))) [] n (m1+1)) (fun j=>j≤w) (fun j=>w - j) 0 (Nat.zero_le _) rfl ?_ ?_
 ·simp only[av,go_sem,reduceIte,Nat.reduceEqDiff,Nat.reduceAdd,bx,List.take_zero];and_intros<;>first|exact trivial|exact ag.refl _|exact ag.any _|(refine ag.int ?_;omega)
 rintro j hj
 by_cases hlt:j<w
 ·have d1:decide ((j:Int)<(w:Int))=true:=decide_eq_true (by omega)
  have h1:(0:Int)≤(j:Int):=by omega
  have h2:(j:Int)<(w:Int):=by omega
  have h2':(j:Int)<(s.length:Int):=by omega
  have h3:j<s.length:=by omega
  have hvj:=hv j hj
  have hpw:(256:Nat)^j≤256^7:=Nat.pow_le_pow_right (by omega) (by omega)
  have e7:(256:Nat)^7=72057594037927936:=by decide
  rw[e7] at hpw
  have hc:=(s.getD j 0).toNat_lt
  have hat:=gr s j .any h3
  unfold byte at hat
  have hs:=pH s j h3
  have o1:=pK (val (s.take j)) _ (by omega) hc
  generalize val (s.take j)=v at*
  have e1:IntKind.u64.wrap ((v:Int)*2^(min (Int.toNat 8) 64))=((v*256:Nat):Int):=by
   rw[show min (Int.toNat 8) 64=8 from rfl,IntWalk.u64_in _ (by omega)];omega
  have e2:¬(8:Int)<0:=by omega
  generalize (s.getD j 0).toNat=c at*
  have e3:IntKind.u64.wrap (c:Int)=(c:Int):=IntWalk.u64_in _ (by omega)
  have e5:IntKind.i64.wrap ((j:Int)+1)=((j+1:Nat):Int):=by rw[IntWalk.i64_in _ (by omega)];omega
  repeat (first
   |refine ab.nil ?_
   |((first|apply Wp.au|apply Wp.bJ);(· simp only[go_sem,reduceIte,Nat.reduceEqDiff,Nat.reduceAdd,bx,ax,if_true,if_false,Nat.reduceMul,Nat.reduceLeDiff,d1,h1,h2,h2',ls,hl,hat,IntKind.bits,e1,e2,e3,o1,Int.toNat_natCast,and_self];exact rfl))
   |(apply Wp.aK;(· simp only[go_sem,reduceIte,Nat.reduceEqDiff,Nat.reduceAdd,bx,ax,if_true,if_false,Nat.reduceMul,Nat.reduceLeDiff,d1,h1,h2,h2',ls,hl,hat,IntKind.bits,e1,e2,e3,o1,Int.toNat_natCast,and_self];exact rfl);(· rfl))
   |refine Wp.skip ?_
   |refine Wp.label ?_
   |refine Wp.block ?_
   |refine Wp.exit ?_
   |refine Wp.seq ?_)
  refine ⟨j+1,by omega,by omega,?_⟩
  rw[hs]
  refine aF.of (bk ?_) (OLe.cP _) (fun a ha=>ha) (Nat.le_refl _) (Nat.le_refl _)
  simp only[av,go_sem,reduceIte,Nat.reduceEqDiff,Nat.reduceAdd,bx,e5];and_intros<;>first|exact trivial|exact ag.refl _|exact ag.any _|(refine ag.int ?_;omega)
 ·obtain rfl:j=w:=by omega
  have d1:decide ((j:Int)<(j:Int))=false:=decide_eq_false (by omega)
  have hPt:s.take j=s:=List.take_of_length_le (by omega)
  rw[hPt]
  refine rf0 d1 ?_
  refine Wp.ret ⟨trivial,_,rfl,?_,rfl⟩
  exact ag.refl _
theorem fI (B:List UInt8) (hB:B.length≤10000000) (a w:Nat) (ha:a≤B.length) (hw:w≤8) (h:¬a+w≤B.length):DX Tryz.prog 59 [.ptr 3 0,.int .i64 (w:Nat)] 3 (cS B a) v4:=by
 intro n m
 obtain ⟨v,h',hc,rfl,rfl⟩:=aI.DJ (Q:=fun v h'=>v=v4∧h'= .only (upd ah 3 (some (cS B a))) [] n m) (args:=[.ptr 3 0,.int .i64 (w:Nat)]) (h:= .only (upd ah 3 (some (cS B a))) [] n m) f59 (by simp) (by
  unfold c59
  simp only[C.zz]
  refine Wp.au (by simp only[go_sem,reduceIte,Nat.reduceEqDiff,Nat.reduceAdd,bx,ax,if_true,if_false,Nat.reduceMul,Nat.reduceLeDiff];exact rfl) ?_
  refine ab.nil ?_
  refine Wp.au (by simp only[go_sem,reduceIte,Nat.reduceEqDiff,Nat.reduceAdd,bx,ax,if_true,if_false,Nat.reduceMul,Nat.reduceLeDiff];exact rfl) ?_
  refine ab.nil ?_
  refine Wp.seq ?_
  refine Wp.tf (by simp only[go_sem,reduceIte,Nat.reduceEqDiff,Nat.reduceAdd,bx,ax,if_true,if_false];exact rfl) (by simp only[go_sem,reduceIte,Nat.reduceEqDiff,Nat.reduceAdd,bx,List.map];exact af.refl _) ⟨Nat.le_refl _,Nat.le_refl _⟩ (nC B hB a w ha (by omega) h n m) ?_
  exact ⟨_,rfl,rfl,rfl⟩)
 exact hc
def tx (B:List UInt8) (a k:Nat):Option (List UInt8 × Nat):=if a+k≤B.length then some ((B.drop a).take k,a+k) else none
def nu (B:List UInt8) (a w:Nat):Option (Int × Nat):=if a+w≤B.length then some (i64 ((B.drop a).take w),a+w) else none
def nn (B:List UInt8) (a w:Nat):Option (Nat × Nat):=if a+w≤B.length then some (val ((B.drop a).take w),a+w) else none
def gF (B:List UInt8) (a:Nat):Option (Vs × Nat):=
 (nn B a 1).bind fun x1=>(tx B x1.2 x1.1).bind fun x2=>(nu B x2.2 8).bind fun x3=>(tx B x3.2 11).bind fun x4=>if hdB x4.1=true then (nn B x4.2 2).bind fun x5=>(tx B x5.2 x5.1).bind fun x6=>some (⟨x2.1,x3.1,(hdO x4.1).sz,(hdO x4.1).re,(hdO x4.1).im,(hdO x4.1).g,(hdO x4.1).u,x6.1⟩,x6.2) else none
def vr (B:List UInt8) (a0:Nat):Nat→Option (List Vs × Nat)
 |0=>some ([],a0)
 |j+1=>(vr B a0 j).bind fun x=>(gF B x.2).map fun y=>(x.1++[y.1],y.2)
theorem xU {B:List UInt8} {a0 j:Nat} (h:vr B a0 j=none):∀k,vr B a0 (j+k)=none
 |0=>h
 |k+1=>by
  have:=xU h k
  rw[show j+(k+1)=(j+k)+1 by omega]
  simp only[vr]
  rw[this];rfl
def iu (B:List UInt8) (a:Nat):Option (Bk × Nat):=
 (nn B a 1).bind fun x1=>(tx B x1.2 x1.1).bind fun x2=>(nn B x2.2 1).bind fun x3=>(nn B x3.2 4).bind fun x4=>(vr B x4.2 x4.1).bind fun x5=>some (⟨x2.1,(x3.1:Nat),x5.1⟩,x5.2)
def br (B:List UInt8) (a0:Nat):Nat→Option (List Bk × Nat)
 |0=>some ([],a0)
 |j+1=>(br B a0 j).bind fun x=>(iu B x.2).map fun y=>(x.1++[y.1],y.2)
theorem xV {B:List UInt8} {a0 j:Nat} (h:br B a0 j=none):∀k,br B a0 (j+k)=none
 |0=>h
 |k+1=>by
  have:=xV h k
  rw[show j+(k+1)=(j+k)+1 by omega]
  simp only[br]
  rw[this];rfl
def dr (B:List UInt8):Option (List Bk):=
 (tx B 0 4).bind fun x0=>if x0.1=[65,82,67,72] then (nn B x0.2 2).bind fun x1=>(br B x1.2 x1.1).bind fun x2=>(nn B x2.2 4).bind fun x3=>if x3.1=mr (B.take x2.2)∧x3.2=B.length then (if imE x2.1=0 then some x2.1 else none) else none else none
theorem pY {B s Y:List UInt8} {a:Nat} (h:B.drop a=s++Y) (ha:a≤B.length):tx B a s.length=some (s,a+s.length)∧B.drop (a+s.length)=Y∧a+s.length≤B.length:=by
 have hl:=congrArg List.length h
 rw[List.length_drop,List.length_append] at hl
 have hle:a+s.length≤B.length:=by omega
 refine ⟨?_,?_,hle⟩
 ·unfold tx
  rw[if_pos hle,h,List.take_left]
 ·rw[←List.drop_drop,h,List.drop_left]
theorem pZ {B Y:List UInt8} {a w v:Nat} (h:B.drop a=be w v++Y) (ha:a≤B.length) (hv:v<256^w):nn B a w=some (v,a+w)∧B.drop (a+w)=Y∧a+w≤B.length:=by
 obtain ⟨h1,h2,h3⟩:=pY h ha
 rw[aH] at h2 h3
 refine ⟨?_,h2,h3⟩
 unfold nn
 rw[if_pos h3,h,List.take_left' (aH _ _),fU,Nat.mod_eq_of_lt hv]
theorem IE {B Y:List UInt8} {a:Nat} {v:Int} (h:B.drop a=be 8 v.toNat++Y) (ha:a≤B.length) (h0:0≤v) (hv:v<9223372036854775808):nu B a 8=some (v,a+8)∧B.drop (a+8)=Y∧a+8≤B.length:=by
 obtain ⟨h1,h2,h3⟩:=pY h ha
 rw[aH] at h2 h3
 refine ⟨?_,h2,h3⟩
 have e8:(256:Nat)^8=18446744073709551616:=by decide
 unfold nu
 rw[if_pos h3,h,List.take_left' (aH _ _)]
 unfold i64
 rw[fU,Nat.mod_eq_of_lt (by rw[e8];omega),IntWalk.i64_in _ (by omega)]
 have:((v.toNat:Nat):Int)=v:=by omega
 rw[this]
theorem GN {B Y:List UInt8} {a:Nat} {v:Vs} (h:B.drop a=ff v++Y) (ha:a≤B.length) (hv:v.okV=true):gF B a=some (v,a+(ff v).length)∧B.drop (a+(ff v).length)=Y∧a+(ff v).length≤B.length:=by
 obtain ⟨-,l1,l2⟩:=oy hv
 obtain ⟨-,i1,i2⟩:=v7 hv
 have e1:(256:Nat)^1=256:=by decide
 have e2:(256:Nat)^2=65536:=by decide
 have hH:dU v.sz.toNat v.re.toNat v.im.toNat v.g v.u=gT v:=by
  unfold gT cI
  rw[if_pos (CV hv)]
 have hHl:(gT v).length=11:=by rw[←hH];exact dc _ _ _ _ _
 obtain ⟨b1,b2⟩:=lL hv
 have hlen:(ff v).length=1+v.o.length+8+11+2+v.b.length:=by
  unfold ff shB
  simp only[List.length_append,aH,dc]
 unfold ff shB at h
 rw[hH] at h
 simp only[List.append_assoc] at h
 obtain ⟨p1,q1,r1⟩:=pZ h ha (by rw[e1];omega)
 obtain ⟨p2,q2,r2⟩:=pY q1 r1
 obtain ⟨p3,q3,r3⟩:=IE q2 r2 i1 (by omega)
 obtain ⟨p4,q4,r4⟩:=pY q3 r3
 rw[hHl] at p4 q4 r4
 obtain ⟨p5,q5,r5⟩:=pZ q4 r4 (by rw[e2];omega)
 obtain ⟨p6,q6,r6⟩:=pY q5 r5
 have hpos:a+1+v.o.length+8+11+2+v.b.length=a+(ff v).length:=by omega
 rw[hpos] at p6 q6 r6
 refine ⟨?_,q6,r6⟩
 unfold gF
 rw[p1]
 simp only[Option.bind_some]
 rw[p2]
 simp only[Option.bind_some]
 rw[p3]
 simp only[Option.bind_some]
 rw[p4]
 simp only[Option.bind_some]
 rw[if_pos b1,p5]
 simp only[Option.bind_some]
 rw[p6]
 simp only[Option.bind_some]
 rw[b2]
theorem kj (l:List Vs) (v:Vs):bS (l++[v])=bS l++ff v:=by simp[bS]
theorem IF {B:List UInt8} {a:Nat} (ha:a≤B.length) (l:List Vs):∀{Y:List UInt8},B.drop a=bS l++Y→(∀v∈l,v.okV=true)→vr B a l.length=some (l,a+(bS l).length)∧B.drop (a+(bS l).length)=Y∧a+(bS l).length≤B.length:=by
 induction l using oA with
 |h0=>intro Y h _;exact ⟨rfl,by simpa [bS] using h,by simpa [bS] using ha⟩
 |h1 l v ih=>
  intro Y h hv
  rw[kj,List.append_assoc] at h
  obtain ⟨p1,q1,r1⟩:=ih h fun u hu=>hv u (by simp[hu])
  obtain ⟨p2,q2,r2⟩:=GN q1 r1 (hv v (by simp))
  have e:a+(bS (l++[v])).length=a+(bS l).length+(ff v).length:=by rw[kj,List.length_append];omega
  rw[e]
  refine ⟨?_,q2,r2⟩
  rw[List.length_append,List.length_cons,List.length_nil,Nat.zero_add]
  simp only[vr]
  rw[p1]
  simp only[Option.bind_some]
  rw[p2];rfl
theorem Fa {B Y:List UInt8} {a:Nat} {b:Bk} (h:B.drop a=aY b++Y) (ha:a≤B.length) (hb:gw b=true) (hl:b.l.length≤1000000):iu B a=some (b,a+(aY b).length)∧B.drop (a+(aY b).length)=Y∧a+(aY b).length≤B.length:=by
 have hn:cr b.n=0:=by
  unfold gw at hb
  simp only[Bool.and_eq_true,decide_eq_true_eq] at hb
  exact hb.1.1
 have hn2:=(eX hn).2.1
 have hs:=FE hb
 have hs2:0≤b.st∧b.st≤2:=by simpa [nV] using hs
 have e1:(256:Nat)^1=256:=by decide
 have e4:(256:Nat)^4=4294967296:=by decide
 have hlen:(aY b).length=1+b.n.length+1+4+(bS b.l).length:=by
  unfold aY shB
  simp only[List.length_append,aH]
 unfold aY shB at h
 simp only[List.append_assoc] at h
 obtain ⟨p1,q1,r1⟩:=pZ h ha (by rw[e1];omega)
 obtain ⟨p2,q2,r2⟩:=pY q1 r1
 obtain ⟨p3,q3,r3⟩:=pZ q2 r2 (by rw[e1];omega)
 obtain ⟨p4,q4,r4⟩:=pZ q3 r3 (by rw[e4];omega)
 obtain ⟨p5,q5,r5⟩:=IF r4 b.l q4 fun v hv=>rp hb hv
 have hpos:a+1+b.n.length+1+4+(bS b.l).length=a+(aY b).length:=by omega
 rw[hpos] at p5 q5 r5
 refine ⟨?_,q5,r5⟩
 unfold iu
 rw[p1]
 simp only[Option.bind_some]
 rw[p2]
 simp only[Option.bind_some]
 rw[p3]
 simp only[Option.bind_some]
 rw[p4]
 simp only[Option.bind_some]
 rw[p5]
 simp only[Option.bind_some]
 have:((b.st.toNat:Nat):Int)=b.st:=by omega
 rw[this]
theorem IG {B:List UInt8} {a:Nat} (ha:a≤B.length) (m:List Bk):∀{Y:List UInt8},B.drop a=(m.map aY).flatten++Y→(∀b∈m,gw b=true∧b.l.length≤1000000)→br B a m.length=some (m,a+((m.map aY).flatten).length)∧B.drop (a+((m.map aY).flatten).length)=Y∧a+((m.map aY).flatten).length≤B.length:=by
 induction m using oA with
 |h0=>intro Y h _;exact ⟨rfl,by simpa using h,by simpa using ha⟩
 |h1 m b ih=>
  intro Y h hv
  have hs:((m++[b]).map aY).flatten=(m.map aY).flatten++aY b:=by simp
  rw[hs,List.append_assoc] at h
  obtain ⟨p1,q1,r1⟩:=ih h fun u hu=>hv u (by simp[hu])
  obtain ⟨p2,q2,r2⟩:=Fa q1 r1 (hv b (by simp)).1 (hv b (by simp)).2
  have e:a+(((m++[b]).map aY).flatten).length=a+((m.map aY).flatten).length+(aY b).length:=by rw[hs,List.length_append];omega
  rw[e]
  refine ⟨?_,q2,r2⟩
  rw[List.length_append,List.length_cons,List.length_nil,Nat.zero_add]
  simp only[br]
  rw[p1]
  simp only[Option.bind_some]
  rw[p2];rfl
theorem wH {m:List Bk} (h:imB m=true) (hf:Few m):dr (dV m)=some m:=by
 have hO:dV m=fu m++be 4 (mr (fu m)):=by unfold dV;rw[if_pos h]
 have hl:m.length≤65535:=by
  unfold imB at h
  simp only[Bool.and_eq_true,decide_eq_true_eq] at h
  exact h.1
 have e2:(256:Nat)^2=65536:=by decide
 have e4:(256:Nat)^4=4294967296:=by decide
 have h0:(dV m).drop 0=[65,82,67,72]++(be 2 m.length++((m.map aY).flatten++be 4 (mr (fu m)))):=by
  rw[List.drop_zero,hO]
  generalize be 4 (mr (fu m))=T
  unfold fu
  simp only[List.append_assoc]
 have hib:(fu m).length=4+2+((m.map aY).flatten).length:=by
  unfold fu
  simp only[List.length_append,aH,List.length_cons,List.length_nil]
 obtain ⟨p0,q0,r0⟩:=pY h0 (Nat.zero_le _)
 simp only[List.length_cons,List.length_nil,Nat.zero_add,Nat.reduceAdd] at p0 q0 r0
 obtain ⟨p1,q1,r1⟩:=pZ q0 r0 (by rw[e2];omega)
 obtain ⟨p2,q2,r2⟩:=IG r1 m q1 fun b hb=>⟨jz h hb,hf b hb⟩
 have q2':(dV m).drop (4+2+((m.map aY).flatten).length)=be 4 (mr (fu m))++[]:=by rw[q2,List.append_nil]
 obtain ⟨p3,q3,r3⟩:=pZ q2' r2 (by rw[e4];exact xf _)
 have hlen:(dV m).length=4+2+((m.map aY).flatten).length+4:=by rw[hO,List.length_append,aH,hib]
 have ht:(dV m).take (4+2+((m.map aY).flatten).length)=fu m:=by rw[hO,←hib,List.take_left]
 unfold dr
 rw[p0]
 simp only[Option.bind_some]
 rw[if_pos trivial,p1]
 simp only[Option.bind_some]
 rw[p2]
 simp only[Option.bind_some]
 rw[p3]
 simp only[Option.bind_some]
 have hE:imE m=0:=by unfold imE;rw[if_pos h]
 rw[ht,if_pos ⟨rfl,hlen.symm⟩,if_pos hE]
theorem xW:∀(n v k:Nat),be n (k*256^n+v)=be n v
 |0,v,k=>rfl
 |n+1,v,k=>by
  have e:k*256^(n+1)=(k*256)*256^n:=by rw[Nat.pow_succ,Nat.mul_comm (256^n) 256,Nat.mul_assoc]
  rw[be,be,e,xW n v (k*256)]
  congr 1
  have hp:0<256^n:=Nat.pow_pos (by omega)
  rw[Nat.add_comm,Nat.add_mul_div_right _ _ hp]
  apply UInt8.toNat_inj.1
  simp only[UInt8.toNat_ofNat']
  omega
theorem sA:∀(l:List UInt8),be l.length (Batch.val l)=l
 |[]=>rfl
 |c::l=>by
  rw[List.length_cons,be,Arch.iO,xW,sA l]
  congr 1
  have hp:0<256^l.length:=Nat.pow_pos (by omega)
  rw[Nat.add_comm,Nat.add_mul_div_right _ _ hp,Nat.div_eq_of_lt (fL l),Nat.zero_add]
  exact UInt8.ofNat_toNat
theorem jv {B:List UInt8} {a k:Nat} {x:List UInt8 × Nat} (h:tx B a k=some x):B.drop a=x.1++B.drop x.2∧x.1.length=k∧x.2=a+k∧a+k≤B.length:=by
 unfold tx at h
 split at h
 ·rename_i hc
  cases h
  refine ⟨?_,?_,rfl,hc⟩
  ·simp only
   rw[←List.drop_drop,List.take_append_drop]
  ·simp only[List.length_take,List.length_drop];omega
 ·cases h
theorem gG {B:List UInt8} {a w:Nat} {x:Nat × Nat} (h:nn B a w=some x):B.drop a=be w x.1++B.drop x.2∧x.2=a+w∧a+w≤B.length:=by
 unfold nn at h
 split at h
 ·rename_i hc
  cases h
  refine ⟨?_,rfl,hc⟩
  simp only
  have hl:((B.drop a).take w).length=w:=by rw[List.length_take,List.length_drop];omega
  have:=sA ((B.drop a).take w)
  rw[hl] at this
  rw[this,←List.drop_drop,List.take_append_drop]
 ·cases h
theorem GO {B:List UInt8} {a:Nat} {x:Int × Nat} (h:nu B a 8=some x) (h0:0≤x.1):B.drop a=be 8 x.1.toNat++B.drop x.2∧x.2=a+8∧a+8≤B.length:=by
 unfold nu at h
 split at h
 ·rename_i hc
  cases h
  refine ⟨?_,rfl,hc⟩
  simp only at h0 ⊢
  have hl:((B.drop a).take 8).length=8:=by rw[List.length_take,List.length_drop];omega
  have e8:(256:Nat)^8=18446744073709551616:=by decide
  have h1:=Batch.fL ((B.drop a).take 8)
  rw[hl,e8] at h1
  have h2:=sA ((B.drop a).take 8)
  rw[hl] at h2
  have h3:(i64 ((B.drop a).take 8)).toNat=Batch.val ((B.drop a).take 8):=by
   unfold i64 at h0 ⊢
   by_cases hs:Batch.val ((B.drop a).take 8)<9223372036854775808
   ·rw[IntWalk.i64_in _ (by omega)];omega
   ·exfalso
    have e:IntKind.i64.wrap ((Batch.val ((B.drop a).take 8):Nat):Int)=((Batch.val ((B.drop a).take 8):Nat):Int) - 18446744073709551616:=by
     have hm:(9223372036854775808:Int)≤((Batch.val ((B.drop a).take 8):Nat):Int)∧((Batch.val ((B.drop a).take 8):Nat):Int)<18446744073709551616:=by omega
     generalize ((Batch.val ((B.drop a).take 8):Nat):Int)=z at hm
     have hz:z%18446744073709551616=z:=Int.emod_eq_of_lt (by omega) (by omega)
     change (if (true&&decide (z%18446744073709551616≥9223372036854775808))=true then z%18446744073709551616 - 18446744073709551616 else z%18446744073709551616)=_
     rw[hz,if_pos (by simp;omega)]
    rw[e] at h0;omega
  rw[h3,h2,←List.drop_drop,List.take_append_drop]
 ·cases h
theorem Fb {B:List UInt8} {a:Nat} {x:Vs × Nat} (h:gF B a=some x) (h0:0≤x.1.id):B.drop a=ff x.1++B.drop x.2∧x.2≤B.length:=by
 unfold gF at h
 obtain ⟨x1,p1,h⟩:=Option.bind_eq_some_iff.1 h
 obtain ⟨x2,p2,h⟩:=Option.bind_eq_some_iff.1 h
 obtain ⟨x3,p3,h⟩:=Option.bind_eq_some_iff.1 h
 obtain ⟨x4,p4,h⟩:=Option.bind_eq_some_iff.1 h
 split at h
 ·rename_i hb
  obtain ⟨x5,p5,h⟩:=Option.bind_eq_some_iff.1 h
  obtain ⟨x6,p6,h⟩:=Option.bind_eq_some_iff.1 h
  cases h
  simp only at h0 ⊢
  obtain ⟨a1,-,-⟩:=gG p1
  obtain ⟨a2,l2,-,-⟩:=jv p2
  obtain ⟨a3,-,-⟩:=GO p3 h0
  obtain ⟨a4,l4,-,-⟩:=jv p4
  obtain ⟨a5,-,-⟩:=gG p5
  obtain ⟨a6,l6,e6,b6⟩:=jv p6
  have hh:dU (hdO x4.1).sz.toNat (hdO x4.1).re.toNat (hdO x4.1).im.toNat (hdO x4.1).g (hdO x4.1).u=x4.1:=by
   unfold hdO
   rw[if_pos hb]
   unfold hdB at hb
   simp only[Bool.and_eq_true,decide_eq_true_eq] at hb
   exact hb.2.2
  refine ⟨?_,by omega⟩
  unfold ff shB
  simp only
  rw[hh,l2,l6,a1,a2,a3,a4,a5,a6]
  simp only[List.append_assoc]
 ·cases h
theorem De {B:List UInt8} {a0:Nat} (ha:a0≤B.length):∀(j:Nat) {x:List Vs × Nat},vr B a0 j=some x→(∀v∈x.1,0≤v.id)→B.drop a0=bS x.1++B.drop x.2∧x.2≤B.length
 |0,x,h,_=>by
  simp only[vr,Option.some.injEq] at h
  subst h
  exact ⟨by simp[bS],ha⟩
 |j+1,x,h,hv=>by
  simp only[vr] at h
  obtain ⟨y,hy,h⟩:=Option.bind_eq_some_iff.1 h
  obtain ⟨z,hz,rfl⟩:=Option.map_eq_some_iff.1 h
  obtain ⟨p1,-⟩:=De ha j hy fun v h=>hv v (by simp[h])
  obtain ⟨p2,q2⟩:=Fb hz (hv z.1 (by simp))
  refine ⟨?_,q2⟩
  simp only
  rw[p1,p2,kj,List.append_assoc]
theorem sB {B:List UInt8} {a0:Nat}:∀(j:Nat) {x:List Vs × Nat},vr B a0 j=some x→x.1.length=j
 |0,x,h=>by
  simp only[vr,Option.some.injEq] at h
  subst h;rfl
 |j+1,x,h=>by
  simp only[vr] at h
  obtain ⟨y,hy,h⟩:=Option.bind_eq_some_iff.1 h
  obtain ⟨z,hz,rfl⟩:=Option.map_eq_some_iff.1 h
  simp[sB j hy]
theorem wI {B:List UInt8} {a0:Nat}:∀(j:Nat) {x:List Bk × Nat},br B a0 j=some x→x.1.length=j
 |0,x,h=>by
  simp only[br,Option.some.injEq] at h
  subst h;rfl
 |j+1,x,h=>by
  simp only[br] at h
  obtain ⟨y,hy,h⟩:=Option.bind_eq_some_iff.1 h
  obtain ⟨z,hz,rfl⟩:=Option.map_eq_some_iff.1 h
  simp[wI j hy]
theorem Df {B:List UInt8} {a:Nat} {x:Bk × Nat} (h:iu B a=some x) (h0:∀v∈x.1.l,0≤v.id):B.drop a=aY x.1++B.drop x.2∧x.2≤B.length:=by
 unfold iu at h
 obtain ⟨x1,p1,h⟩:=Option.bind_eq_some_iff.1 h
 obtain ⟨x2,p2,h⟩:=Option.bind_eq_some_iff.1 h
 obtain ⟨x3,p3,h⟩:=Option.bind_eq_some_iff.1 h
 obtain ⟨x4,p4,h⟩:=Option.bind_eq_some_iff.1 h
 obtain ⟨x5,p5,h⟩:=Option.bind_eq_some_iff.1 h
 cases h
 simp only at h0 ⊢
 obtain ⟨a1,-,-⟩:=gG p1
 obtain ⟨a2,l2,-,-⟩:=jv p2
 obtain ⟨a3,-,-⟩:=gG p3
 obtain ⟨a4,e4,b4⟩:=gG p4
 obtain ⟨a5,b5⟩:=De (by omega) _ p5 h0
 have l5:=sB _ p5
 refine ⟨?_,b5⟩
 unfold aY shB
 simp only[Int.toNat_natCast]
 rw[l2,l5,a1,a2,a3,a4,a5]
 simp only[List.append_assoc]
theorem Dg {B:List UInt8} {a0:Nat} (ha:a0≤B.length):∀(j:Nat) {x:List Bk × Nat},br B a0 j=some x→(∀b∈x.1,∀v∈b.l,0≤v.id)→B.drop a0=(x.1.map aY).flatten++B.drop x.2∧x.2≤B.length
 |0,x,h,_=>by
  simp only[br,Option.some.injEq] at h
  subst h
  exact ⟨by simp,ha⟩
 |j+1,x,h,hv=>by
  simp only[br] at h
  obtain ⟨y,hy,h⟩:=Option.bind_eq_some_iff.1 h
  obtain ⟨z,hz,rfl⟩:=Option.map_eq_some_iff.1 h
  obtain ⟨p1,-⟩:=Dg ha j hy fun b h=>hv b (by simp[h])
  obtain ⟨p2,q2⟩:=Df hz (hv z.1 (by simp))
  refine ⟨?_,q2⟩
  have hs:((y.1++[z.1]).map aY).flatten=(y.1.map aY).flatten++aY z.1:=by simp
  simp only
  rw[p1,p2,hs,List.append_assoc]
theorem Ap {B:List UInt8} {m:List Bk} (h:dr B=some m):imB m=true∧dV m=B:=by
 unfold dr at h
 obtain ⟨x0,p0,h⟩:=Option.bind_eq_some_iff.1 h
 split at h
 ·rename_i hm0
  obtain ⟨x1,p1,h⟩:=Option.bind_eq_some_iff.1 h
  obtain ⟨x2,p2,h⟩:=Option.bind_eq_some_iff.1 h
  obtain ⟨x3,p3,h⟩:=Option.bind_eq_some_iff.1 h
  split at h
  ·rename_i hc
   split at h
   ·rename_i hE
    cases h
    have hb:imB x2.1=true:=by
     unfold imE at hE
     split at hE
     ·assumption
     ·cases hE
    refine ⟨hb,?_⟩
    have hids:∀b∈x2.1,∀v∈b.l,0≤v.id:=fun b hx v hv=>(v7 (rp (jz hb hx) hv)).2.1
    obtain ⟨a0,-,-,-⟩:=jv p0
    obtain ⟨a1,e1,b1⟩:=gG p1
    obtain ⟨a2,b2⟩:=Dg (by omega) _ p2 hids
    have l2:=wI _ p2
    obtain ⟨a3,e3,b3⟩:=gG p3
    obtain ⟨c1,c2⟩:=hc
    rw[hm0] at a0
    have hB:B=fu x2.1++B.drop x2.2:=by
     have:B=B.drop 0:=rfl
     conv=>lhs;rw[this,a0,a1,a2]
     unfold fu
     rw[l2]
     simp only[List.append_assoc]
    have hlen:(fu x2.1).length=x2.2:=by
     have:=congrArg List.length hB
     rw[List.length_append,List.length_drop] at this
     omega
    have htk:B.take x2.2=fu x2.1:=by
     conv=>lhs;rw[hB]
     rw[←hlen,List.take_left]
    have hdr:B.drop x2.2=be 4 (mr (fu x2.1)):=by
     rw[a3,c1,htk,c2,List.drop_length,List.append_nil]
    unfold dV
    rw[if_pos hb,←hdr]
    exact hB.symm
   ·cases h
  ·cases h
 ·cases h
end Go.Proofs.YtjnoobmaedgooaaGreat.Arch
end
