/- Parts of a proof: a layer of abstract values over the model, the functions' walks, plain laws. -/
import Derived.Deep.CondSized
import Derived.Defers
import Derived.IntWalk
import Derived.KernelRfl
import Derived.Laws.Append
import Derived.Laws.AppendOwn
import Derived.Laws.BytesArg
import Derived.Laws.ComplexArith
import Derived.Laws.Cover3
import Derived.Laws.Entries
import Derived.Laws.FloatBits
import Derived.Laws.IdiomCopy
import Derived.Laws.IdiomStrings
import Derived.Laws.Pointers
import Derived.Laws.Small
import Derived.Laws.Strings
import Derived.Laws.StructEq
import Derived.Lib.Small
import Derived.Lib.Walk
import Derived.MapKept
import Derived.OpenShut
import Derived.Orders
import Derived.OrdersIn
import Derived.ProofKit
import Derived.RangeFuncRecord
import Derived.RangeFuncSeq
import Derived.ReadAgain
import Derived.Recover
import Derived.Scope
import Derived.Shelf.Lay
import Derived.Shelf.SlSortCmp.InsertionK
import Derived.Shelf.SlSortCmp.WholeK
import Derived.SizedLaws
import Derived.Tactics
import Derived.Tactics2
import Derived.Test.YtjnoobmaedgooaaGreatProg
import Derived.Test.YtjnoobmaedgooaaGreatRows
import Derived.WalkKit
import Derived.WalkSmall
import Derived.Test.YtjnoobmaedgooaaGreatABB
set_option linter.unusedSimpArgs false
set_option linter.unusedVariables false
section
namespace Go.Av
structure Hid (p:Prop):Prop where
 o:p
theorem cj2 {A0 A1:Prop} (a0:A0) (a1:A1):A0∧A1:=⟨a0,a1⟩
theorem cj3 {A0 A1 A2:Prop} (a0:A0) (a1:A1) (a2:A2):A0∧A1∧A2:=⟨a0,a1,a2⟩
theorem cj4 {A0 A1 A2 A3:Prop} (a0:A0) (a1:A1) (a2:A2) (a3:A3):A0∧A1∧A2∧A3:=⟨a0,a1,a2,a3⟩
theorem cj5 {A0 A1 A2 A3 A4:Prop} (a0:A0) (a1:A1) (a2:A2) (a3:A3) (a4:A4):A0∧A1∧A2∧A3∧A4:=⟨a0,a1,a2,a3,a4⟩
theorem cj6 {A0 A1 A2 A3 A4 A5:Prop} (a0:A0) (a1:A1) (a2:A2) (a3:A3) (a4:A4) (a5:A5):A0∧A1∧A2∧A3∧A4∧A5:=⟨a0,a1,a2,a3,a4,a5⟩
theorem cj7 {A0 A1 A2 A3 A4 A5 A6:Prop} (a0:A0) (a1:A1) (a2:A2) (a3:A3) (a4:A4) (a5:A5) (a6:A6):A0∧A1∧A2∧A3∧A4∧A5∧A6:=⟨a0,a1,a2,a3,a4,a5,a6⟩
theorem cj8 {A0 A1 A2 A3 A4 A5 A6 A7:Prop} (a0:A0) (a1:A1) (a2:A2) (a3:A3) (a4:A4) (a5:A5) (a6:A6) (a7:A7):A0∧A1∧A2∧A3∧A4∧A5∧A6∧A7:=⟨a0,a1,a2,a3,a4,a5,a6,a7⟩
theorem cj9 {A0 A1 A2 A3 A4 A5 A6 A7 A8:Prop} (a0:A0) (a1:A1) (a2:A2) (a3:A3) (a4:A4) (a5:A5) (a6:A6) (a7:A7) (a8:A8):A0∧A1∧A2∧A3∧A4∧A5∧A6∧A7∧A8:=⟨a0,a1,a2,a3,a4,a5,a6,a7,a8⟩
theorem nT {A0 A1 A2 A3 A4 A5 A6 A7 A8 A9:Prop} (a0:A0) (a1:A1) (a2:A2) (a3:A3) (a4:A4) (a5:A5) (a6:A6) (a7:A7) (a8:A8) (a9:A9):A0∧A1∧A2∧A3∧A4∧A5∧A6∧A7∧A8∧A9:=⟨a0,a1,a2,a3,a4,a5,a6,a7,a8,a9⟩
theorem nU {A0 A1 A2 A3 A4 A5 A6 A7 A8 A9 A10:Prop} (a0:A0) (a1:A1) (a2:A2) (a3:A3) (a4:A4) (a5:A5) (a6:A6) (a7:A7) (a8:A8) (a9:A9) (a10:A10):A0∧A1∧A2∧A3∧A4∧A5∧A6∧A7∧A8∧A9∧A10:=⟨a0,a1,a2,a3,a4,a5,a6,a7,a8,a9,a10⟩
theorem bM {A0 A1 A2 A3 A4 A5 A6 A7 A8 A9 A10 A11:Prop} (a0:A0) (a1:A1) (a2:A2) (a3:A3) (a4:A4) (a5:A5) (a6:A6) (a7:A7) (a8:A8) (a9:A9) (a10:A10) (a11:A11):A0∧A1∧A2∧A3∧A4∧A5∧A6∧A7∧A8∧A9∧A10∧A11:=⟨a0,a1,a2,a3,a4,a5,a6,a7,a8,a9,a10,a11⟩
theorem rn0 {F X Y:Prop} (f:F) (y:Y) (h:F→Hid Y→X:=by
 intro f y
 repeat (first
  |((first|apply Wp.aG|apply Wp.cf);(· simp only[go_sem,reduceIte,Nat.reduceEqDiff,Nat.reduceAdd,bx,ax,if_true,if_false,Nat.reduceMul,Nat.reduceLeDiff,f];exact rfl))
  |(refine ae.nil ⟨?_,?_⟩;(· first|trivial|simp[aJ,ar,apart,aC]))
  |(apply Wp.aK;(· simp only[go_sem,reduceIte,Nat.reduceEqDiff,Nat.reduceAdd,bx,ax,if_true,if_false,Nat.reduceMul,Nat.reduceLeDiff,f];exact rfl);(· rfl))
  |refine Wp.skip ?_
  |refine Wp.label ?_
  |refine Wp.block ?_
  |refine Wp.exit ?_
  |refine Wp.seq ?_
  |exact y.1)):X:=h f ⟨y⟩
theorem qb {X Y:Prop} (y:Y) (h:Hid Y→X:=by
 intro y
 repeat (first
  |((first|apply Wp.aG|apply Wp.cf);(· simp only[go_sem,reduceIte,Nat.reduceEqDiff,Nat.reduceAdd,bx,ax,if_true,if_false,Nat.reduceMul,Nat.reduceLeDiff];exact rfl))
  |(refine ae.nil ⟨?_,?_⟩;(· first|trivial|simp[aJ,ar,apart,aC]))
  |(apply Wp.aK;(· simp only[go_sem,reduceIte,Nat.reduceEqDiff,Nat.reduceAdd,bx,ax,if_true,if_false,Nat.reduceMul,Nat.reduceLeDiff];exact rfl);(· rfl))
  |refine Wp.skip ?_
  |refine Wp.label ?_
  |refine Wp.block ?_
  |refine Wp.exit ?_
  |refine Wp.seq ?_
  |exact y.1)):X:=h ⟨y⟩
theorem rn1 {F C0 X Y:Prop} (f:F) (c0:C0) (y:Y) (h:F→C0→Hid Y→X:=by
 intro f c0 y
 repeat (first
  |((first|apply Wp.aG|apply Wp.cf|((first
   |(refine ae.aP ?_ ?_ c0 ?_;(· simp only[go_sem,reduceIte,Nat.reduceEqDiff,Nat.reduceAdd,bx]);(· simp only[go_sem,reduceIte,Nat.reduceEqDiff,Nat.reduceAdd,bx,List.map];first|exact af.refl _|assumption|(repeat (first|exact af.nil|refine af.cons (by first|exact ag.refl _|assumption|exact ag.cap|exact ag.any _) ?_)))));apply ae.evR));(· simp only[go_sem,reduceIte,Nat.reduceEqDiff,Nat.reduceAdd,bx,ax,if_true,if_false,Nat.reduceMul,Nat.reduceLeDiff,f];exact rfl))
  |(refine ae.nil ⟨?_,?_⟩;(· first|trivial|simp[aJ,ar,apart,aC]))
  |(apply Wp.aK;(· simp only[go_sem,reduceIte,Nat.reduceEqDiff,Nat.reduceAdd,bx,ax,if_true,if_false,Nat.reduceMul,Nat.reduceLeDiff,f];exact rfl);(· rfl))
  |refine Wp.skip ?_
  |refine Wp.label ?_
  |refine Wp.block ?_
  |refine Wp.exit ?_
  |refine Wp.seq ?_
  |exact y.1)):X:=h f c0 ⟨y⟩
theorem DS {C0 X Y:Prop} (c0:C0) (y:Y) (h:C0→Hid Y→X:=by
 intro c0 y
 repeat (first
  |((first|apply Wp.aG|apply Wp.cf|((first
   |(refine ae.aP ?_ ?_ c0 ?_;(· simp only[go_sem,reduceIte,Nat.reduceEqDiff,Nat.reduceAdd,bx]);(· simp only[go_sem,reduceIte,Nat.reduceEqDiff,Nat.reduceAdd,bx,List.map];first|exact af.refl _|assumption|(repeat (first|exact af.nil|refine af.cons (by first|exact ag.refl _|assumption|exact ag.cap|exact ag.any _) ?_)))));apply ae.evR));(· simp only[go_sem,reduceIte,Nat.reduceEqDiff,Nat.reduceAdd,bx,ax,if_true,if_false,Nat.reduceMul,Nat.reduceLeDiff];exact rfl))
  |(refine ae.nil ⟨?_,?_⟩;(· first|trivial|simp[aJ,ar,apart,aC]))
  |(apply Wp.aK;(· simp only[go_sem,reduceIte,Nat.reduceEqDiff,Nat.reduceAdd,bx,ax,if_true,if_false,Nat.reduceMul,Nat.reduceLeDiff];exact rfl);(· rfl))
  |refine Wp.skip ?_
  |refine Wp.label ?_
  |refine Wp.block ?_
  |refine Wp.exit ?_
  |refine Wp.seq ?_
  |exact y.1)):X:=h c0 ⟨y⟩
theorem rn2 {F C0 C1 X Y:Prop} (f:F) (c0:C0) (c1:C1) (y:Y) (h:F→C0→C1→Hid Y→X:=by
 intro f c0 c1 y
 repeat (first
  |((first|apply Wp.aG|apply Wp.cf|((first
   |(refine ae.aP ?_ ?_ c0 ?_;(· simp only[go_sem,reduceIte,Nat.reduceEqDiff,Nat.reduceAdd,bx]);(· simp only[go_sem,reduceIte,Nat.reduceEqDiff,Nat.reduceAdd,bx,List.map];first|exact af.refl _|assumption|(repeat (first|exact af.nil|refine af.cons (by first|exact ag.refl _|assumption|exact ag.cap|exact ag.any _) ?_))))
   |(refine ae.aP ?_ ?_ c1 ?_;(· simp only[go_sem,reduceIte,Nat.reduceEqDiff,Nat.reduceAdd,bx]);(· simp only[go_sem,reduceIte,Nat.reduceEqDiff,Nat.reduceAdd,bx,List.map];first|exact af.refl _|assumption|(repeat (first|exact af.nil|refine af.cons (by first|exact ag.refl _|assumption|exact ag.cap|exact ag.any _) ?_)))));apply ae.evR));(· simp only[go_sem,reduceIte,Nat.reduceEqDiff,Nat.reduceAdd,bx,ax,if_true,if_false,Nat.reduceMul,Nat.reduceLeDiff,f];exact rfl))
  |(refine ae.nil ⟨?_,?_⟩;(· first|trivial|simp[aJ,ar,apart,aC]))
  |(apply Wp.aK;(· simp only[go_sem,reduceIte,Nat.reduceEqDiff,Nat.reduceAdd,bx,ax,if_true,if_false,Nat.reduceMul,Nat.reduceLeDiff,f];exact rfl);(· rfl))
  |refine Wp.skip ?_
  |refine Wp.label ?_
  |refine Wp.block ?_
  |refine Wp.exit ?_
  |refine Wp.seq ?_
  |exact y.1)):X:=h f c0 c1 ⟨y⟩
theorem IU {C0 C1 X Y:Prop} (c0:C0) (c1:C1) (y:Y) (h:C0→C1→Hid Y→X:=by
 intro c0 c1 y
 repeat (first
  |((first|apply Wp.aG|apply Wp.cf|((first
   |(refine ae.aP ?_ ?_ c0 ?_;(· simp only[go_sem,reduceIte,Nat.reduceEqDiff,Nat.reduceAdd,bx]);(· simp only[go_sem,reduceIte,Nat.reduceEqDiff,Nat.reduceAdd,bx,List.map];first|exact af.refl _|assumption|(repeat (first|exact af.nil|refine af.cons (by first|exact ag.refl _|assumption|exact ag.cap|exact ag.any _) ?_))))
   |(refine ae.aP ?_ ?_ c1 ?_;(· simp only[go_sem,reduceIte,Nat.reduceEqDiff,Nat.reduceAdd,bx]);(· simp only[go_sem,reduceIte,Nat.reduceEqDiff,Nat.reduceAdd,bx,List.map];first|exact af.refl _|assumption|(repeat (first|exact af.nil|refine af.cons (by first|exact ag.refl _|assumption|exact ag.cap|exact ag.any _) ?_)))));apply ae.evR));(· simp only[go_sem,reduceIte,Nat.reduceEqDiff,Nat.reduceAdd,bx,ax,if_true,if_false,Nat.reduceMul,Nat.reduceLeDiff];exact rfl))
  |(refine ae.nil ⟨?_,?_⟩;(· first|trivial|simp[aJ,ar,apart,aC]))
  |(apply Wp.aK;(· simp only[go_sem,reduceIte,Nat.reduceEqDiff,Nat.reduceAdd,bx,ax,if_true,if_false,Nat.reduceMul,Nat.reduceLeDiff];exact rfl);(· rfl))
  |refine Wp.skip ?_
  |refine Wp.label ?_
  |refine Wp.block ?_
  |refine Wp.exit ?_
  |refine Wp.seq ?_
  |exact y.1)):X:=h c0 c1 ⟨y⟩
theorem rn3 {F C0 C1 C2 X Y:Prop} (f:F) (c0:C0) (c1:C1) (c2:C2) (y:Y) (h:F→C0→C1→C2→Hid Y→X:=by
 intro f c0 c1 c2 y
 repeat (first
  |((first|apply Wp.aG|apply Wp.cf|((first
   |(refine ae.aP ?_ ?_ c0 ?_;(· simp only[go_sem,reduceIte,Nat.reduceEqDiff,Nat.reduceAdd,bx]);(· simp only[go_sem,reduceIte,Nat.reduceEqDiff,Nat.reduceAdd,bx,List.map];first|exact af.refl _|assumption|(repeat (first|exact af.nil|refine af.cons (by first|exact ag.refl _|assumption|exact ag.cap|exact ag.any _) ?_))))
   |(refine ae.aP ?_ ?_ c1 ?_;(· simp only[go_sem,reduceIte,Nat.reduceEqDiff,Nat.reduceAdd,bx]);(· simp only[go_sem,reduceIte,Nat.reduceEqDiff,Nat.reduceAdd,bx,List.map];first|exact af.refl _|assumption|(repeat (first|exact af.nil|refine af.cons (by first|exact ag.refl _|assumption|exact ag.cap|exact ag.any _) ?_))))
   |(refine ae.aP ?_ ?_ c2 ?_;(· simp only[go_sem,reduceIte,Nat.reduceEqDiff,Nat.reduceAdd,bx]);(· simp only[go_sem,reduceIte,Nat.reduceEqDiff,Nat.reduceAdd,bx,List.map];first|exact af.refl _|assumption|(repeat (first|exact af.nil|refine af.cons (by first|exact ag.refl _|assumption|exact ag.cap|exact ag.any _) ?_)))));apply ae.evR));(· simp only[go_sem,reduceIte,Nat.reduceEqDiff,Nat.reduceAdd,bx,ax,if_true,if_false,Nat.reduceMul,Nat.reduceLeDiff,f];exact rfl))
  |(refine ae.nil ⟨?_,?_⟩;(· first|trivial|simp[aJ,ar,apart,aC]))
  |(apply Wp.aK;(· simp only[go_sem,reduceIte,Nat.reduceEqDiff,Nat.reduceAdd,bx,ax,if_true,if_false,Nat.reduceMul,Nat.reduceLeDiff,f];exact rfl);(· rfl))
  |refine Wp.skip ?_
  |refine Wp.label ?_
  |refine Wp.block ?_
  |refine Wp.exit ?_
  |refine Wp.seq ?_
  |exact y.1)):X:=h f c0 c1 c2 ⟨y⟩
theorem rn4 {F C0 C1 C2 C3 X Y:Prop} (f:F) (c0:C0) (c1:C1) (c2:C2) (c3:C3) (y:Y) (h:F→C0→C1→C2→C3→Hid Y→X:=by
 intro f c0 c1 c2 c3 y
 repeat (first
  |((first|apply Wp.aG|apply Wp.cf|((first
   |(refine ae.aP ?_ ?_ c0 ?_;(· simp only[go_sem,reduceIte,Nat.reduceEqDiff,Nat.reduceAdd,bx]);(· simp only[go_sem,reduceIte,Nat.reduceEqDiff,Nat.reduceAdd,bx,List.map];first|exact af.refl _|assumption|(repeat (first|exact af.nil|refine af.cons (by first|exact ag.refl _|assumption|exact ag.cap|exact ag.any _) ?_))))
   |(refine ae.aP ?_ ?_ c1 ?_;(· simp only[go_sem,reduceIte,Nat.reduceEqDiff,Nat.reduceAdd,bx]);(· simp only[go_sem,reduceIte,Nat.reduceEqDiff,Nat.reduceAdd,bx,List.map];first|exact af.refl _|assumption|(repeat (first|exact af.nil|refine af.cons (by first|exact ag.refl _|assumption|exact ag.cap|exact ag.any _) ?_))))
   |(refine ae.aP ?_ ?_ c2 ?_;(· simp only[go_sem,reduceIte,Nat.reduceEqDiff,Nat.reduceAdd,bx]);(· simp only[go_sem,reduceIte,Nat.reduceEqDiff,Nat.reduceAdd,bx,List.map];first|exact af.refl _|assumption|(repeat (first|exact af.nil|refine af.cons (by first|exact ag.refl _|assumption|exact ag.cap|exact ag.any _) ?_))))
   |(refine ae.aP ?_ ?_ c3 ?_;(· simp only[go_sem,reduceIte,Nat.reduceEqDiff,Nat.reduceAdd,bx]);(· simp only[go_sem,reduceIte,Nat.reduceEqDiff,Nat.reduceAdd,bx,List.map];first|exact af.refl _|assumption|(repeat (first|exact af.nil|refine af.cons (by first|exact ag.refl _|assumption|exact ag.cap|exact ag.any _) ?_)))));apply ae.evR));(· simp only[go_sem,reduceIte,Nat.reduceEqDiff,Nat.reduceAdd,bx,ax,if_true,if_false,Nat.reduceMul,Nat.reduceLeDiff,f];exact rfl))
  |(refine ae.nil ⟨?_,?_⟩;(· first|trivial|simp[aJ,ar,apart,aC]))
  |(apply Wp.aK;(· simp only[go_sem,reduceIte,Nat.reduceEqDiff,Nat.reduceAdd,bx,ax,if_true,if_false,Nat.reduceMul,Nat.reduceLeDiff,f];exact rfl);(· rfl))
  |refine Wp.skip ?_
  |refine Wp.label ?_
  |refine Wp.block ?_
  |refine Wp.exit ?_
  |refine Wp.seq ?_
  |exact y.1)):X:=h f c0 c1 c2 c3 ⟨y⟩
theorem an0 {F X Y:Prop} (f:F) (y:Y) (h:F→Hid Y→X:=by
 intro f y
 repeat (first
  |((first|apply Wp.seqItems|apply Wp.items);(· simp only[go_sem,reduceIte,Nat.reduceEqDiff,Nat.reduceAdd,bx,ax,if_true,if_false,Nat.reduceMul,Nat.reduceLeDiff,f];exact rfl))
  |(refine ae.nil ⟨?_,?_⟩;(· first|trivial|simp[aJ,ar,apart,aC]))
  |(apply Wp.aK;(· simp only[go_sem,reduceIte,Nat.reduceEqDiff,Nat.reduceAdd,bx,ax,if_true,if_false,Nat.reduceMul,Nat.reduceLeDiff,f];exact rfl);(· rfl))
  |refine Wp.skip ?_
  |refine Wp.label ?_
  |refine Wp.block ?_
  |refine Wp.exit ?_
  |refine Wp.seq ?_
  |exact y.1)):X:=h f ⟨y⟩
theorem an1 {F C0 X Y:Prop} (f:F) (c0:C0) (y:Y) (h:F→C0→Hid Y→X:=by
 intro f c0 y
 repeat (first
  |((first|apply Wp.seqItems|apply Wp.items|((first
   |(refine ae.aP ?_ ?_ c0 ?_;(· simp only[go_sem,reduceIte,Nat.reduceEqDiff,Nat.reduceAdd,bx]);(· simp only[go_sem,reduceIte,Nat.reduceEqDiff,Nat.reduceAdd,bx,List.map];first|exact af.refl _|assumption|(repeat (first|exact af.nil|refine af.cons (by first|exact ag.refl _|assumption|exact ag.cap|exact ag.any _) ?_)))));apply ae.eval));(· simp only[go_sem,reduceIte,Nat.reduceEqDiff,Nat.reduceAdd,bx,ax,if_true,if_false,Nat.reduceMul,Nat.reduceLeDiff,f];exact rfl))
  |(refine ae.nil ⟨?_,?_⟩;(· first|trivial|simp[aJ,ar,apart,aC]))
  |(apply Wp.aK;(· simp only[go_sem,reduceIte,Nat.reduceEqDiff,Nat.reduceAdd,bx,ax,if_true,if_false,Nat.reduceMul,Nat.reduceLeDiff,f];exact rfl);(· rfl))
  |refine Wp.skip ?_
  |refine Wp.label ?_
  |refine Wp.block ?_
  |refine Wp.exit ?_
  |refine Wp.seq ?_
  |exact y.1)):X:=h f c0 ⟨y⟩
theorem an2 {F C0 C1 X Y:Prop} (f:F) (c0:C0) (c1:C1) (y:Y) (h:F→C0→C1→Hid Y→X:=by
 intro f c0 c1 y
 repeat (first
  |((first|apply Wp.seqItems|apply Wp.items|((first
   |(refine ae.aP ?_ ?_ c0 ?_;(· simp only[go_sem,reduceIte,Nat.reduceEqDiff,Nat.reduceAdd,bx]);(· simp only[go_sem,reduceIte,Nat.reduceEqDiff,Nat.reduceAdd,bx,List.map];first|exact af.refl _|assumption|(repeat (first|exact af.nil|refine af.cons (by first|exact ag.refl _|assumption|exact ag.cap|exact ag.any _) ?_))))
   |(refine ae.aP ?_ ?_ c1 ?_;(· simp only[go_sem,reduceIte,Nat.reduceEqDiff,Nat.reduceAdd,bx]);(· simp only[go_sem,reduceIte,Nat.reduceEqDiff,Nat.reduceAdd,bx,List.map];first|exact af.refl _|assumption|(repeat (first|exact af.nil|refine af.cons (by first|exact ag.refl _|assumption|exact ag.cap|exact ag.any _) ?_)))));apply ae.eval));(· simp only[go_sem,reduceIte,Nat.reduceEqDiff,Nat.reduceAdd,bx,ax,if_true,if_false,Nat.reduceMul,Nat.reduceLeDiff,f];exact rfl))
  |(refine ae.nil ⟨?_,?_⟩;(· first|trivial|simp[aJ,ar,apart,aC]))
  |(apply Wp.aK;(· simp only[go_sem,reduceIte,Nat.reduceEqDiff,Nat.reduceAdd,bx,ax,if_true,if_false,Nat.reduceMul,Nat.reduceLeDiff,f];exact rfl);(· rfl))
  |refine Wp.skip ?_
  |refine Wp.label ?_
  |refine Wp.block ?_
  |refine Wp.exit ?_
  |refine Wp.seq ?_
  |exact y.1)):X:=h f c0 c1 ⟨y⟩
end Go.Av
end
section
namespace Go.Av
section
variable {P:Program} {N:Nat} {o:Oper} {t:Tm} {h:H} {en:Ent}
end
end Go.Av
end
section
namespace Go.Av
section
variable {P:Program} {N:Nat}
theorem Ends.same {l:List Fr} {n m:Nat} {Q:AV→List Fr→Prop} {q r:AV} {h:H} (ok:Ok l n (ks l) m) (hs:ag q r) (hk:∀j,j<n→h.objs j=lay l j) (hn:n≤h.n) (hm:m≤h.m) (ht:∀t∈ks l,t∈h.toks) (hq:Q r l):Ends l n m Q q h r l where
 sub:=hs
 ole j o hj:=by
  refine ⟨o,?_,cK.refl _⟩
  rcases Nat.lt_or_ge j n with e|e
  ·rw[hk j e];exact hj
  ·rw[ok.F3 e] at hj;cases hj
 tk:=ht
 ok:=ok.grow hn hm
 new j:=by
  cases h:lay l j with
  |none=>exact .inr (.inr rfl)
  |some o=>exact .inr (.inl rfl)
 knew t ht:= .inl ht
 q:=hq
theorem Ok.lt {F:Fr} {l:List Fr} {n m j:Nat} {T:List Nat} {o:Obj} (ok:Ok l n T m) (hF:F∈l) (h:F.o j=some o):j<n:=by
 rcases Nat.lt_or_ge j n with e|e
 ·exact e
 ·rw[ok.bd F hF j e] at h;cases h
theorem Ok.at {F:Fr} {A B:List Fr} {n m j:Nat} {T:List Nat} {o:Obj} (ok:Ok (A++F::B) n T m) (h:F.o j=some o):lay (A++F::B) j=some o:=by
 rw[u3,Bc,h]
 have:lay A j=none:=mn.2 fun F' hF'=>by
  rcases (List.pairwise_append.1 ok.dj).2.2 F' hF' F (by simp) j with e|e
  ·exact e
  ·rw[e] at h;cases h
 rw[this];rfl
def Fr.Fin (F:Fr):Prop:=∃ids:List Nat,∀id,(F.o id).isSome=true→id∈ids
theorem Ok.sub {l:List Fr} {n m:Nat} {T:List Nat} (ok:Ok l n T m) {F:Fr} (hF:F∈l):∀j o,F.o j=some o→lay l j=some o:=by
 intro j o h
 obtain ⟨A,B,rfl⟩:=List.append_of_mem hF
 exact ok.at h
end
end Go.Av
end
section
namespace Go.Av
section
variable {P:Program} {N:Nat} {Q:aA→St→Prop}
structure On (l0:List Fr) (n0 m0:Nat) (l:List Fr) (n:Nat) (T:List Nat) (m:Nat):Prop where
 gn:n0≤n
 gm:m0≤m
 ok:Ok l n T m
 wi:Wi l0 n0 l
 ki:Ki l0 m0 l
theorem On.refl {l:List Fr} {n m:Nat} {T:List Nat} (ok:Ok l n T m):On l n m l n T m:=⟨Nat.le_refl _,Nat.le_refl _,ok,.refl,.refl⟩
theorem On.step {l0 l l':List Fr} {n0 m0 n m n' m':Nat} {T T':List Nat} (a:On l0 n0 m0 l n T m) (b:On l n m l' n' T' m'):On l0 n0 m0 l' n' T' m':=
 ⟨Nat.le_trans a.gn b.gn,Nat.le_trans a.gm b.gm,b.ok,a.wi.trans a.gn b.wi,a.ki.trans a.gm b.ki⟩
theorem Ok.more {l:List Fr} {n m:Nat} {T:List Nat} (ok:Ok l n T m) (o:Obj):Ok (ob n o::l) (n+1) T m where
 bd F hF j hj:=by
  rcases List.mem_cons.1 hF with rfl|hF
  ·rw[DP,if_neg (by omega)]
  ·exact ok.bd F hF j (by omega)
 dj:=List.pairwise_cons.2 ⟨fun F hF j=>by
  rw[DP]
  by_cases e:j=n
  ·exact .inr (ok.bd F hF j (by omega))
  ·exact .inl (if_neg e),ok.dj⟩
 tk t ht:=ok.tk t (by simpa [ks,ob] using ht)
 td:=List.pairwise_cons.2 ⟨fun F hF t ht=>by simp[ob] at ht,ok.td⟩
 tb:=ok.tb
theorem Ok.alone {i:Nat} {o:Obj} {l:List Fr} {n m:Nat} {T:List Nat} (ok:Ok (ob i o::l) n T m):lay l i=none:=ok.old (by simp[DP])
theorem Ok.cJ {i:Nat} {o o':Obj} {l:List Fr} {n m:Nat} {T:List Nat} (ok:Ok (ob i o::l) n T m):Ok (ob i o'::l) n T m:=by
 have hi:i<n:=ok.lt (by simp) (j:=i) (F:=ob i o) (o:=o) (by simp[DP])
 have:=ok.put (i:=i) (o:=o') ok.alone hi
 have e:(⟨upd (ob i o).o i (some o'),(ob i o).k⟩:Fr)=ob i o':=by
  simp only[ob,Fr.mk.injEq,and_true]
  funext j
  simp only[upd,ah]
  split<;>rfl
 rwa [e] at this
theorem On.put {F:Fr} {l:List Fr} {i:Nat} {o:Obj} {n m:Nat} {T:List Nat} (ok:Ok (F::l) n T m) (h:(F.o i).isSome=true):On (F::l) n m (⟨upd F.o i (some o),F.k⟩::l) n T m:=by
 have hn:i<n:=by
  obtain ⟨x,hx⟩:=Option.isSome_iff_exists.1 h
  exact ok.lt (by simp) hx
 refine ⟨Nat.le_refl _,Nat.le_refl _,ok.put (ok.old h) hn,fun j=>?_,fun t ht=> .inl (by simpa [ks] using ht)⟩
 simp only[lay,upd]
 by_cases e:j=i
 ·subst e
  right;left
  obtain ⟨x,hx⟩:=Option.isSome_iff_exists.1 h
  rw[hx];rfl
 ·rw[if_neg e]
  cases hh:(F.o j).or (lay l j) with
  |none=>exact .inr (.inr rfl)
  |some x=>exact .inr (.inl rfl)
theorem mQ.le {id:Nat} {args:List AV} {h h' h'':H} {r r':AV} (hc:mQ P id args h r h') (hs:ag r r') (hl:HLe h' h'') (n:h'.n=h''.n) (m:h'.m=h''.m):mQ P id args h r' h'':=by
 intro G w vs hd hv R F
 obtain ⟨fn,tmps,assign,body,q1,q2⟩:=hc G w vs hd hv R (by unfold bH at F ⊢;rwa [n,m])
 refine ⟨fn,tmps,assign,body,q1,q2.mono ?_⟩
 rintro e w' ⟨v,G',rfl,T,R',V⟩
 exact ⟨v,G',rfl,T.trans R R' (Trans.le hl (by omega) (by omega)),R'.le hl,hs G' w' v V⟩
end
end Go.Av
end
section
namespace Go.Av
section
variable {P:Program}
end
end Go.Av
end
section
namespace Go.Av
section
variable {P:Program} {N:Nat}
end
end Go.Av
end
section
namespace Go.Av
theorem aL {Y X:Prop} (y:Y) (h:Hid Y→X:=by
 intro y
 refine Wp.ret ⟨trivial,_,rfl,?_⟩
 simp only[go_sem,reduceIte,Nat.reduceEqDiff,Nat.reduceAdd,bx]
 exact y.1):X:=h ⟨y⟩
theorem xSu {X:Prop} (h:X:=by
 refine aF.tm (by simp only[av,go_sem,reduceIte,Nat.reduceEqDiff,Nat.reduceAdd,bx];and_intros<;>first|exact trivial|exact ag.refl _|exact ag.any _|(refine ag.int ?_;omega))):X:=h
theorem xSb {X:Prop} (h:X:=by
 simp only[av,go_sem,reduceIte,Nat.reduceEqDiff,Nat.reduceAdd,bx];and_intros<;>first|exact trivial|exact ag.refl _|exact ag.any _|(refine ag.int ?_;omega)):X:=h
theorem xA1 {X:Prop} (h:X:=by simp only[go_sem,reduceIte,Nat.reduceEqDiff,Nat.reduceAdd,bx];exact rfl):X:=h
theorem xA2 {X:Prop} (h:X:=by simp only[go_sem,reduceIte,Nat.reduceEqDiff,Nat.reduceAdd,bx]):X:=h
theorem xA4 {X:Prop} (h:X:=by simp only[go_sem,reduceIte,Nat.reduceEqDiff,List.map];exact af.refl _):X:=h
theorem xA5 {X:Prop} (h:X:=by first|exact ag.refl _|assumption|exact ag.cap|exact ag.any _):X:=h
theorem xA6 {X:Prop} (h:X:=by simp only[go_sem,reduceIte,Nat.reduceEqDiff,Nat.reduceAdd,bx,List.map];exact rfl):X:=h
theorem xA7 {X:Prop} (h:X:=by simp only[go_sem,reduceIte,Nat.reduceEqDiff,List.map];exact rfl):X:=h
theorem ixF {j n:Nat} (h:j<n) (hn:n≤9223372036854775806):decide ((j:Int)<(n:Int))=true∧(0:Int)≤(j:Int)∧(j:Int)<(n:Int)∧IntKind.i64.wrap ((j:Int)+1)=((j+1:Nat):Int):=
 ⟨decide_eq_true (by omega),by omega,by omega,by rw[IntWalk.i64_in _ (by omega)];omega⟩
theorem ixE (n:Nat):decide ((n:Int)<(n:Int))=false:=decide_eq_false (by omega)
theorem DT {G:aB} {h:H} {w w':World} {id:Nat} {cs xs:List AV} {vs rest:List Value} {T0:TypeId} {fr:Nat × Nat} (R:aM G h w) (ho:h.objs id=some (.cells cs)) (ht:h.toks=[]) (hs:w.heap.size≤w'.heap.size) (hos:w'.os=w.os) (hou:w'.output=w.output)
  (hk:∀b,b<w.heap.size→b≠G.ι id→w'.heap[b]? =w.heap[b]?) (hf:bw w.heap[G.ι id]? w'.heap[G.ι id]?) (hl:vs.length=xs.length) (hE:∀G w,an G w xs vs)
  (h1:∀v∈vs,One v) (hg:w'.heap[G.ι id]? =some (.cells (vs++rest).toArray T0 fr)) (hfr:fr.1=fr.2):
  Trans G w h G w' {h with objs:=upd h.objs id (some (.cells xs))}∧aM G {h with objs:=upd h.objs id (some (.cells xs))} w':=by
 obtain ⟨i1,i2,i3,i4⟩:=R.obj id _ ho
 have hO:∀b,¬h.O G b→b≠G.ι id:=fun b hh e=>hh ⟨id,_,ho,e.symm⟩
 have hd:∀{j o},upd h.objs id (some (Obj.cells xs)) j=some o→(j=id∧o= .cells xs)∨(j≠id∧h.objs j=some o):=by
  intro j o a
  simp only[upd] at a
  split at a
  ·cases a;exact .inl ⟨by assumption,rfl⟩
  ·exact .inr ⟨‹_›,a⟩
 have T:Trans G w h G w' {h with objs:=upd h.objs id (some (.cells xs))}:=by
  constructor
  ·exact fun _ x=>x
  ·exact fun _ x=> .inl x
  ·exact fun _ _=>rfl
  ·exact fun _ x=>x
  ·exact fun _=> .inl
  ·exact fun _ _=>rfl
  ·exact Nat.le_refl _
  ·exact Nat.le_refl _
  ·exact hs
  ·exact hos
  ·exact hou
  ·intro b hb
   by_cases e:b=G.ι id
   ·subst e;exact hf
   ·rw[hk b hb e];exact bw.refl _
  ·exact fun b hb h _=>hk b hb (hO b h)
  ·exact fun _ _ _=>Iff.rfl
  ·exact fun _ _ _ _=>rfl
  ·rintro b hb ⟨t,htt,_⟩
   simp[ht] at htt
  ·rintro b hb ⟨j,o,a,e⟩
   rcases hd a with ⟨rfl,-⟩|⟨x1,x2⟩
   ·exact ⟨_,_,ho,e⟩
   ·exact ⟨j,o,x2,e⟩
  ·rintro b _ ⟨t,htt,_⟩
   simp[ht] at htt
  ·intro j o a
   rcases hd a with ⟨rfl,-⟩|⟨x1,x2⟩
   ·exact .inl ⟨_,ho⟩
   ·exact .inl ⟨o,x2⟩
  ·exact fun t x=> .inl x
 refine ⟨T,?_⟩
 constructor
 ·intro j o a
  rcases hd a with ⟨rfl,rfl⟩|⟨x1,x2⟩
  ·exact ⟨i1,i2,Nat.lt_of_lt_of_le i3 hs,vs,rest,T0,fr,hg,hE _ _,hfr,h1⟩
  ·obtain ⟨r1,r2,r3,r4⟩:=R.obj j o x2
   have hne:G.ι j≠G.ι id:=fun e=>x1 (R.inj _ _ _ _ x2 ho e)
   refine ⟨r1,r2,Nat.lt_of_lt_of_le r3 hs,?_⟩
   rw[hk _ r3 hne]
   cases o with
   |cells cs=>
    obtain ⟨vs,rest,T',fr,y1,y2,y3⟩:=r4
    exact ⟨vs,rest,T',fr,y1,an.mono R T _ _ y2,y3⟩
   |map es=>
    obtain ⟨en,clock,y1,y2⟩:=r4
    exact ⟨en,clock,y1,Entries.mono R T _ _ y2⟩
   |loop N t ps asg body st pend=>
    obtain ⟨r,y1,y2,y3,y4⟩:=r4
    exact ⟨r,y1,y2,fun i=>ak.mono R T _ _ (y3 i),y4⟩
   |raw c=>exact r4
 ·intro i j o o' a b e
  have ha:∃p,h.objs i=some p:=by
   rcases hd a with ⟨rfl,-⟩|⟨-,x⟩
   ·exact ⟨_,ho⟩
   ·exact ⟨_,x⟩
  have hb:∃p,h.objs j=some p:=by
   rcases hd b with ⟨rfl,-⟩|⟨-,x⟩
   ·exact ⟨_,ho⟩
   ·exact ⟨_,x⟩
  obtain ⟨p,hp⟩:=ha
  obtain ⟨q,hq⟩:=hb
  exact R.inj _ _ _ _ hp hq e
 ·exact fun t x=>by simp[ht] at x
 ·exact fun t x=>by simp[ht] at x
end Go.Av
end
section
namespace Go.Av
section
variable {P:Program} {N:Nat} {Q:aA→St→Prop}
end
end Go.Av
end
section
namespace Go.Av
section
variable {P:Program} {N:Nat} {Q:aA→St→Prop}
def G7 (id:Nat) (cs:List AV) (q args:List AV):Prop:=∀(G:aB) (h:H) (w:World) (vs:List Value),aM G h w→h.objs id=some (.cells cs)→an G w q vs→an (G.frz h fun _=>true) w args vs
def UpF (h:H) (q r:AV):Prop:=ag q r∨∃(id:Nat) (cs:List AV),h.objs id=some (.cells cs)∧G7 id cs [q] [r]
theorem aN.upF {f:FuncId} {args:List AV} {h h':H} {q r:AV} (hc:aN P f args h q h') (u:UpF h' q r):aN P f args h r (h'.drop fun _=>true):=by
 intro G w vs hv R F
 refine (hc G w vs hv R F).mono ?_
 rintro e w' ⟨v,G',rfl,T,R',V⟩
 refine ⟨v,G'.frz h' fun _=>true,rfl,T.trans R R' (aT _),ml R' _,?_⟩
 rcases u with hs|⟨id,cs,ho,hl⟩
 ·exact hs _ _ _ (ak.mono R' (aT _) _ _ V)
 ·have:=hl G' h' w' [v] R' ho (by simp only[an];exact ⟨v,[],rfl,V,rfl⟩)
  simp only[an] at this
  obtain ⟨v',us,e,h1,-⟩:=this
  have:v=v':=by simpa using (List.cons.inj e).1
  rw[this];exact h1
theorem aI.wY {f:FuncId} {N:Nat} {ac:AC} {args:List AV} {ds:List RV} {r:AV} (hF:aI P f N ac ds) (hl:args.length≤N) (ha:az args=true) (hp:aO r=true) (hw:Wp P N ac ⟨eh args,H0 0 0⟩ fun e s'=>gq e∧∃q,gh ds s'.t s'.h=some q∧UpF s'.h q r):aE P f args r:=by
 obtain ⟨r',h',bI,hs⟩:=hF.dC (Q:=fun r' h'=>UpF h' r' r) hl hw
 exact (bI.upF hs).wV (cu _ ha) (ag.refl _) (dP _ hp)
theorem Trans.G8 {G G':aB} {w w':World} {h h':H} (T:Trans G w h G' w' h') {f:Nat→Option Obj} (hf:∀j o,f j=some o→∃o',h'.objs j=some o'):Trans G w h G' w' {h' with objs:=f}:=
 {T with
  O_new:=fun B hB x=>T.O_new B hB (by obtain ⟨id,o,ho,e⟩:=x;obtain ⟨o',ho'⟩:=hf _ _ ho;exact ⟨id,o',ho',e⟩)
  T_new:=fun B hB x=>T.T_new B hB x
  objs_new:=fun j o hj=>by obtain ⟨o',ho'⟩:=hf _ _ hj;exact T.objs_new j o' ho'
  n_le:=T.n_le
  m_le:=T.m_le
  dom_new:=T.dom_new
  tdom_new:=T.tdom_new
  toks_new:=T.toks_new}
end
end Go.Av
end
section
namespace Go.Av
namespace TR
variable {α:Type}
end TR
end Go.Av
end
section
namespace Go.Av
section
variable {P:Program} {N:Nat} {ops:Array Oper}
def mS (P:Program) (ops:Array Oper) (i:Nat) (o:Oper) (t:Tm) (h:H) (x:AV) (h':H):Prop:=
 (h.n≤h'.n∧h.m≤h'.m)∧∀G w a,bK G w t a→aM G h w→bH G h h'→∀(K:Act→World→Prop) Q,
  (∀G' w' v,Trans G w h G' w' h'→aM G' h' w'→ak G' w' x v→K (a.put o.dst v) w')→∀ro,wpOpIn (rd ro) 0 P ops Q i K a w
theorem mS.of {i:Nat} {o:Oper} {t:Tm} {h h1 h1' h':H} {x:AV} {en:Ent} (tc:Touch h h1 h1' h' en) (run:fC P ops i o t h1 x h1'):mS P ops i o t h x h':=by
 have e3:h'.n=h1'.n:=by rw[tc.eq];rfl
 have e4:h'.m=h1'.m:=by rw[tc.eq];rfl
 have e1:=tc.n
 have e2:=tc.m
 have l1:=tc.le
 have l2:=tc.lem
 refine ⟨⟨by omega,by omega⟩,fun G w a ht R U K Q hK ro=>?_⟩
 have F:bH G h1 h1':=U.sub (by omega) (by omega) (by omega) (by omega)
 refine run G w a (fun k _=>ht k) (R.sub tc.sub) F _ Q (fun G' w' v T1 R1 V=>?_) ro
 obtain ⟨R2,T2⟩:=frame R tc.sub tc.n tc.m R1 T1 F
 rw[←tc.eq] at R2 T2
 exact hK G' w' v T2 R2 V
theorem mS.full {i:Nat} {o:Oper} {t:Tm} {h h':H} {x:AV} (hn:h.n≤h'.n∧h.m≤h'.m) (run:fC P ops i o t h x h'):mS P ops i o t h x h':=
 ⟨hn,fun G w a ht R U K Q hK ro=>run G w a (fun k _=>ht k) R U K Q hK ro⟩
inductive lC (P:Program) (ops:Array Oper):Nat→Tm→H→Tm→H→Prop where
 |nil {i:Nat} {t:Tm} {h:H} (hi:i=ops.size):lC P ops i t h t h
 |cons {i:Nat} {o:Oper} {t t':Tm} {h h2 h':H} {x:AV} (ho:ops[i]? =some o) (run:mS P ops i o t h x h2) (rest:lC P ops (i+1) (bD t o.dst x) h2 t' h'):lC P ops i t h t' h'
theorem lC.nm {i:Nat} {t t':Tm} {h h':H} (c:lC P ops i t h t' h'):h.n≤h'.n∧h.m≤h'.m:=by
 induction c with
 |nil _=>exact ⟨Nat.le_refl _,Nat.le_refl _⟩
 |cons ho run rest ih=>have:=run.1;omega
theorem u9 (ro:Option Nat) {Q:Exit→Act→World→Prop} (hN:∀(i:Nat) o d,ops[i]? =some o→o.dst=some d→d<N):∀{i:Nat} {t t':Tm} {h h':H},lC P ops i t h t' h'→
  ∀(G:aB) (w:World) (a:Act),a.tmps.size=N→bK G w t a→aM G h w→bH G h h'→
   (∀G' w' a',Trans G w h G' w' h'→bK G' w' t' a'→aM G' h' w'→a'.tmps.size=N→a'.defers=a.defers→Q .normal a' w')→wpOpsIn (rd ro) 0 P ops Q (List.range' i (ops.size - i)) a w:=by
 intro i t t' h h' hc
 induction hc with
 |nil hi=>
  intro G w a hs ht R U hq
  subst hi
  simp only[Nat.sub_self,List.range'_zero,wpOpsIn]
  exact hq G w a (Trans.refl _ _ _) ht R hs rfl
 | @cons i o t t' h h2 h' x ho run rest ih=>
  intro G w a hs ht R U hq
  have hi:i<ops.size:=(Array.getElem?_eq_some_iff.1 ho).1
  have:ops.size - i=(ops.size - (i+1))+1:=by omega
  rw[this,List.range'_succ,wpOpsIn_cons]
  have nm:=rest.nm
  have nm2:=run.1
  refine run.2 G w a ht R (U.sub (Nat.le_refl _) nm.1 (Nat.le_refl _) nm.2) _ Q (fun G' w' v T2 R2 V=>?_) ro
  refine ih G' w' _ (by rw[jF];exact hs) (l9 (ht.mono R T2) V fun k hk=>by rw[hs];exact hN i o k ho hk) R2 (U.step T2) fun G'' w'' a'' T3 h1 h2 h3 h4=>?_
  exact hq G'' w'' a'' (T2.trans R R2 T3) h1 h2 h3 (h4.trans (put_defers _ _ _))
def ab (P:Program) (N:Nat) (items:List aw) (t:Tm) (h:H) (K:Tm→H→Prop):Prop:=
 ∀ops i,i≤ops.size→cG P N ops (ops.toList.drop i)=some items→∃t' h',lC P ops i t h t' h'∧K t' h'
theorem ab.nil {t:Tm} {h:H} {K:Tm→H→Prop} (hk:K t h):ab P N [] t h K:=by
 intro ops i hi hc
 have:i=ops.size:=by
  cases hd:ops.toList.drop i with
  |nil=>have:=List.drop_eq_nil_iff.1 hd;simp at this;omega
  |cons a l=>rw[hd] at hc;simp only[cG] at hc;split at hc<;>cases hc
 exact ⟨t,h,.nil this,hk⟩
theorem qH {it:aw} {o:Oper} (hit:bm P N ops o=some it):it.dst=o.dst:=by
 unfold bm at hit
 split at hit
 ·split at hit<;>cases hit;rfl
 ·cases hit
theorem ab.step {it:aw} {its:List aw} {t:Tm} {h h':H} {x:AV} {K:Tm→H→Prop}
  (run:∀(ops:Array Oper) i o,ops[i]? =some o→bm P N ops o=some it→mS P ops i o t h x h') (rest:ab P N its (bD t it.dst x) h' K):ab P N (it::its) t h K:=by
 intro ops i hi hc
 obtain ⟨o,ho,hit,hi',hc'⟩:=bG hi hc
 obtain ⟨t',hh',ch,hk⟩:=rest ops (i+1) hi' hc'
 exact ⟨t',hh',.cons ho (run ops i o ho hit) (by rw[←qH hit];exact ch),hk⟩
theorem Wp.F4 {items:List aw} {s:St} {Q:aA→St→Prop} (h:ab P N items s.t s.h fun t' h'=>Q .normal ⟨t',h'⟩):Wp P N (.reg items none) s Q:=by
 intro code hc
 obtain ⟨id,ops,draw,rfl,hi,hd⟩:=mf hc
 obtain ⟨t',h',ch,hq⟩:=h ops 0 (Nat.zero_le _) (by simpa using hi)
 have nm:=ch.nm
 obtain ⟨cl,ci⟩:=gf hi
 have hN:∀(i:Nat) o d,ops[i]? =some o→o.dst=some d→d<N:=by
  intro i o d ho hdd
  have hlt:i<ops.size:=(Array.getElem?_eq_some_iff.1 ho).1
  have hit:i<items.length:=by rw[cl];simpa using hlt
  have:=ci i o items[i] (by simpa using ho) (List.getElem?_eq_getElem hit)
  generalize items[i]=it at this
  unfold bm at this
  split at this
  ·split at this<;>cases this
   rename_i hcond
   simp only[Bool.and_eq_true] at hcond
   have:=hcond.1
   rw[hdd] at this
   simpa using this
  ·cases this
 refine ⟨.normal,⟨t',h'⟩,⟨nm,fun ro okc G w a r F=>?_⟩,hq⟩
 rcases hd with ⟨rfl,-⟩|⟨-,-,-,hn⟩
 ·refine wpIn_region ?_
  rw[List.range_eq_range']
  have:=u9 ro (Q:=fun e' a' w'=>aA.normal.dA e'∧jJ w a.defers a'.defers∧∃G',Trans G w s.h G' w' h'∧Rel N ⟨t',h'⟩ G' w' a') hN ch G w a r.size r.t r.h F
   (fun G' w' a' T1 t1 R1 s1 d1=>⟨trivial,by rw[d1];exact .refl,G',T1,⟨s1,t1,R1,by rw[d1];exact r.df.mono T1⟩⟩)
  simpa using this
 ·cases hn
end
section
variable {P:Program} {T:FT}
def kP (full:Bool) (h h1 h1' h':H) (en:Ent):Prop:=Touch h h1 h1' h' en∨(full=true∧h1=h∧h1'=h'∧h.n≤h'.n∧h.m≤h'.m)
theorem kP.mo {N:Nat} {ops:Array Oper} {full:Bool} {i:Nat} {o:Oper} {t:Tm} {h h1 h1' h':H} {x:AV} {en:Ent} (hn:kP full h h1 h1' h' en) (run:fC P ops i o t h1 x h1'):mS P ops i o t h x h':=by
 rcases hn with tc|⟨-,rfl,rfl,a,b⟩
 ·exact mS.of tc run
 ·exact mS.full ⟨a,b⟩ run
end
end Go.Av
end
section
namespace Go.Av
section
variable {P:Program} {N:Nat}
theorem ab.evA:∀{items its:List aw} {t t':Tm} {h h':H} {log log':List Ent} {K:Tm→H→Prop},bL items t h log=(its,t',h',log')→ab P N its t' h' K→ab P N items t h K
 |[],its,t,t',h,h',log,log',K,he,hw=>by simp only[bL,Prod.mk.injEq] at he;obtain ⟨rfl,rfl,rfl,rfl⟩:=he;exact hw
 |it::items,its,t,t',h,h',log,log',K,he,hw=>by
  simp only[bL] at he
  split at he
  ·rename_i hg
   split at he
   ·rename_i x h2 en hx
    refine ab.step (fun ops i o ho hit=>?_) (ab.evA he hw)
    obtain ⟨h1,h1',tc,run⟩:=fD ho hit hg hx
    exact (kP.mo (N:=N) (full:=false) (.inl tc) run)
   ·simp only[Prod.mk.injEq] at he;obtain ⟨rfl,rfl,rfl,rfl⟩:=he;exact hw
  ·rename_i hg
   exact ab.step (fun ops i o ho hit=>kP.mo (N:=N) (full:=false) (.inl (aV h)) (fp ho hit hg)) (ab.evA he hw)
  ·simp only[Prod.mk.injEq] at he;obtain ⟨rfl,rfl,rfl,rfl⟩:=he;exact hw
theorem ab.evF {items its:List aw} {t t':Tm} {h h':H} {log:List Ent} {K:Tm→H→Prop} (he:fM items t h []=some (its,t',h',log)) (hw:ab P N its t' h' K):ab P N items t h K:=ab.evA (aZ he) hw
theorem Wp.bJ {items its:List aw} {s:St} {Q:aA→St→Prop} {t':Tm} {h':H} {log:List Ent} (he:fM items s.t s.h []=some (its,t',h',log)) (h:ab P N its t' h' fun t h=>Q .normal ⟨t,h⟩):Wp P N (.reg items none) s Q:=Wp.F4 (ab.evF he h)
theorem Wp.au {items its:List aw} {y:AC} {s:St} {Q:aA→St→Prop} {t':Tm} {h':H} {log:List Ent} (he:fM items s.t s.h []=some (its,t',h',log)) (h:ab P N its t' h' fun t h=>Wp P N y ⟨t,h⟩ Q):Wp P N (.seq (.reg items none) y) s Q:=Wp.seq (Wp.bJ he h)
theorem ab.fc {dst:Option Nat} {g:Option (Nat × Bool)} {f:FuncId} {l:List Opd} {its:List aw} {t:Tm} {h h':H} {K:Tm→H→Prop} {vals:List AV} {r:AV} (hg:guardOf t g=some true) (hs:af (l.map (ev t)) vals) (hn:h.n≤h'.n∧h.m≤h'.m) (hc:aN P f vals h r h')
  (rest:ab P N its (bD t dst r) h' K):ab P N (⟨dst,g,.call f l⟩::its) t h K:=
 ab.step (fun ops i o ho hit=>mS.full hn (cN ho hit hg rfl hs hc)) rest
theorem ab.aP {dst:Option Nat} {g:Option (Nat × Bool)} {f:FuncId} {l:List Opd} {its:List aw} {t:Tm} {h:H} {K:Tm→H→Prop} {vals:List AV} {r:AV} (hg:guardOf t g=some true) (hs:af (l.map (ev t)) vals) (hc:aE P f vals r)
  (rest:ab P N its (bD t dst r) h K):ab P N (⟨dst,g,.call f l⟩::its) t h K:=
 ab.step (fun ops i o ho hit=>kP.mo (N:=N) (full:=false) (.inl (aV h)) (cN ho hit hg rfl hs (hc h.n h.m))) rest
theorem aN.frame {f:FuncId} {args:List AV} {h h1 h1':H} {r:AV} (hs:h1.sub h) (hn:h1.n=h.n) (hm:h1.m=h.m) (ln:h1.n≤h1'.n) (lm:h1.m≤h1'.m) (hc:aN P f args h1 r h1'):aN P f args h r (h.patch h1 h1'):=by
 intro G w vs hv R F
 have F1:bH G h1 h1':=⟨fun id a b=>F.1 id (by omega) b,fun t a b=>F.2 t (by omega) b⟩
 refine (hc G w vs hv (R.sub hs) F1).mono ?_
 rintro e w' ⟨v,G',rfl,T,R',V⟩
 obtain ⟨R2,T2⟩:=Av.frame R hs hn hm R' T F1
 exact ⟨v,G',rfl,T2,R2,V⟩
theorem aI.mq {f:FuncId} {ac:AC} {args:List AV} {h h':H} {ds:List RV} {r:AV} (hF:aI P f N ac ds) (hl:args.length≤N) (hw:Wp P N ac ⟨eh args,h⟩ fun e s'=>gq e∧∃q,gh ds s'.t s'.h=some q∧ag q r∧s'.h=h'):aN P f args h r h':=by
 obtain ⟨q,h2,hc,hs,rfl⟩:=hF.dC (Q:=fun q h2=>ag q r∧h2=h') hl hw
 intro G w vs hv R F
 refine (hc G w vs hv R F).mono ?_
 rintro e w' ⟨v,G',rfl,T,R',V⟩
 exact ⟨v,G',rfl,T,R',hs G' w' v V⟩
end
end Go.Av
end
section
namespace Go.Av
theorem rf0 {F X Y:Prop} (f:F) (y:Y) (h:F→Hid Y→X:=by
 intro f y
 repeat (first
  |refine ab.nil ?_
  |((first|apply Wp.au|apply Wp.bJ);(· simp only[go_sem,reduceIte,Nat.reduceEqDiff,Nat.reduceAdd,bx,ax,if_true,if_false,Nat.reduceMul,Nat.reduceLeDiff,f];exact rfl))
  |(apply Wp.aK;(· simp only[go_sem,reduceIte,Nat.reduceEqDiff,Nat.reduceAdd,bx,ax,if_true,if_false,Nat.reduceMul,Nat.reduceLeDiff,f];exact rfl);(· rfl))
  |refine Wp.skip ?_
  |refine Wp.label ?_
  |refine Wp.block ?_
  |refine Wp.exit ?_
  |refine Wp.seq ?_
  |exact y.1)):X:=h f ⟨y⟩
theorem fQ {X Y:Prop} (y:Y) (h:Hid Y→X:=by
 intro y
 repeat (first
  |refine ab.nil ?_
  |((first|apply Wp.au|apply Wp.bJ);(· simp only[go_sem,reduceIte,Nat.reduceEqDiff,Nat.reduceAdd,bx,ax,if_true,if_false,Nat.reduceMul,Nat.reduceLeDiff];exact rfl))
  |(apply Wp.aK;(· simp only[go_sem,reduceIte,Nat.reduceEqDiff,Nat.reduceAdd,bx,ax,if_true,if_false,Nat.reduceMul,Nat.reduceLeDiff];exact rfl);(· rfl))
  |refine Wp.skip ?_
  |refine Wp.label ?_
  |refine Wp.block ?_
  |refine Wp.exit ?_
  |refine Wp.seq ?_
  |exact y.1)):X:=h ⟨y⟩
theorem rf1 {F C0 X Y:Prop} (f:F) (c0:C0) (y:Y) (h:F→C0→Hid Y→X:=by
 intro f c0 y
 repeat (first
  |refine ab.nil ?_
  |((first|apply Wp.au|apply Wp.bJ|((first
   |(refine ab.aP ?_ ?_ c0 ?_;(· simp only[go_sem,reduceIte,Nat.reduceEqDiff,Nat.reduceAdd,bx]);(· simp only[go_sem,reduceIte,Nat.reduceEqDiff,Nat.reduceAdd,bx,List.map,go_sem,reduceIte,Nat.reduceEqDiff,Nat.reduceAdd,bx,ax,if_true,if_false,Nat.reduceMul,Nat.reduceLeDiff,f];first|exact af.refl _|assumption|(repeat (first|exact af.nil|refine af.cons (by first|exact ag.refl _|assumption|exact ag.cap|exact ag.any _) ?_)))));apply ab.evF));(· simp only[go_sem,reduceIte,Nat.reduceEqDiff,Nat.reduceAdd,bx,ax,if_true,if_false,Nat.reduceMul,Nat.reduceLeDiff,f];exact rfl))
  |(apply Wp.aK;(· simp only[go_sem,reduceIte,Nat.reduceEqDiff,Nat.reduceAdd,bx,ax,if_true,if_false,Nat.reduceMul,Nat.reduceLeDiff,f];exact rfl);(· rfl))
  |refine Wp.skip ?_
  |refine Wp.label ?_
  |refine Wp.block ?_
  |refine Wp.exit ?_
  |refine Wp.seq ?_
  |exact y.1)):X:=h f c0 ⟨y⟩
theorem vc {C0 X Y:Prop} (c0:C0) (y:Y) (h:C0→Hid Y→X:=by
 intro c0 y
 repeat (first
  |refine ab.nil ?_
  |((first|apply Wp.au|apply Wp.bJ|((first
   |(refine ab.aP ?_ ?_ c0 ?_;(· simp only[go_sem,reduceIte,Nat.reduceEqDiff,Nat.reduceAdd,bx]);(· simp only[go_sem,reduceIte,Nat.reduceEqDiff,Nat.reduceAdd,bx,List.map,go_sem,reduceIte,Nat.reduceEqDiff,Nat.reduceAdd,bx,ax,if_true,if_false,Nat.reduceMul,Nat.reduceLeDiff];first|exact af.refl _|assumption|(repeat (first|exact af.nil|refine af.cons (by first|exact ag.refl _|assumption|exact ag.cap|exact ag.any _) ?_)))));apply ab.evF));(· simp only[go_sem,reduceIte,Nat.reduceEqDiff,Nat.reduceAdd,bx,ax,if_true,if_false,Nat.reduceMul,Nat.reduceLeDiff];exact rfl))
  |(apply Wp.aK;(· simp only[go_sem,reduceIte,Nat.reduceEqDiff,Nat.reduceAdd,bx,ax,if_true,if_false,Nat.reduceMul,Nat.reduceLeDiff];exact rfl);(· rfl))
  |refine Wp.skip ?_
  |refine Wp.label ?_
  |refine Wp.block ?_
  |refine Wp.exit ?_
  |refine Wp.seq ?_
  |exact y.1)):X:=h c0 ⟨y⟩
end Go.Av
end
section
namespace Go.Av
section
variable {P:Program} {N:Nat}
def wZ (P:Program) (f:FuncId) (args:Nat→List AV) (r:Nat→AV):Prop:=∀t n m,∃t' n' m',n≤n'∧m≤m'∧aN P f (args t) (.only ah [t] n m) (r t') (.only ah [t'] n' m')
theorem ab.F5 {dst:Option Nat} {g:Option (Nat × Bool)} {f:FuncId} {l:List Opd} {its:List aw} {t:Tm} {h:H} {K:Tm→H→Prop} {args:Nat→List AV} {r:Nat→AV} (tk:Nat) (hg:guardOf t g=some true) (hs:af (l.map (ev t)) (args tk)) (hk:tk∈h.toks) (hz:∀j,h.n≤j→h.objs j=none) (hc:wZ P f args r)
  (rest:∀tk' n' m',h.n≤n'→h.m≤m'→ab P N its (bD t dst (r tk')) {h with n:=n',toks:=tk'::h.toks.filter (· ≠tk),m:=m'} K):ab P N (⟨dst,g,.call f l⟩::its) t h K:=by
 obtain ⟨tk',n',m',hn,hm,ha⟩:=hc tk h.n h.m
 have hsub:(H.only ah [tk] h.n h.m).sub h:=⟨fun id o a=>absurd a (by simp[H.only,ah]),fun t ht=>by
  have:t=tk:=by simpa [H.only] using ht
  subst this;exact hk⟩
 have hf:=aN.frame (h:=h) (h1':= .only ah [tk'] n' m') hsub rfl rfl hn hm ha
 have e:h.patch (.only ah [tk] h.n h.m) (.only ah [tk'] n' m')= {h with n:=n',toks:=tk'::h.toks.filter (· ≠tk),m:=m'}:=by
  unfold H.patch
  simp only[H.only]
  congr 1
  ·funext j
   simp only[ah,Option.isSome_none,Bool.false_eq_true,false_or]
   split
   ·rename_i hj;rw[hz j hj.1]
   ·rfl
  ·simp only[List.singleton_append,List.cons.injEq,true_and]
   congr 1
   funext t
   by_cases h:t=tk<;>simp[h]
 rw[e] at hf
 exact ab.fc hg hs ⟨hn,hm⟩ hf (rest tk' n' m' hn hm)
theorem ab.cE {dst:Option Nat} {g:Option (Nat × Bool)} {f:FuncId} {l:List Opd} {its:List aw} {t:Tm} {h:H} {K:Tm→H→Prop} {args:Nat→List AV} {r:Nat→AV} (tk:Nat) (hg:guardOf t g=some true) (hs:af (l.map (ev t)) (args tk)) (hk:tk∈h.toks) (hc:hG P f args r)
  (rest:∀tk' m',h.m≤m'→ab P N its (bD t dst (r tk')) {h with toks:=tk'::h.toks.filter (· ≠tk),m:=m'} K):ab P N (⟨dst,g,.call f l⟩::its) t h K:=by
 obtain ⟨tk',m',hm,ha⟩:=hc tk h.n h.m
 obtain ⟨s1,s2,s3,s4,-⟩:=mg (tk':=tk') h hk hm
 have hf:=aN.frame (h:=h) (h1':= .only ah [tk'] h.n m') s1 s2 s3 (Nat.le_refl _) hm ha
 rw[←s4] at hf
 exact ab.fc (h':={h with toks:=tk'::h.toks.filter (· ≠tk),m:=m'}) hg hs ⟨Nat.le_refl _,hm⟩ hf (rest tk' m' hm)
end
end Go.Av
end
section
namespace Go.Av
section
variable {P:Program} {N:Nat} {o:Oper} {t:Tm} {h:H}
end
end Go.Av
end
section
namespace Go.Av
section
variable {P:Program} {N:Nat} {o:Oper} {t:Tm} {h:H} {G:aB} {w:World}
def u8V (l:List UInt8):List Value:=l.map fun b=>Value.int .u8 b.toNat
def Bi (l:List UInt8) (x:Option Go.Obj):Prop:=∃rest T fr,x=some (.cells (u8V l++rest).toArray T fr)∧∀j,j<l.length+rest.length→¬(fr.1≤j∧j<fr.2)
def o9 (l:List UInt8):Obj:= .raw (Bi l)
theorem DU {w':World} {ob:Go.Obj} {p:Option Go.Obj→Prop} {n m:Nat} (hp:cz w w' ob) (hr:p (some ob)) (hf:¬G.dom n):
  ∃G',Trans G w (.only ah [] n m) G' w' (.only (upd ah n (some (.raw p))) [] (n+1) m)∧aM G' (.only (upd ah n (some (.raw p))) [] (n+1) m) w'∧G'.dom n∧G'.ι n=w.heap.size:=by
 let G':aB:={G with dom:=fun id=>G.dom id∨id=n,ι:=upd G.ι n w.heap.size,own:=fun B=>if B=w.heap.size then True else G.own B}
 have hi:G'.ι n=w.heap.size:=by simp[G',upd]
 have hO:∀B,¬(H.only ah [] n m).O G B:=fun B ⟨id,o,ho,_⟩=>by simp[H.only,ah] at ho
 have hT:∀B,¬(H.only ah [] n m).T G B:=fun B ⟨t,ht,_⟩=>by simp[H.only] at ht
 have hobj:∀{id o},(H.only (upd ah n (some (.raw p))) [] (n+1) m).objs id=some o→id=n∧o= .raw p:=by
  intro id o ho
  simp only[H.only,upd,ah] at ho
  split at ho
  ·cases ho;exact ⟨‹_›,rfl⟩
  ·cases ho
 have T:Trans G w (.only ah [] n m) G' w' (.only (upd ah n (some (.raw p))) [] (n+1) m):=by
  refine fZ hp hO (fun B ht=>absurd ht (hT B)) (fun _=> .inl) ?_ ?_ (fun _ x=>x) (fun _=> .inl) (fun _ _=>rfl) (by simp[H.only]) (by simp[H.only]) ?_ (fun _ _=>rfl) ?_ ?_ ?_ ?_
  ·rintro id (x|rfl)
   ·exact .inl x
   ·exact .inr ⟨by simp[H.only],by simp[H.only]⟩
  ·intro id hd
   simp only[G',upd]
   split
   ·rename_i e;subst e;exact absurd hd hf
   ·rfl
  ·intro B hB
   simp only[G']
   rw[if_neg (by omega)]
  ·rintro B hB ⟨id,o,ho,e⟩
   obtain ⟨rfl,rfl⟩:=hobj ho
   rw[hi] at e;omega
  ·rintro B hB ⟨t,ht,_⟩
   simp[H.only] at ht
  ·intro j o ho
   obtain ⟨rfl,rfl⟩:=hobj ho
   exact .inr ⟨by simp[H.only],by simp[H.only]⟩
  ·intro t ht;simp[H.only] at ht
 refine ⟨G',T,⟨?_,?_,?_,?_⟩,.inr rfl,hi⟩
 ·intro id o ho
  obtain ⟨rfl,rfl⟩:=hobj ho
  refine ⟨.inr rfl,by rw[hi];simp[G'],by rw[hi,hp.size];omega,?_⟩
  rw[hi,hp.new]
  exact hr
 ·intro id id' o o' ho ho' _
  rw[(hobj ho).1,(hobj ho').1]
 ·intro t ht;simp[H.only] at ht
 ·intro t ht;simp[H.only] at ht
theorem Bj {src dst e:TypeId} {z:Operand} {y:Opd} {l:List UInt8} (hop:o.op= .convert src dst z) (hs:P.underlying src=some .string) (hd:P.underlying dst=some (.slice e)) (he:P.underlying e=some (.int .u8))
  (hy:opd P src z=some y) (hx:ev t y= .str l) (hl:l.length≤1000000):Loc P o t h (.tsl 1 h.n 0 l.length none) {h with objs:=upd h.objs h.n (some (o9 l)),n:=h.n+1} ⟨[],[h.n],[]⟩:=by
 refine ⟨_,_,fm h _,fun G w a ht R F=>?_⟩
 have r:=ao hy ht
 rw[hx] at r
 simp only[ak] at r
 have hsz:(ByteArray.mk l.toArray).size=l.length:=by simp[ByteArray.size]
 have hrun:=run_bytes_of_string w src dst e ⟨l.toArray⟩ hs hd he
 rw[hsz] at hrun
 have hge:=grownCap_ge w l.length 0 e
 have hle:=grownCap_le_maxLen w l.length 0 e (by unfold maxLen;omega)
 unfold maxLen at hle
 generalize grownCap w l.length 0 e=C at*
 have hrow:bytesRow ⟨l.toArray⟩ C=(u8V l++List.replicate (C - l.length) (Value.int .u8 0)).toArray:=by
  simp[bytesRow,hsz,u8V]
 have hsz2:(u8V l++List.replicate (C - l.length) (Value.int .u8 0)).toArray.size=l.length+(C - l.length):=by simp[u8V]
 rw[hrow,hsz2] at hrun
 have hp:cz w (w.drew.alloc (.cells (u8V l++List.replicate (C - l.length) (Value.int .u8 0)).toArray e (l.length+(C - l.length),l.length+(C - l.length)+1))) _:=⟨rfl,rfl,rfl⟩
 obtain ⟨G',T1,R1,d1,i1⟩:=DU (n:=h.n) (m:=h.m) (p:=Bi l) hp ⟨_,_,_,rfl,by intro j hj;simp at hj ⊢;omega⟩ (ja F (by simp[H.only]))
 refine ⟨.value (.slice (some ⟨w.heap.size,0,none⟩) l.length C),_,_,G',?_,.inl rfl,T1,R1,?_⟩
 ·simp only[execOp,hop,r,Sem.run_bind,hrun,Result.andThen_ok,Sem.run_pure]
 ·unfold ak
  refine ⟨d1,.inl ⟨C,_,_,_,by rw[i1],⟨hge,by omega⟩,(fun _ h=>by cases h),by rw[i1];exact hp.new,by simp[u8V];omega⟩⟩
theorem Bl {src dst e:TypeId} {z:Operand} {y:Opd} {id:Nat} {cp:Option Nat} {l:List UInt8} (hop:o.op= .convert src dst z) (hs:P.underlying src=some (.slice e)) (he:P.underlying e=some (.int .u8)) (hd:P.underlying dst=some .string)
  (hy:opd P src z=some y) (hx:ev t y= .tsl 1 id 0 l.length cp) (ho:h.objs id=some (o9 l)) (hl:0<l.length):Loc P o t h (.str l) h ⟨[id],[],[]⟩:=by
 refine ⟨_,_,cF h ho,fun G w a ht R F=>?_⟩
 have r:=ao hy ht
 rw[hx] at r
 simp only[ak] at r
 obtain ⟨hd1,⟨C,c,T1,fr1,hv,hC,hk,hg1,hroom⟩|⟨h0,-⟩⟩:=r
 ·obtain ⟨-,-,-,rest,T,fr,hg,-⟩:=R.obj id (o9 l) (by simp[H.only,upd])
  have hc:∀j v,(u8V l)[j]? =some v→w.cell? ⟨G.ι id,j,none⟩=some v:=by
   intro j v hj
   have hj':j<(u8V l).length:=(List.getElem?_eq_some_iff.1 hj).1
   unfold World.cell?;simp only[hg];simpa [List.getElem?_append_left hj'] using hj
  have:=run_convert_bytes_arg w src e hs he (G.ι id) 0 l.length C (l.map fun b=>(b.toNat:Int)) (by simp) (fun i hi=>by
   rw[Nat.zero_add]
   refine hc i _ ?_
   simp[u8V,List.getElem?_eq_getElem hi,List.getD]) dst hd
  refine ⟨.value (.string ⟨l.toArray⟩),_,w,G,?_,.inl rfl,Trans.refl _ _ _,R,by simp only[ak]⟩
  have hstr:strOfNums (l.map fun b=>(b.toNat:Int))=⟨l.toArray⟩:=by
   simp[strOfNums,Function.comp_def]
  rw[hstr] at this
  simp[execOp,hop,hv,this]
 ·omega
theorem yX {ops:Array Oper} {i:Nat} {o:Oper} {it:aw} {t:Tm} {h h':H} {x:AV} {en:Ent} (ho:ops[i]? =some o) (hit:bm P N ops o=some it) (hg:guardOf t it.guard=some true) (hn:it.op≠ .dead) (hr:qy it.op=false)
  (hx:∀t',(∀y∈bf it.op,ev t' y=ev t y)→cOp P o=some it.op→Loc P o t' h x h' en):
  ∃h1 h1',Touch h h1 h1' h' en∧fC P ops i o t h1 x h1':=by
 unfold bm at hit
 split at hit
 ·rename_i op g hop hgd
  split at hit<;>cases hit
  rename_i hcond
  simp only[Bool.and_eq_true] at hcond
  have hop:=fA hop hn hr
  obtain ⟨h1,h1',tc,loc⟩:=hx (gM (names ops o) t) (gZ hcond.2) hop
  refine ⟨h1,h1',tc,fun G w a ht R F K Q hK ro=>?_⟩
  obtain ⟨nx,v,w',G',e1,e2,T1,R1,V⟩:=loc G w a (eA ht) R F
  unfold wpOpIn
  rw[ho]
  simp only[bN hgd ht hg,if_true]
  refine ⟨fun _ _=>trivial,?_⟩
  rw[Oper.semAt_eq _ _ _ (dv hop),e1]
  rcases e2 with rfl|⟨rfl,rfl⟩
  ·rw[Oper.uponIn_value];exact hK G' w' v T1 R1 V
  ·rw[Oper.uponIn_skip];exact hK G' w' undef T1 R1 V
 ·cases hit
theorem ab.loc {it:aw} {its:List aw} {t:Tm} {h h':H} {en:Ent} {K:Tm→H→Prop} {x:AV} (hg:guardOf t it.guard=some true) (hn:it.op≠ .dead) (hr:qy it.op=false)
  (hx:∀(o:Oper) t',(∀y∈bf it.op,ev t' y=ev t y)→cOp P o=some it.op→Loc P o t' h x h' en)
  (rest:ab P N its (bD t it.dst x) h' K):ab P N (it::its) t h K:=
 ab.step (it:=it) (fun ops i o ho hit=>by
  obtain ⟨h1,h1',tc,run⟩:=yX ho hit hg hn hr (hx o)
  exact kP.mo (N:=N) (full:=false) (.inl tc) run) rest
theorem DV {y:Opd} (h:cOp P o=some (.conv .s2b y)):∃src dst e z,o.op= .convert src dst z∧P.underlying src=some .string∧P.underlying dst=some (.slice e)∧P.underlying e=some (.int .u8)∧opd P src z=some y:=by
 unfold cOp at h
 split at h
 case h_12 src dst z hop=>
  split at h
  ·cases h
  ·split at h<;>cases h
  ·split at h
   ·rename_i hq
    cases h
    exact ⟨_,_,_,z,hop,‹_›,‹_›,l8 hq.1,‹_›⟩
   ·cases h
  ·cases h
  ·split at h<;>cases h
  ·cases h
 all_goals first
  |(cases h;done)
  |(simp at h;done)
  |((repeat' split at h)<;>(try cases h)<;>(try simp at h);done)
  |skip
theorem DW {y:Opd} (h:cOp P o=some (.conv .b2s y)):∃src dst e z,o.op= .convert src dst z∧P.underlying src=some (.slice e)∧P.underlying dst=some .string∧P.underlying e=some (.int .u8)∧opd P src z=some y:=by
 unfold cOp at h
 split at h
 case h_12 src dst z hop=>
  split at h
  ·cases h
  ·split at h
   ·rename_i hq
    cases h
    exact ⟨_,_,_,z,hop,‹_›,‹_›,l8 hq.1,‹_›⟩
   ·cases h
  ·split at h<;>cases h
  ·cases h
  ·split at h<;>cases h
  ·cases h
 all_goals first
  |(cases h;done)
  |(simp at h;done)
  |((repeat' split at h)<;>(try cases h)<;>(try simp at h);done)
  |skip
theorem ab.op1 {it:aw} {its:List aw} {t:Tm} {h h':H} {en:Ent} {K:Tm→H→Prop} {x:AV} (hg:guardOf t it.guard=some true) (hx:aop (ev t) h it.op=some (x,h',en))
  (rest:ab P N its (bD t it.dst x) h' K):ab P N (it::its) t h K:=
 ab.step (it:=it) (fun ops i o ho hit=>by
  obtain ⟨h1,h1',tc,run⟩:=fD ho hit hg hx
  exact kP.mo (N:=N) (full:=false) (.inl tc) run) rest
variable {dst:Option Nat} {g:Option (Nat × Bool)} {its:List aw} {K:Tm→H→Prop} {y x:Opd} {l:List UInt8} {id off:Nat}
theorem ab.s2b (hg:guardOf t g=some true) (hx:ev t y= .str l) (hl:l.length≤1000000)
  (rest:ab P N its (bD t dst (.tsl 1 h.n 0 l.length none)) {h with objs:=upd h.objs h.n (some (o9 l)),n:=h.n+1} K):ab P N (⟨dst,g,.conv .s2b y⟩::its) t h K:=
 ab.loc hg (by simp) rfl (fun o t' e hc=>by
  obtain ⟨src,ds,el,z,h1,h2,h3,h4,h5⟩:=DV hc
  exact Bj h1 h2 h3 h4 h5 ((e y (by simp[bf])).trans hx) hl) rest
theorem ab.b2s {cp:Option Nat} (hg:guardOf t g=some true) (hx:ev t y= .tsl 1 id 0 l.length cp) (ho:h.objs id=some (o9 l)) (hl:0<l.length)
  (rest:ab P N its (bD t dst (.str l)) h K):ab P N (⟨dst,g,.conv .b2s y⟩::its) t h K:=
 ab.loc hg (by simp) rfl (fun o t' e hc=>by
  obtain ⟨src,ds,el,z,h1,h2,h3,h4,h5⟩:=DW hc
  exact Bl h1 h2 h4 h3 h5 ((e y (by simp[bf])).trans hx) ho hl) rest
end
end Go.Av
end
section
namespace Go.Av
section
variable {P:Program} {N:Nat} {h:H} {G:aB} {w:World}
end
end Go.Av
end
section
namespace Go.Av
section
variable {P:Program} {N:Nat}
def ji (P:Program) (id:Nat) (args:List AV) (h:H) (Q:AV→H→Prop):Prop:=∃r h',mQ P id args h r h'∧h.n≤h'.n∧h.m≤h'.m∧Q r h'
theorem ab.yield {dst:Option Nat} {g:Option (Nat × Bool)} {id:Nat} {y:Opd} {l:List Opd} {its:List aw} {t:Tm} {h:H} {K:Tm→H→Prop} {vals:List AV} {Q:AV→H→Prop}
  (hg:guardOf t g=some true) (hy:ev t y= .yld id) (hs:af (l.map (ev t)) vals) (hc:ji P id vals h Q)
  (rest:∀r h',Q r h'→h.n≤h'.n→h.m≤h'.m→ab P N its (bD t dst r) h' K):ab P N (⟨dst,g,.callv y l⟩::its) t h K:=by
 obtain ⟨r,h',hc,hn,hm,hq⟩:=hc
 exact ab.step (fun ops i o ho hit=>mS.full ⟨hn,hm⟩ (te ho hit hg rfl hy hs hc)) (rest r h' hq hn hm)
def dY (P:Program) (f:FuncId) (args:List AV) (h:H) (Q:AV→H→Prop):Prop:=∃r h',aN P f args h r h'∧h.n≤h'.n∧h.m≤h'.m∧Q r h'
theorem aI.fJ {f:FuncId} {ac:AC} {args:List AV} {ds:List RV} {h:H} {Q:AV→H→Prop} (hF:aI P f N ac ds) (hl:args.length≤N)
  (hw:Wp P N ac ⟨eh args,h⟩ fun e s'=>gq e∧∃q,gh ds s'.t s'.h=some q∧Q q s'.h):dY P f args h Q:=by
 obtain ⟨q,h',hc,hq,hn,hm⟩:=hF.dC (Q:=fun q h'=>Q q h'∧h.n≤h'.n∧h.m≤h'.m) hl (hw.nm.mono fun e s' ⟨⟨h1,q,h2,h3⟩,h4,h5⟩=>⟨h1,q,h2,h3,h4,h5⟩)
 exact ⟨q,h',hc,hn,hm,hq⟩
theorem dY.mono {f:FuncId} {args:List AV} {h:H} {Q Q':AV→H→Prop} (hc:dY P f args h Q) (hq:∀r h',Q r h'→Q' r h'):dY P f args h Q':=by
 obtain ⟨r,h',a,b,c,d⟩:=hc
 exact ⟨r,h',a,b,c,hq _ _ d⟩
theorem ab.bI {dst:Option Nat} {g:Option (Nat × Bool)} {f:FuncId} {l:List Opd} {its:List aw} {t:Tm} {h:H} {K:Tm→H→Prop} {vals:List AV} {Q:AV→H→Prop}
  (hg:guardOf t g=some true) (hs:af (l.map (ev t)) vals) (hc:dY P f vals h Q)
  (rest:∀r h',Q r h'→h.n≤h'.n→h.m≤h'.m→ab P N its (bD t dst r) h' K):ab P N (⟨dst,g,.call f l⟩::its) t h K:=by
 obtain ⟨r,h',hc,hn,hm,hq⟩:=hc
 exact ab.fc hg hs ⟨hn,hm⟩ hc (rest r h' hq hn hm)
theorem Wp.Bm {g:Opd} {ps:List Nat} {x y:AC} {t:Tm} {h:H} {Q:aA→St→Prop} {fi:FuncId} {fn:Func} {first caps:List AV} (hg:ev t g= .clo (.func fi) first caps) (hf:P.funcs[fi]? =some fn) (hfb:fn.body.isSome=true) (hfn:fn.name≠ "runtime.NumGoroutine")
  (hfresh:h.objs h.n=none)
  (hw:∀asg body,cCode P N asg=some x→cCode P N body=some y→dO asg=true→dO body=true→
   dY P fi (first++[.yld h.n]++caps) ⟨upd h.objs h.n (some (.loop N t ps asg body .ready none)),h.n+1,h.toks,h.m⟩ fun r h'=>∃t2 st pend e,h'.objs h.n=some (.loop N t2 ps asg body st pend)∧st≠ .busy∧kA pend e∧
    Q e ⟨t,{h' with objs:=fun j=>if j=h.n then none else h'.objs j}⟩):Wp P N (.p8 g ps x y) ⟨t,h⟩ Q:=by
 obtain ⟨f,n,T,m⟩:=h
 refine Wp.p8 hg hf hfb hfn hfresh fun asg body h1 h2 h3 h4=>?_
 obtain ⟨r,⟨f2,n2,T2,m2⟩,k1,k2,k3,t2,st,pend,e,k4,k5,k6,k7⟩:=hw asg body h1 h2 h3 h4
 exact ⟨r,f2,n2,T2,m2,t2,st,pend,e,k1,k2,k3,k4,k5,k6,k7⟩
theorem lD {id M:Nat} {h:H} {t:Tm} {ps:List Nat} {asg body:Code} {x y:AC} {args:List AV} {Q:AV→H→Prop} (ho:h.objs id=some (.loop M t ps asg body .ready none)) (ha:cCode P M asg=some x) (hb:cCode P M body=some y) (hna:dO asg=true) (hnb:dO body=true)
  (hl:args.length=ps.length) (hps:∀p∈ps,p<M)
  (hw:Wp P M x ⟨iG t ps args,h⟩ fun e s=>e= .normal∧∃t1,s.h.objs id=some (.loop M t1 ps asg body .ready none)∧
   Wp P M y ⟨s.t,{s.h with objs:=upd s.h.objs id (some (.loop M t1 ps asg body .busy none))}⟩ fun e2 s2=>∃t2 b st pend,s2.h.objs id=some (.loop M t2 ps asg body .busy none)∧iH e2 b st pend∧
    (h.n≤s2.h.n→h.m≤s2.h.m→Q (.bool b) {s2.h with objs:=upd s2.h.objs id (some (.loop M t2 ps asg body st pend))})):ji P id args h Q:=by
 obtain ⟨f,n,T,m⟩:=h
 obtain ⟨r,h',hy,hn,hm,hq⟩:=yU (P:=P) (Q:=fun r h'=>n≤h'.n∧m≤h'.m∧Q r h') ho ha hb hna hnb hl hps (by
  refine hw.nm.mono ?_
  rintro e s ⟨⟨rfl,t1,k1,k2⟩,k3,k4⟩
  refine ⟨rfl,t1,k1,k2.nm.mono ?_⟩
  rintro e2 s2 ⟨⟨t2,b,st,pend,q1,q2,q3⟩,q4,q5⟩
  have e4:n≤s2.h.n:=Nat.le_trans k3 q4
  have e5:m≤s2.h.m:=Nat.le_trans k4 q5
  exact ⟨t2,b,st,pend,q1,q2,e4,e5,q3 e4 e5⟩)
 exact ⟨r,h',hy,hn,hm,hq⟩
end
end Go.Av
end
section
namespace Go.Av
section
variable {P:Program} {N:Nat} {ops:Array Oper}
def qc (P:Program) (ops:Array Oper) (i:Nat) (o:Oper) (t:Tm) (h:H) (v:Value) (h':H):Prop:=
 (h.n≤h'.n∧h.m≤h'.m)∧∀G w a,bK G w t a→aM G h w→bH G h h'→∀(K:Act→World→Prop) Q,
  (∀G' w',Trans G w h G' w' h'→aM G' h' w'→Q (.panic [{v:=v,recovered:=false}]) a w')→∀ro,wpOpIn (rd ro) 0 P ops Q i K a w
theorem qc.of {i:Nat} {o:Oper} {t:Tm} {h h1 h1' h':H} {v:Value} {en:Ent} (tc:Touch h h1 h1' h' en) (run:jd P ops i o t h1 v h1'):qc P ops i o t h v h':=by
 have e3:h'.n=h1'.n:=by rw[tc.eq];rfl
 have e4:h'.m=h1'.m:=by rw[tc.eq];rfl
 have e1:=tc.n
 have e2:=tc.m
 have l1:=tc.le
 have l2:=tc.lem
 refine ⟨⟨by omega,by omega⟩,fun G w a ht R U K Q hK ro=>?_⟩
 have F:bH G h1 h1':=U.sub (by omega) (by omega) (by omega) (by omega)
 refine run G w a (fun k _=>ht k) (R.sub tc.sub) F _ Q (fun G' w' T1 R1=>?_) ro
 obtain ⟨R2,T2⟩:=frame R tc.sub tc.n tc.m R1 T1 F
 rw[←tc.eq] at R2 T2
 exact hK G' w' T2 R2
theorem qc.full {i:Nat} {o:Oper} {t:Tm} {h h':H} {v:Value} (hn:h.n≤h'.n∧h.m≤h'.m) (run:jd P ops i o t h v h'):qc P ops i o t h v h':=
 ⟨hn,fun G w a ht R U K Q hK ro=>run G w a (fun k _=>ht k) R U K Q hK ro⟩
inductive lE (P:Program) (ops:Array Oper):Nat→Tm→H→Value→H→Prop where
 |here {i:Nat} {o:Oper} {t:Tm} {h h':H} {v:Value} (ho:ops[i]? =some o) (run:qc P ops i o t h v h'):lE P ops i t h v h'
 |cons {i:Nat} {o:Oper} {t:Tm} {h h2 h':H} {x:AV} {v:Value} (ho:ops[i]? =some o) (run:mS P ops i o t h x h2) (rest:lE P ops (i+1) (bD t o.dst x) h2 v h'):lE P ops i t h v h'
theorem lE.nm {i:Nat} {t:Tm} {h h':H} {v:Value} (c:lE P ops i t h v h'):h.n≤h'.n∧h.m≤h'.m:=by
 induction c with
 |here ho run=>exact run.1
 |cons ho run rest ih=>have:=run.1;omega
theorem vd (ro:Option Nat) {Q:Exit→Act→World→Prop} (hN:∀(i:Nat) o d,ops[i]? =some o→o.dst=some d→d<N):∀{i:Nat} {t:Tm} {h h':H} {v:Value},lE P ops i t h v h'→
  ∀(G:aB) (w:World) (a:Act),a.tmps.size=N→bK G w t a→aM G h w→bH G h h'→
   (∀G' w' a',Trans G w h G' w' h'→aM G' h' w'→a'.tmps.size=N→a'.defers=a.defers→Q (.panic [{v:=v,recovered:=false}]) a' w')→wpOpsIn (rd ro) 0 P ops Q (List.range' i (ops.size - i)) a w:=by
 intro i t h h' v hc
 induction hc with
 | @here i o t h h' v ho run=>
  intro G w a hs ht R U hq
  have hi:i<ops.size:=(Array.getElem?_eq_some_iff.1 ho).1
  have:ops.size - i=(ops.size - (i+1))+1:=by omega
  rw[this,List.range'_succ,wpOpsIn_cons]
  exact run.2 G w a ht R U _ Q (fun G' w' T R'=>hq G' w' a T R' hs rfl) ro
 | @cons i o t h h2 h' x v ho run rest ih=>
  intro G w a hs ht R U hq
  have hi:i<ops.size:=(Array.getElem?_eq_some_iff.1 ho).1
  have:ops.size - i=(ops.size - (i+1))+1:=by omega
  rw[this,List.range'_succ,wpOpsIn_cons]
  have nm:=rest.nm
  have nm2:=run.1
  refine run.2 G w a ht R (U.sub (Nat.le_refl _) nm.1 (Nat.le_refl _) nm.2) _ Q (fun G' w' y T2 R2 V=>?_) ro
  refine ih G' w' _ (by rw[jF];exact hs) (l9 (ht.mono R T2) V fun k hk=>by rw[hs];exact hN i o k ho hk) R2 (U.step T2) fun G'' w'' a'' T3 h2 h3 h4=>?_
  exact hq G'' w'' a'' (T2.trans R R2 T3) h2 h3 (h4.trans (put_defers _ _ _))
def aR (P:Program) (N:Nat) (items:List aw) (t:Tm) (h:H) (v:Value) (h':H):Prop:=
 ∀ops i,i≤ops.size→cG P N ops (ops.toList.drop i)=some items→lE P ops i t h v h'
theorem aR.step {it:aw} {its:List aw} {t:Tm} {h h2 h':H} {x:AV} {v:Value}
  (run:∀(ops:Array Oper) i o,ops[i]? =some o→bm P N ops o=some it→mS P ops i o t h x h2) (rest:aR P N its (bD t it.dst x) h2 v h'):aR P N (it::its) t h v h':=by
 intro ops i hi hc
 obtain ⟨o,ho,hit,hi',hc'⟩:=bG hi hc
 have ch:=rest ops (i+1) hi' hc'
 exact .cons ho (run ops i o ho hit) (by rw[←qH hit];exact ch)
theorem aR.here {it:aw} {its:List aw} {t:Tm} {h h':H} {v:Value}
  (run:∀(ops:Array Oper) i o,ops[i]? =some o→bm P N ops o=some it→qc P ops i o t h v h'):aR P N (it::its) t h v h':=by
 intro ops i hi hc
 obtain ⟨o,ho,hit,hi',hc'⟩:=bG hi hc
 exact .here ho (run ops i o ho hit)
theorem Wp.yY {items:List aw} {s:St} {Q:aA→St→Prop} {v:Value} {h':H} (h:aR P N items s.t s.h v h') (hq:Q (.panic v) ⟨fun _=> .any,h'⟩):Wp P N (.reg items none) s Q:=by
 intro code hc
 obtain ⟨id,ops,draw,rfl,hi,hd⟩:=mf hc
 have ch:=h ops 0 (Nat.zero_le _) (by simpa using hi)
 have nm:=ch.nm
 obtain ⟨cl,ci⟩:=gf hi
 have hN:∀(i:Nat) o d,ops[i]? =some o→o.dst=some d→d<N:=by
  intro i o d ho hdd
  have hlt:i<ops.size:=(Array.getElem?_eq_some_iff.1 ho).1
  have hit:i<items.length:=by rw[cl];simpa using hlt
  have:=ci i o items[i] (by simpa using ho) (List.getElem?_eq_getElem hit)
  generalize items[i]=it at this
  unfold bm at this
  split at this
  ·split at this<;>cases this
   rename_i hcond
   simp only[Bool.and_eq_true] at hcond
   have:=hcond.1
   rw[hdd] at this
   simpa using this
  ·cases this
 refine ⟨.panic v,⟨fun _=> .any,h'⟩,⟨nm,fun ro okc G w a r F=>?_⟩,hq⟩
 rcases hd with ⟨rfl,-⟩|⟨-,-,-,hn⟩
 ·refine wpIn_region ?_
  rw[List.range_eq_range']
  have:=vd ro (Q:=fun e' a' w'=>(aA.panic v).dA e'∧jJ w a.defers a'.defers∧∃G',Trans G w s.h G' w' h'∧Rel N ⟨fun _=> .any,h'⟩ G' w' a') hN ch G w a r.size r.t r.h F
   (fun G' w' a' T1 R1 s1 d1=>⟨rfl,by rw[d1];exact .refl,G',T1,⟨s1,fun _=>by simp[ak],R1,by rw[d1];exact r.df.mono T1⟩⟩)
  simpa using this
 ·cases hn
end
section
variable {P:Program} {T:FT}
end
end Go.Av
end
section
namespace Go.Av
section
variable {P:Program} {N:Nat}
theorem ay.eval {p:Option (List (Nat × Nat))}:∀{items its:List aw} {t t':Tm} {h h':H} {log log':List Ent} {R:Value→H→Prop},bL items t h log=(its,t',h',log')→ay P N p its t' h' log' R→ay P N p items t h log R
 |[],its,t,t',h,h',log,log',R,he,hw=>by simp only[bL,Prod.mk.injEq] at he;obtain ⟨rfl,rfl,rfl,rfl⟩:=he;exact hw
 |it::items,its,t,t',h,h',log,log',R,he,hw=>by
  simp only[bL] at he
  split at he
  ·rename_i hg
   split at he
   ·rename_i x h2 en hx
    have rest:=ay.eval he hw
    intro ops i hi hl hc
    obtain ⟨o,ho,hit,hi',hc'⟩:=bG hi hc
    obtain ⟨h1,h1',tc,run⟩:=fD ho hit hg hx
    obtain ⟨D,recs,t',hh',j,rj,oj,itj,v,A,hR⟩:=rest ops (i+1) hi' (by simp[hl]) hc'
    have hdst:it.dst=o.dst:=by
     unfold bm at hit
     split at hit
     ·split at hit<;>cases hit;rfl
     ·cases hit
    have hij:=A.ij
    refine ⟨D,⟨t,h,h1,h1',h2,x,en⟩::recs,t',hh',j,rj,oj,itj,v,⟨.cons ho rfl rfl tc (fun _=>run) (by rw[←hdst];exact A.ch),?_,by omega,A.hoj,A.it,A.tj,A.run,A.Dj,A.Dk,?_,?_⟩,hR⟩
    ·have e:=A.hrj
     rw[show j - i=(j - (i+1))+1 by omega]
     simpa using e
    ·intro k r it' hr hit' ht
     cases k with
     |zero=>
      simp at hr hit';subst hr hit'
      rcases rJ ht hx with h|⟨n,y,h⟩
      ·exact h
      ·rw[h] at ht;simp[bg] at ht
     |succ k=>simp at hr hit';exact A.e0 k r it' hr hit' ht
    ·intro l hl'
     have:=A.pairs l hl'
     simpa using this
   ·simp only[Prod.mk.injEq] at he;obtain ⟨rfl,rfl,rfl,rfl⟩:=he;exact hw
  ·rename_i hg
   exact ay.step (aV h) (fun ops i o ho hit=>fp ho hit hg) (fun _=>rfl) (ay.eval he hw)
  ·simp only[Prod.mk.injEq] at he;obtain ⟨rfl,rfl,rfl,rfl⟩:=he;exact hw
def G9 (p:Option (List (Nat × Nat))) (log:List Ent):Prop:=match p with
 |none=>True
 |some l=>ar l (log.reverse++[aC])∧DG l log.length (log.reverse++[aC])=true
theorem Wp.rU {items:List aw} {p:Option (List (Nat × Nat))} {s:St} {Q:aA→St→Prop} {t':Tm} {h':H} {log:List Ent} {dst:Option Nat} {f:FuncId} {l:List Opd} {vals:List AV} {v:Value}
  (he:fM items s.t s.h []=some ([⟨dst,none,.call f l⟩],t',h',log)) (hs:af (l.map (ev t')) vals) (hc:AU P f vals v) (hp:G9 p log) (hq:Q (.panic v) ⟨fun _=> .any,h'⟩):Wp P N (.reg items p) s Q:=by
 refine Wp.lB (ay.eval (aZ he) ?_)
 refine ay.here (R:=fun v h'=>Q (.panic v) ⟨fun _=> .any,h'⟩) (en:=aC) rfl (aV h') (fun ops i o ho hit=>dD ho hit rfl rfl hs (hc h'.n h'.m)) (fun l hl=>?_) hq
 subst hl
 exact ⟨[],rfl,hp.1,hp.2⟩
theorem Wp.cH {items:List aw} {p:Option (List (Nat × Nat))} {y:AC} {s:St} {Q:aA→St→Prop} {t':Tm} {h':H} {log:List Ent} {dst:Option Nat} {f:FuncId} {l:List Opd} {vals:List AV} {v:Value}
  (he:fM items s.t s.h []=some ([⟨dst,none,.call f l⟩],t',h',log)) (hs:af (l.map (ev t')) vals) (hc:AU P f vals v) (hp:G9 p log) (hq:Q (.panic v) ⟨fun _=> .any,h'⟩):Wp P N (.seq (.reg items p) y) s Q:=
 Wp.seq (Wp.rU he hs hc hp (by simpa [aA.andThen] using hq))
theorem ab.rK {dst:Option Nat} {g:Option (Nat × Bool)} {f:FuncId} {fn:Func} {y:Opd} {l:List Opd} {its:List aw} {t:Tm} {h:H} {K:Tm→H→Prop} {first caps vals:List AV} {r:AV} (hg:guardOf t g=some true) (hy:ev t y= .clo (.func f) first caps)
  (hf:P.funcs[f]? =some fn) (hb:fn.body.isSome=true) (hn:fn.name≠ "runtime.NumGoroutine") (hs:af (first++l.map (ev t)++caps) vals) (hc:aE P f vals r)
  (rest:ab P N its (bD t dst r) h K):ab P N (⟨dst,g,.callv y l⟩::its) t h K:=
 ab.step (fun ops i o ho hit=>kP.mo (N:=N) (full:=false) (.inl (aV h)) (nK ho hit hg rfl hy hf hb hn hs (hc h.n h.m))) rest
theorem aR.eval:∀{items its:List aw} {t t':Tm} {h h2 h':H} {log log':List Ent} {v:Value},bL items t h log=(its,t',h2,log')→aR P N its t' h2 v h'→aR P N items t h v h'
 |[],its,t,t',h,h2,h',log,log',v,he,hw=>by simp only[bL,Prod.mk.injEq] at he;obtain ⟨rfl,rfl,rfl,rfl⟩:=he;exact hw
 |it::items,its,t,t',h,h2,h',log,log',v,he,hw=>by
  simp only[bL] at he
  split at he
  ·rename_i hg
   split at he
   ·rename_i x h3 en hx
    have rest:=aR.eval he hw
    refine aR.step (fun ops i o ho hit=>?_) rest
    obtain ⟨h1,h1',tc,run⟩:=fD ho hit hg hx
    exact kP.mo (N:=N) (full:=false) (.inl tc) run
   ·simp only[Prod.mk.injEq] at he;obtain ⟨rfl,rfl,rfl,rfl⟩:=he;exact hw
  ·rename_i hg
   exact aR.step (fun ops i o ho hit=>kP.mo (N:=N) (full:=false) (.inl (aV h)) (fp ho hit hg)) (aR.eval he hw)
  ·simp only[Prod.mk.injEq] at he;obtain ⟨rfl,rfl,rfl,rfl⟩:=he;exact hw
theorem Wp.pa {items its:List aw} {s:St} {Q:aA→St→Prop} {t':Tm} {h2 h':H} {log:List Ent} {dst:Option Nat} {f:FuncId} {l:List Opd} {vals:List AV} {v:Value}
  (he:fM items s.t s.h []=some (⟨dst,none,.call f l⟩::its,t',h2,log)) (hs:af (l.map (ev t')) vals) (hn:h2.n≤h'.n∧h2.m≤h'.m) (hc:di P f vals h2 v h') (hq:Q (.panic v) ⟨fun _=> .any,h'⟩):Wp P N (.reg items none) s Q:=
 Wp.yY (aR.eval (aZ he) (aR.here fun ops i o ho hit=>qc.full hn (dD ho hit rfl rfl hs hc))) hq
theorem Wp.tf {items its:List aw} {y:AC} {s:St} {Q:aA→St→Prop} {t':Tm} {h2 h':H} {log:List Ent} {dst:Option Nat} {f:FuncId} {l:List Opd} {vals:List AV} {v:Value}
  (he:fM items s.t s.h []=some (⟨dst,none,.call f l⟩::its,t',h2,log)) (hs:af (l.map (ev t')) vals) (hn:h2.n≤h'.n∧h2.m≤h'.m) (hc:di P f vals h2 v h') (hq:Q (.panic v) ⟨fun _=> .any,h'⟩):Wp P N (.seq (.reg items none) y) s Q:=
 Wp.seq (Wp.pa he hs hn hc (by simpa [aA.andThen] using hq))
theorem Wp.nmQ {c:AC} {s:St} {Q:aA→St→Prop} (h:Wp P N c s Q):Wp P N c s (fun e s'=>(s.h.n≤s'.h.n∧s.h.m≤s'.h.m)∧Q e s'):=
 fun code hc=>let ⟨e,s',r,q⟩:=h code hc;⟨e,s',r,r.1,q⟩
theorem aI.tg {f:FuncId} {ac:AC} {args:List AV} {h:H} {ds:List RV} {Q:Value→H→Prop} (hF:aI P f N ac ds) (hl:args.length≤N) (hw:Wp P N ac ⟨eh args,h⟩ fun e s'=>∃v,e= .panic v∧Q v s'.h):∃v h',di P f args h v h'∧(h.n≤h'.n∧h.m≤h'.m)∧Q v h':=
 hF.DJ (Q:=fun v h'=>(h.n≤h'.n∧h.m≤h'.m)∧Q v h') hl (hw.nmQ.mono fun e s' ⟨a,v,b,c⟩=>⟨v,b,a,c⟩)
theorem aI.rW {f:FuncId} {ac:AC} {args:List AV} {h:H} {ds:List RV} {Q:AV→H→Prop} (hF:aI P f N ac ds) (hl:args.length≤N) (hw:Wp P N ac ⟨eh args,h⟩ fun e s'=>gq e∧∃r,gh ds s'.t s'.h=some r∧Q r s'.h):∃r h',aN P f args h r h'∧(h.n≤h'.n∧h.m≤h'.m)∧Q r h':=
 hF.dC (Q:=fun r h'=>(h.n≤h'.n∧h.m≤h'.m)∧Q r h') hl (hw.nmQ.mono fun e s' ⟨a,b,r,c,d⟩=>⟨b,r,c,a,d⟩)
theorem aF.Ha (t:Tm) (h:H) (id o1:Nat) {rows:List (List AV)} {sz:Nat} {c:Option Nat} {rest:List AV} (hr:∀x∈rows,x.length=sz) (hne:o1≠id) (ho:h.objs id=some (.cells rows.flatten)) (h1:h.objs o1=some (.cells (.tsl sz id 0 rows.length c::rest))):
  aF ⟨t,h⟩ ⟨fun j=>unT h (fun k=>decide (k=id)) (t j),{h.drop (fun k=>decide (k=id)) with objs:=upd (h.drop fun k=>decide (k=id)).objs o1 (some (.cells (.sl sz (rows.map .agg) .any::rest)))}⟩ where
 n:=Nat.le_refl _
 m:=Nat.le_refl _
 go:=fun N G w a r _=>by
  have R:=ml r.h (fun k=>decide (k=id))
  have hd1:(h.drop fun k=>decide (k=id)).objs o1=some (.cells (.tsl sz id 0 rows.length c::rest)):=by
   simp only[H.drop]
   rw[if_neg (by simpa using hne)]
   exact h1
  have hex:∀j o,upd (h.drop fun k=>decide (k=id)).objs o1 (some (.cells (.sl sz (rows.map .agg) .any::rest))) j=some o→∃o',(h.drop fun k=>decide (k=id)).objs j=some o':=fun j o hj=>by
   simp only[upd] at hj
   by_cases e:j=o1
   ·subst e;exact ⟨_,hd1⟩
   ·rw[if_neg e] at hj;exact ⟨o,hj⟩
  have T2:=Trans.G8 (aT (G:=G) (h:=h) (w:=w) (fun k=>decide (k=id))) hex
  refine ⟨G.frz h _,T2,⟨r.size,fun j=>oi r.h _ _ _ (r.t j),⟨fun j o hj=>?_,fun i j o o' a b e=>?_,R.tok,R.tinj⟩,r.df.mono T2⟩⟩
  ·simp only[upd] at hj
   by_cases e:j=o1
   ·subst e
    rw[if_pos rfl] at hj
    cases hj
    obtain ⟨p1,p2,p3,p4⟩:=R.obj _ _ hd1
    refine ⟨p1,p2,p3,?_⟩
    obtain ⟨-,-,-,vs,rst,T,fr,y1,y2,y3,y4⟩:=r.h.obj _ _ h1
    refine ⟨vs,rst,T,fr,y1,?_,y3,y4⟩
    simp only[an] at y2 ⊢
    obtain ⟨v,us,e1,e2,e3⟩:=y2
    exact ⟨v,us,e1,s9 r.h hr ho (by simp) e2,an.mono r.h (aT _) _ _ e3⟩
   ·rw[if_neg e] at hj
    exact R.obj j o hj
  ·obtain ⟨o2,a2⟩:=hex _ _ a
   obtain ⟨o3,b2⟩:=hex _ _ b
   exact R.inj _ _ _ _ a2 b2 e
theorem Wp.xc {g:Opd} {ps:List Nat} {x y:AC} {t:Tm} {f:yS} {n m:Nat} {T:List Nat} {Q:aA→St→Prop} {fi:FuncId} {fn:Func} {first caps:List AV} (hg:ev t g= .clo (.func fi) first caps) (hf:P.funcs[fi]? =some fn) (hfb:fn.body.isSome=true) (hfn:fn.name≠ "runtime.NumGoroutine")
  (hfresh:f n=none)
  (hw:∀asg body,cCode P N asg=some x→cCode P N body=some y→dO asg=true→dO body=true→∃v f2 n2 T2 m2,
   di P fi (first++[.yld n]++caps) ⟨upd f n (some (.loop N t ps asg body .ready none)),n+1,T,m⟩ v ⟨f2,n2,T2,m2⟩∧n+1≤n2∧m≤m2∧Q (.panic v) ⟨fun _=> .any,⟨f2,n2,T2,m2⟩⟩):Wp P N (.p8 g ps x y) ⟨t,⟨f,n,T,m⟩⟩ Q:=by
 intro code hc
 obtain ⟨z,qs,asg,body,rfl,c1,c2,c3,c4,c5,c6⟩:=qF hc
 obtain ⟨v,f2,n2,T2,m2,bI,hn2,hm2,hq⟩:=hw asg body c3 c4 c5 c6
 refine ⟨.panic v,_,⟨⟨by simp only;omega,by simp only;omega⟩,fun ro okc G w a rel F=>?_⟩,hq⟩
 obtain rfl:ro=none:=by
  rcases okc with h|h
  ·exact h
  ·simp[dO] at h
 have hz:ak G w (.clo (.func fi) first caps) (a.eval z):=by rw[←hg];exact ao c1 rel.t
 simp only[ak] at hz
 obtain ⟨vs,us,hz,hv1,hv2⟩:=hz
 refine wpIn_rangeFunc (F:=rd none) (n:=0) fun fid _=>?_
 let D:=w.heap.size
 let bZ:Loop:={state:= .ready,pending:=none,fn:=fid,tmps:=a.tmps,params:=qs,assign:=asg,body:=body,defers:=w.heap.size}
 let w1:=(w.alloc (.deferred (some []))).alloc (.loop bZ)
 have hD1:w1.heap[D]? =some (.deferred (some [])):=by
  show ((w.heap.push (.deferred (some []))).push (.loop bZ))[w.heap.size]? =_
  rw[Array.getElem?_push,if_neg (by simp),Array.getElem?_push,if_pos rfl]
 have hL1:w1.heap[D+1]? =some (.loop bZ):=by
  show ((w.heap.push (.deferred (some []))).push (.loop bZ))[w.heap.size+1]? =_
  rw[Array.getElem?_push,if_pos (by simp)]
 have hsz1:w1.heap.size=w.heap.size+2:=by show ((w.heap.push (.deferred (some []))).push (.loop bZ)).size=_;simp
 have hold:∀B,B<w.heap.size→w1.heap[B]? =w.heap[B]? :=by
  intro B hB
  show ((w.heap.push (.deferred (some []))).push (.loop bZ))[B]? =_
  rw[Array.getElem?_push,if_neg (by rw[Array.size_push];omega),Array.getElem?_push,if_neg (by omega)]
 have hndom:¬G.dom n:=F.1 n (Nat.le_refl _) (by simp only;omega)
 let G1:aB:={G with dom:=fun j=>G.dom j∨j=n,ι:=upd G.ι n (D+1),own:=fun B=>G.own B∨B=D+1}
 have hι1:∀j,G.dom j→G1.ι j=G.ι j:=fun j hj=>by
  simp only[G1,upd];rw[if_neg];rintro rfl;exact hndom hj
 have hιn:G1.ι n=D+1:=by simp[G1,upd]
 have hne:∀j o,f j=some o→j≠n:=fun j o h e=>by subst e;rw[hfresh] at h;cases h
 have hO:∀B,B<w.heap.size→H.O ⟨upd f n (some (.loop N t ps asg body .ready none)),n+1,T,m⟩ G1 B→H.O ⟨f,n,T,m⟩ G B:=by
  rintro B hB ⟨j,o,h1,h2⟩
  by_cases e':j=n
  ·subst e';rw[hιn] at h2;omega
  ·have h1':f j=some o:=by simpa [upd,e'] using h1
   exact ⟨j,o,h1',by rw[←hι1 j (rel.h.obj j o h1').1];exact h2⟩
 have Tr1:Trans G w ⟨f,n,T,m⟩ G1 w1 ⟨upd f n (some (.loop N t ps asg body .ready none)),n+1,T,m⟩:=by
  constructor
  ·exact fun _ x=> .inl x
  ·rintro j (h|rfl)
   ·exact .inl h
   ·exact .inr ⟨Nat.le_refl _,Nat.lt_succ_self _⟩
  ·exact hι1
  ·exact fun _ x=>x
  ·exact fun _=> .inl
  ·exact fun _ _=>rfl
  ·exact Nat.le_succ _
  ·exact Nat.le_refl _
  ·rw[hsz1];omega
  ·rfl
  ·rfl
  ·intro B hB;rw[hold B hB];exact bw.refl _
  ·exact fun B hB _ _=>hold B hB
  ·intro B hB _
   exact ⟨fun h=>h.resolve_right (by omega),.inl⟩
  ·exact fun _ _ _ _=>rfl
  ·intro B hB h1 h2 e' he'
   refine ⟨fun j hj=>?_,fun e'' he''=>?_⟩
   ·have:=hold B hB
    unfold World.cell?
    simp only[this]
   ·have he2:G.lim B=some e'':=he''
    rw[he'] at he2;cases he2;exact Nat.le_refl _
  ·exact hO
  ·exact fun _ _ h=>h
  ·intro j o h
   by_cases e':j=n
   ·subst e';exact .inr ⟨Nat.le_refl _,Nat.lt_succ_self _⟩
   ·exact .inl ⟨o,by simpa [upd,e'] using h⟩
  ·exact fun _=> .inl
 have R1:aM G1 ⟨upd f n (some (.loop N t ps asg body .ready none)),n+1,T,m⟩ w1:=by
  refine ⟨fun j o h=>?_,fun i j o o' h1 h2 h3=>?_,fun k hk=>⟨(rel.h.tok k hk).1,fun B e' he'=>?_⟩,rel.h.tinj⟩
  ·by_cases e':j=n
   ·subst e'
    have:o= .loop N t ps asg body .ready none:=by simpa [upd] using h.symm
    subst this
    refine ⟨.inr rfl,by rw[hιn];exact .inr rfl,by rw[hιn,hsz1];show w.heap.size+1<_;omega,bZ,by rw[hιn];exact hL1,rel.size,fun i=>ak.mono rel.h Tr1 _ _ (rel.t i),c2,rfl,rfl,rfl,rfl⟩
   ·have h':f j=some o:=by simpa [upd,e'] using h
    obtain ⟨a1,a2,a3,a4⟩:=rel.h.obj j o h'
    refine ⟨.inl a1,by rw[hι1 j a1];exact .inl a2,by rw[hι1 j a1,hsz1];omega,?_⟩
    rw[hι1 j a1,hold _ a3]
    exact a4.mono rel.h Tr1
  ·have low:∀k p,f k=some p→G1.ι k<w.heap.size:=fun k p hk=>by rw[hι1 k (rel.h.obj k p hk).1];exact (rel.h.obj k p hk).2.2.1
   by_cases e1:i=n
   ·by_cases e2:j=n
    ·rw[e1,e2]
    ·have:=low j o' (by simpa [upd,e2] using h2)
     rw[←h3,e1,hιn] at this
     omega
   ·have hi:f i=some o:=by simpa [upd,e1] using h1
    by_cases e2:j=n
    ·have:=low i o hi
     rw[h3,e2,hιn] at this
     omega
    ·have hj:f j=some o':=by simpa [upd,e2] using h2
     exact rel.h.inj i j o o' hi hj (by rw[←hι1 i (rel.h.obj i o hi).1,←hι1 j (rel.h.obj j o' hj).1];exact h3)
  ·obtain ⟨b1,b2,b3⟩:=(rel.h.tok k hk).2 B e' he'
   refine ⟨b1,?_,by rw[hsz1];omega⟩
   rintro (h|h)
   ·exact b2 h
   ·omega
 have F1:bH G1 ⟨upd f n (some (.loop N t ps asg body .ready none)),n+1,T,m⟩ ⟨f2,n2,T2,m2⟩:=F.step Tr1
 have hargs:an G1 w1 (first++[.yld n]++caps) (vs++[Value.func (.yield (D+1)) #[] #[]]++us):=by
  refine an.append (an.append (an.mono rel.h Tr1 _ _ hv1) ?_) (an.mono rel.h Tr1 _ _ hv2)
  simp only[an,ak]
  exact ⟨_,[],rfl,⟨.inr rfl,by rw[hιn]⟩,rfl⟩
 refine ⟨D+1,[{target:= .collected D,args:= #[]}],w1,{target:= .fn (.func fi) us.toArray,args:=vs.toArray++ #[Value.func (.yield (D+1)) #[] #[]]},w1,fi,(vs++[Value.func (.yield (D+1)) #[] #[]]++us).toArray,w1,?_,?_,fun _ _=>trivial,?_,fun h=>by simp[rd,Fence.wide] at h,jg ?_⟩
 ·exact run_enterLoop_outer fid a.tmps qs asg body
 ·have he:∀v,a.eval (.const v)=v:=fun _=>rfl
  simp[resolve,rangeCall,hz,Deferred.ofValue,he]
 ·simp[invoke,cZ w1 hf hfb hfn]
 ·refine (bI G1 w1 _ hargs R1 F1).mono ?_
  rintro e' w3 ⟨G3,rfl,T3,R3⟩
  have hDO1:¬H.O ⟨upd f n (some (.loop N t ps asg body .ready none)),n+1,T,m⟩ G1 D:=by
   rintro ⟨j,o,h1,h2⟩
   by_cases e':j=n
   ·subst e';rw[hιn] at h2;omega
   ·have h1':f j=some o:=by simpa [upd,e'] using h1
    have:=(rel.h.obj j o h1').2.2.1
    rw[hι1 j (rel.h.obj j o h1').1] at h2
    omega
  have hDT1:¬H.T ⟨upd f n (some (.loop N t ps asg body .ready none)),n+1,T,m⟩ G1 D:=by
   rintro ⟨k,hk,e',he'⟩
   have:=((rel.h.tok k hk).2 D e' he').2.2
   omega
  have hDlt:D<w1.heap.size:=by rw[hsz1];show w.heap.size<_;omega
  have hD3:w3.heap[D]? =some (.deferred (some [])):=(T3.keep D hDlt hDO1 hDT1).trans hD1
  have hDO3:¬H.O ⟨f2,n2,T2,m2⟩ G3 D:=fun h=>hDO1 (T3.O_new D hDlt h)
  have hDT3:¬H.T ⟨f2,n2,T2,m2⟩ G3 D:=fun h=>hDT1 (T3.T_new D hDlt h)
  have T03:Trans G w ⟨f,n,T,m⟩ G3 w3 ⟨f2,n2,T2,m2⟩:=Tr1.trans rel.h R1 T3
  have relEnd:Rel N ⟨fun _=> .any,⟨f2,n2,T2,m2⟩⟩ G3 w3 {a with defers:=[({target:= .collected D,args:= #[]}:Deferred)]++a.defers}:=by
   refine ⟨rel.size,fun i=>by simp[ak],R3,?_,?_⟩
   ·show ([({target:= .collected D,args:= #[]}:Deferred)]++a.defers).Nodup
    rw[List.singleton_append,List.nodup_cons]
    refine ⟨fun hm=>?_,rel.df.1⟩
    obtain ⟨D',e',h1,-⟩:=rel.df.2 _ hm
    simp only[Deferred.mk.injEq,Target.collected.injEq,and_true] at e'
    have:=rI h1
    rw[←e'] at this
    exact absurd this (Nat.lt_irrefl _)
   ·intro d hd
    rcases List.mem_append.1 hd with hd|hd
    ·rw[List.mem_singleton.1 hd]
     exact ⟨D,rfl,hD3,hDO3,hDT3⟩
    ·exact (rel.df.mono T03).2 d hd
  have hnew:jJ w a.defers ([({target:= .collected D,args:= #[]}:Deferred)]++a.defers):=by
   intro d hd
   rcases List.mem_append.1 hd with hd|hd
   ·rw[List.mem_singleton.1 hd];exact .inr ⟨D,Nat.le_refl _,rfl⟩
   ·exact .inl hd
  exact ⟨rfl,hnew,G3,T03,relEnd⟩
end
end Go.Av
end
section
namespace Go.Av
section
variable {P:Program} {N:Nat}
theorem ab.opT {dst:Option Nat} {g:Option (Nat × Bool)} {op:AOp} {its:List aw} {t:Tm} {h h':H} {en:Ent} {K:Tm→H→Prop} {x:AV} (hg:guardOf t g=some true) (hx:jA (ev t) h op=some (x,h',en))
  (rest:ab P N its (bD t dst x) h' K):ab P N (⟨dst,g,op⟩::its) t h K:=
 ab.step (it:=⟨dst,g,op⟩) (fun ops i o ho hit=>by
  obtain ⟨h1,h1',tc,run⟩:=mO ho hit hg hx
  exact kP.mo (N:=N) (full:=false) (.inl tc) run) rest
theorem ab.opK {dst:Option Nat} {g:Option (Nat × Bool)} {op:AOp} {its:List aw} {t:Tm} {h h':H} {en:Ent} {K:Tm→H→Prop} {x:AV} (hg:guardOf t g=some true) (hx:kO (ev t) h op=some (x,h',en))
  (rest:ab P N its (bD t dst x) h' K):ab P N (⟨dst,g,op⟩::its) t h K:=
 ab.step (it:=⟨dst,g,op⟩) (fun ops i o ho hit=>by
  obtain ⟨h1,h1',tc,run⟩:=mR ho hit hg hx
  exact kP.mo (N:=N) (full:=false) (.inl tc) run) rest
end
end Go.Av
end
section
namespace Go.Av
section
variable {P:Program} {N:Nat}
theorem fR (h:H) {id:Nat} {ob ob':Obj} {m':Nat} (ho:h.objs id=some ob) (hm:h.m≤m'):Touch h (.only (upd ah id (some ob)) [] h.n h.m) (.only (upd ah id (some ob')) [] h.n m') {h with objs:=upd h.objs id (some ob'),m:=m'} ⟨[],[id],[]⟩ where
 sub:=(cF h ho).sub
 n:=rfl
 m:=rfl
 eq:=H.ext (fun j=>by
  simp only[H.patch,H.only,upd,ah]
  by_cases e:j=id
  ·subst e;simp
  ·simp[e];omega) rfl (by simp[H.patch,H.only,dN]) rfl
 rd j x:=by
  simp only[H.only,upd,ah] at x
  split at x
  ·rename_i e;subst e;simp
  ·cases x
 wr id a b:=by simp only[H.only] at a b;omega
 chg j x hj:=by
  simp only[H.only,upd,ah] at x
  split at x
  ·rename_i e;subst e;simp at hj
  ·cases x
 tk t x:=by simp[H.only] at x
 tn t x:=by simp[H.only] at x
 le:=Nat.le_refl _
 lem:=hm
theorem pc (h:H) (ob ob2:Obj):Touch h (.only ah [] h.n h.m) (.only (upd (upd ah h.n (some ob)) (h.n+1) (some ob2)) [] (h.n+2) h.m) {h with objs:=upd (upd h.objs h.n (some ob)) (h.n+1) (some ob2),n:=h.n+2} ⟨[],[h.n,h.n+1],[]⟩ where
 sub:=(aV h).sub
 n:=rfl
 m:=rfl
 eq:=H.ext (fun j=>by
  simp only[H.patch,H.only,upd,ah]
  by_cases e:j=h.n
  ·subst e;simp
  ·by_cases e2:j=h.n+1
   ·subst e2;simp
   ·simp[e,e2];intro a b;omega) rfl (by simp[H.patch,H.only,dN]) rfl
 rd j x:=by simp[H.only,ah] at x
 wr id a b:=by simp only[H.only] at a b;simp;omega
 chg j x hj:=by simp[H.only,ah] at x
 tk t x:=by simp[H.only] at x
 tn t x:=by simp[H.only] at x
 le:=by simp[H.only]
 lem:=Nat.le_refl _
def mT (P:Program) (f:FuncId) (args:List AV) (id:Nat) (ob:Obj) (r:AV) (ob':Obj):Prop:=
 ∀n m,∃m',m≤m'∧aN P f args (.only (upd ah id (some ob)) [] n m) r (.only (upd ah id (some ob')) [] n m')
def DX (P:Program) (f:FuncId) (args:List AV) (id:Nat) (ob:Obj) (v:Value):Prop:=
 ∀n m,di P f args (.only (upd ah id (some ob)) [] n m) v (.only (upd ah id (some ob)) [] n m)
theorem ae.cT {dst:Option Nat} {g:Option (Nat × Bool)} {f:FuncId} {l:List Opd} {its:List aw} {t:Tm} {h:H} {log:List Ent} {K:Tm→H→List Ent→Prop} {vals:List AV} {r:AV} {id:Nat} {ob ob':Obj} (hg:guardOf t g=some true) (hs:af (l.map (ev t)) vals)
  (ho:h.objs id=some ob) (hc:mT P f vals id ob r ob') (rest:∀m',h.m≤m'→ae P N its (bD t dst r) {h with objs:=upd h.objs id (some ob'),m:=m'} (⟨[],[id],[]⟩::log) K):ae P N (⟨dst,g,.call f l⟩::its) t h log K:=by
 obtain ⟨m',hm,hc⟩:=hc h.n h.m
 exact ae.fc hg hs hc (fR h ho hm) (rest m' hm)
theorem ab.cT {dst:Option Nat} {g:Option (Nat × Bool)} {f:FuncId} {l:List Opd} {its:List aw} {t:Tm} {h:H} {K:Tm→H→Prop} {vals:List AV} {r:AV} {id:Nat} {ob ob':Obj} (hg:guardOf t g=some true) (hs:af (l.map (ev t)) vals)
  (ho:h.objs id=some ob) (hc:mT P f vals id ob r ob') (rest:∀m',h.m≤m'→ab P N its (bD t dst r) {h with objs:=upd h.objs id (some ob'),m:=m'} K):ab P N (⟨dst,g,.call f l⟩::its) t h K:=by
 obtain ⟨m',hm,hc⟩:=hc h.n h.m
 exact ab.step (fun ops i o ho' hit=>kP.mo (N:=N) (full:=false) (.inl (fR h ho hm)) (cN ho' hit hg rfl hs hc)) (rest m' hm)
theorem ay.cT {p:Option (List (Nat × Nat))} {dst:Option Nat} {g:Option (Nat × Bool)} {f:FuncId} {l:List Opd} {its:List aw} {t:Tm} {h:H} {log:List Ent} {R:Value→H→Prop} {vals:List AV} {r:AV} {id:Nat} {ob ob':Obj} (hg:guardOf t g=some true) (hs:af (l.map (ev t)) vals)
  (ho:h.objs id=some ob) (hc:mT P f vals id ob r ob') (rest:∀m',h.m≤m'→ay P N p its (bD t dst r) {h with objs:=upd h.objs id (some ob'),m:=m'} (⟨[],[id],[]⟩::log) R):ay P N p (⟨dst,g,.call f l⟩::its) t h log R:=by
 obtain ⟨m',hm,hc⟩:=hc h.n h.m
 exact ay.step (fR h ho hm) (fun ops i o ho' hit=>cN ho' hit hg rfl hs hc) (fun h=>by simp[bg] at h) (rest m' hm)
theorem ay.span {l:List (Nat × Nat)} {dst:Option Nat} {f:FuncId} {aa:List Opd} {its:List aw} {t:Tm} {h:H} {log:List Ent} {R:Value→H→Prop} {vals:List AV} {v:Value} {id:Nat} {ob:Obj} (hs:af (aa.map (ev t)) vals) (ho:h.objs id=some ob) (hc:DX P f vals id ob v)
  {ents:List Ent} (hr:eP l log.length its (log.length+1) dst.toList (bD t dst .any) h=some ents) (hp:ar l (log.reverse++⟨[id],[],[]⟩::ents)) (hP:yO l log.length (log.reverse++⟨[id],[],[]⟩::ents) h)
  (hq:∀n m,h.n≤n→h.m≤m→R v {h with n:=n,m:=m}):ay P N (some l) (⟨dst,none,.call f aa⟩::its) t h log R:=
 ay.Fo rfl (cF h ho) (fun ops i o ho' hit=>dD ho' hit rfl rfl hs (hc h.n h.m)) ⟨ents,hr,hp,hP⟩ hq
theorem ay.Bn {l:List (Nat × Nat)} {dst:Option Nat} {f:FuncId} {aa:List Opd} {its:List aw} {t:Tm} {h:H} {log:List Ent} {R:Value→H→Prop} {vals:List AV} {v:Value} (hs:af (aa.map (ev t)) vals) (hc:AU P f vals v)
  {ents:List Ent} (hr:eP l log.length its (log.length+1) dst.toList (bD t dst .any) h=some ents) (hp:ar l (log.reverse++aC::ents)) (hP:yO l log.length (log.reverse++aC::ents) h)
  (hq:∀n m,h.n≤n→h.m≤m→R v {h with n:=n,m:=m}):ay P N (some l) (⟨dst,none,.call f aa⟩::its) t h log R:=
 ay.Fo rfl (aV h) (fun ops i o ho' hit=>dD ho' hit rfl rfl hs (hc h.n h.m)) ⟨ents,hr,hp,hP⟩ hq
def Hb (l:List (Nat × Nat)) (j:Nat) (log:List Ent):Bool:=l.all fun (a,b)=>(!Nat.beq a j||(Nat.blt a b&&(log.getD b aC).tk.isEmpty))&&(!Nat.beq b j||o6 (log.getD a aC))
theorem dQ {l:List (Nat × Nat)} {j:Nat} {log:List Ent} {h':H} (h1:Hb l j log=true) (h2:∀e∈log.drop (j+1),∀id∈e.wr,h'.objs id=none):yO l j log h':=by
 intro a b hab
 unfold Hb at h1
 rw[List.all_eq_true] at h1
 have:=h1 _ hab
 simp only[Bool.and_eq_true,Bool.or_eq_true,Bool.not_eq_true',o6,List.isEmpty_iff] at this
 refine ⟨fun e=>?_,fun e=>?_⟩
 ·subst e
  obtain ⟨q1,q2⟩:=this.1.resolve_left (by simp)
  have hlt:a<b:=by rw[Nat.blt_eq] at q1;exact q1
  refine ⟨q2,fun id hid=>?_⟩
  by_cases hb:b<log.length
  ·have e1:log.getD b aC=log[b]:=by simp[List.getD,List.getElem?_eq_getElem hb]
   rw[e1] at hid
   refine h2 _ (List.mem_drop_iff_getElem.2 ⟨b - (a+1),by omega,?_⟩) id hid
   congr 1;omega
  ·have e1:log.getD b aC=aC:=by simp[List.getD,List.getElem?_eq_none (by omega:log.length≤b)]
   rw[e1] at hid;cases hid
 ·subst e
  obtain ⟨q1,q2⟩:=this.2.resolve_left (by simp)
  exact ⟨q2,q1⟩
theorem aR.cT {dst:Option Nat} {g:Option (Nat × Bool)} {f:FuncId} {l:List Opd} {its:List aw} {t:Tm} {h h':H} {v:Value} {vals:List AV} {r:AV} {id:Nat} {ob ob':Obj} {m':Nat} (hg:guardOf t g=some true) (hs:af (l.map (ev t)) vals)
  (ho:h.objs id=some ob) (hm:h.m≤m') (hc:aN P f vals (.only (upd ah id (some ob)) [] h.n h.m) r (.only (upd ah id (some ob')) [] h.n m')) (rest:aR P N its (bD t dst r) {h with objs:=upd h.objs id (some ob'),m:=m'} v h'):aR P N (⟨dst,g,.call f l⟩::its) t h v h':=
 aR.step (fun ops i o ho' hit=>kP.mo (N:=N) (full:=false) (.inl (fR h ho hm)) (cN ho' hit hg rfl hs hc)) rest
theorem aR.span {dst:Option Nat} {f:FuncId} {aa:List Opd} {its:List aw} {t:Tm} {h:H} {vals:List AV} {v:Value} {id:Nat} {ob:Obj} (hs:af (aa.map (ev t)) vals) (ho:h.objs id=some ob) (hc:DX P f vals id ob v):aR P N (⟨dst,none,.call f aa⟩::its) t h v h:=
 aR.here fun ops i o ho' hit=>qc.of (cF h ho) (dD ho' hit rfl rfl hs (hc h.n h.m))
theorem aR.Bn {dst:Option Nat} {f:FuncId} {aa:List Opd} {its:List aw} {t:Tm} {h:H} {vals:List AV} {v:Value} (hs:af (aa.map (ev t)) vals) (hc:AU P f vals v):aR P N (⟨dst,none,.call f aa⟩::its) t h v h:=
 aR.here fun ops i o ho' hit=>qc.of (aV h) (dD ho' hit rfl rfl hs (hc h.n h.m))
end
end Go.Av
end
section
set_option maxRecDepth 100000
namespace Go.Proofs.YtjnoobmaedgooaaGreat.C
open Go.Av
abbrev zM (n a:Nat):aw:=⟨some n,none,.mov (.t a)⟩
abbrev zm (n g:Nat)(b:Bool)(a:Nat):aw:=⟨some n,some (g,b),.mov (.t a)⟩
abbrev zK (n a:Nat):aw:=⟨some n,none,.nilck (.t a)⟩
abbrev zk (n g:Nat)(b:Bool)(a:Nat):aw:=⟨some n,some (g,b),.nilck (.t a)⟩
abbrev zF (n k a:Nat):aw:=⟨some n,none,.faddr k (.t a)⟩
abbrev zf (n g:Nat)(b:Bool)(k a:Nat):aw:=⟨some n,some (g,b),.faddr k (.t a)⟩
abbrev zL (n a:Nat):aw:=⟨some n,none,.load none (.t a)⟩
abbrev zl (n g:Nat)(b:Bool)(a:Nat):aw:=⟨some n,some (g,b),.load none (.t a)⟩
abbrev zW (n k a:Nat):aw:=⟨some n,none,.load (some k) (.t a)⟩
abbrev zw (n g:Nat)(b:Bool)(k a:Nat):aw:=⟨some n,some (g,b),.load (some k) (.t a)⟩
abbrev zE (n a k:Nat):aw:=⟨some n,none,.ext (.t a) k⟩
abbrev zN (n a:Nat):aw:=⟨some n,none,.un .not (.t a)⟩
abbrev zn (n g:Nat)(b:Bool)(a:Nat):aw:=⟨some n,some (g,b),.un .not (.t a)⟩
abbrev zO (n c a:Nat):aw:=⟨some n,none,.pick (.t c) (.c (.bool true)) (.t a)⟩
abbrev zA (n c a:Nat):aw:=⟨some n,none,.pick (.t c) (.t a) (.c (.bool false))⟩
abbrev zD (n:Nat)(v:AV):aw:=⟨some n,none,.mov (.c v)⟩
abbrev zG (n:Nat)(o:AOp):aw:=⟨some n,none,o⟩
abbrev zg (n g:Nat)(b:Bool)(o:AOp):aw:=⟨some n,some (g,b),o⟩
abbrev zH (o:AOp):aw:=⟨none,none,o⟩
abbrev zP (a:Nat):Opd:=.t a
theorem zz:(∀(n a:Nat),zM n a=⟨some n,none,.mov (.t a)⟩)∧(∀(n g:Nat) (b:Bool) (a:Nat),zm n g b a=⟨some n,some (g,b),.mov (.t a)⟩)∧(∀(n a:Nat),zK n a=⟨some n,none,.nilck (.t a)⟩)∧(∀(n g:Nat) (b:Bool) (a:Nat),zk n g b a=⟨some n,some (g,b),.nilck (.t a)⟩)∧(∀(n k a:Nat),zF n k a=⟨some n,none,.faddr k (.t a)⟩)∧(∀(n g:Nat) (b:Bool) (k a:Nat),zf n g b k a=⟨some n,some (g,b),.faddr k (.t a)⟩)∧(∀(n a:Nat),zL n a=⟨some n,none,.load none (.t a)⟩)∧(∀(n g:Nat) (b:Bool) (a:Nat),zl n g b a=⟨some n,some (g,b),.load none (.t a)⟩)∧(∀(n k a:Nat),zW n k a=⟨some n,none,.load (some k) (.t a)⟩)∧(∀(n g:Nat) (b:Bool) (k a:Nat),zw n g b k a=⟨some n,some (g,b),.load (some k) (.t a)⟩)∧(∀(n a k:Nat),zE n a k=⟨some n,none,.ext (.t a) k⟩)∧(∀(n a:Nat),zN n a=⟨some n,none,.un .not (.t a)⟩)∧(∀(n g:Nat) (b:Bool) (a:Nat),zn n g b a=⟨some n,some (g,b),.un .not (.t a)⟩)∧(∀(n c a:Nat),zO n c a=⟨some n,none,.pick (.t c) (.c (.bool true)) (.t a)⟩)∧(∀(n c a:Nat),zA n c a=⟨some n,none,.pick (.t c) (.t a) (.c (.bool false))⟩)∧(∀(n:Nat) (v:AV),zD n v=⟨some n,none,.mov (.c v)⟩)∧(∀(n:Nat) (o:AOp),zG n o=⟨some n,none,o⟩)∧(∀(n g:Nat) (b:Bool) (o:AOp),zg n g b o=⟨some n,some (g,b),o⟩)∧(∀(o:AOp),zH o=⟨none,none,o⟩)∧(∀(a:Nat),zP a=.t a):=⟨fun _ _=>rfl,fun _ _ _ _=>rfl,fun _ _=>rfl,fun _ _ _ _=>rfl,fun _ _ _=>rfl,fun _ _ _ _ _=>rfl,fun _ _=>rfl,fun _ _ _ _=>rfl,fun _ _ _=>rfl,fun _ _ _ _ _=>rfl,fun _ _ _=>rfl,fun _ _=>rfl,fun _ _ _ _=>rfl,fun _ _ _=>rfl,fun _ _ _=>rfl,fun _ _=>rfl,fun _ _=>rfl,fun _ _ _ _=>rfl,fun _=>rfl,fun _=>rfl⟩
def c3:AC:=(.seq (.reg [zG 1 (.box (.t 0)),zG 2 (.mov (.c (.bool false)))] none)
 (.seq (.seq (.reg [zW 11 1 1,zG 12 (.call 9 [(.t 11)]),zN 13 12] none)
 (.cond (.t 13) (.seq (.reg [zG 14 (.call 10 []),zM 2 14] none)
 .ret) .skip))
 (.seq (.reg [zW 16 1 1,zG 17 (.call 11 [(.t 16)]),zM 15 17,zE 18 15 0,zE 19 15 1,zM 3 18,zM 4 19] none)
 (.seq (.reg [zW 21 1 1,zG 22 (.call 12 [(.t 21)]),zM 20 22,zE 23 20 0,zE 24 20 1,zM 5 23,zM 6 24] none)
 (.seq (.reg [zW 26 1 1,zG 27 (.call 13 [(.t 26)]),zM 25 27,zE 28 25 0,zE 29 25 1,zM 7 28,zM 8 29] none)
 (.seq (.reg [zW 31 1 1,zG 32 (.call 14 [(.t 31)]),zM 30 32,zE 33 30 0,zE 34 30 1,zM 9 33,zM 10 34] none)
 (.seq (.reg [zW 35 1 1,zG 36 (.call 15 [(.t 35)]),zW 37 1 1,zG 38 (.call 16 [(.t 37)]),zG 39 (.bin .eql (.t 36) (.t 38)),zM 40 39,zm 41 40 true 3,zg 42 40 true (.conv .b2s (.t 41)),zm 43 40 true 5,zg 44 40 true (.bin .eql (.t 42) (.t 43)),zA 45 40 44,zM 46 45,zm 47 46 true 4,zm 48 46 true 6,zg 49 46 true (.bin .eql (.t 47) (.t 48)),zA 50 46 49,zM 51 50,zm 52 51 true 7,zm 53 51 true 9,zg 54 51 true (.call 17 [(.t 52),(.t 53)]),zA 55 51 54,zM 56 55,zm 57 56 true 8,zm 58 56 true 10,zg 59 56 true (.bin .eql (.t 57) (.t 58)),zA 60 56 59,zM 61 60,zg 62 61 true (.call 10 []),zA 63 61 62,zM 2 63] (some [(0,2),(1,2)]))
 .ret)))))))
theorem f3:aI Tryz.prog 3 64 c3 [.tmp 2]:=⟨_,Tryz.func3,rfl,by kernel_rfl,rfl⟩
def c5:AC:=(.seq (.reg [zG 3 (.box (.t 0)),zG 6 (.mov (.c (.bool false)))] none)
 (.seq (.seq (.reg [zW 24 1 3,zG 25 (.call 9 [(.t 24)]),zN 26 25,zM 27 26,zm 28 27 false 1,zg 29 27 false (.len false (.t 28)),zg 30 27 false (.bin .gtr (.t 29) (.c (.int .i64 100000))),zO 31 27 30,zM 32 31,zm 33 32 false 2,zg 34 32 false (.len false (.t 33)),zg 35 32 false (.bin .gtr (.t 34) (.c (.int .i64 100))),zO 36 32 35] none)
 (.cond (.t 36) (.seq (.reg [zG 37 (.call 10 []),zM 6 37] none)
 .ret) .skip))
 (.seq (.seq (.reg [zW 39 1 3,zG 40 (.call 11 [(.t 39)]),zM 38 40,zE 41 38 0,zE 42 38 1,zM 7 41,zM 8 42] none)
 (.seq (.reg [zM 43 8,zG 44 (.bin .eql (.t 43) (.c (.int .i64 0)))] none)
 (.cond (.t 44) (.seq (.reg [zM 46 7,zG 47 (.call 18 [(.t 46)]),zM 45 47,zE 48 45 0,zE 49 45 1,zG 9 (.alloc [.sl 3 [] (.exact 0)]),zH (.store 1 (.t 9) (.t 48)),zM 10 49] none)
 (.seq (.reg [zW 51 1 3,zG 52 (.call 13 [(.t 51)]),zM 50 52,zE 53 50 0,zE 54 50 1,zM 11 53,zM 12 54] none)
 (.seq (.reg [zM 56 11,zG 57 (.call 20 [(.t 56)]),zM 55 57,zE 58 55 0,zE 59 55 1,zG 13 (.alloc [.sl 3 [] (.exact 0)]),zH (.store 1 (.t 13) (.t 58)),zM 14 59] none)
 (.seq (.reg [zW 60 1 9,zW 61 1 3,zG 62 (.call 22 [(.t 60),(.t 61)]),zN 63 62,zM 64 63,zm 65 64 false 10,zg 66 64 false (.bin .neq (.t 65) (.c (.int .i64 0))),zO 67 64 66,zM 68 67,zm 69 68 false 12,zg 70 68 false (.bin .neq (.t 69) (.c (.int .i64 0))),zO 71 68 70,zM 72 71,zw 73 72 false 1 13,zw 74 72 false 1 3,zg 75 72 false (.call 22 [(.t 73),(.t 74)]),zn 76 72 false 75,zO 77 72 76,zM 78 77,zm 79 78 false 14,zg 80 78 false (.bin .neq (.t 79) (.c (.int .i64 0))),zO 81 78 80] none)
 (.cond (.t 81) (.seq (.reg [zG 6 (.mov (.c (.bool false)))] none)
 .ret) .skip))))) (.seq (.reg [zM 82 7,zG 83 (.len false (.t 82)),zG 84 (.bin .neq (.t 83) (.c (.int .i64 0))),zM 85 84,zm 86 85 false 8,zg 87 85 false (.bin .neq (.t 86) (.c (.int .i64 4))),zO 88 85 87] none)
 (.cond (.t 88) (.seq (.reg [zG 6 (.mov (.c (.bool false)))] none)
 .ret) .skip)))))
 (.seq (.seq (.reg [zM 90 1,zG 91 (.call 18 [(.t 90)]),zM 89 91,zE 92 89 0,zE 93 89 1,zG 15 (.alloc [.sl 3 [] (.exact 0)]),zH (.store 1 (.t 15) (.t 92)),zM 16 93] none)
 (.seq (.reg [zM 94 16,zG 95 (.bin .eql (.t 94) (.c (.int .i64 0)))] none)
 (.cond (.t 95) (.seq (.reg [zW 97 1 15,zG 98 (.call 11 [(.t 97)]),zM 96 98,zE 99 96 0,zE 100 96 1,zM 17 99,zM 18 100] none)
 (.seq (.reg [zM 101 17,zG 102 (.conv .b2s (.t 101)),zM 103 1,zG 104 (.conv .b2s (.t 103)),zG 105 (.bin .neq (.t 102) (.t 104)),zM 106 105,zm 107 106 false 18,zg 108 106 false (.bin .neq (.t 107) (.c (.int .i64 0))),zO 109 106 108] none)
 (.cond (.t 109) (.seq (.reg [zG 6 (.mov (.c (.bool false)))] none)
 .ret) .skip))) .skip)))
 (.seq (.reg [zM 111 2,zG 112 (.call 20 [(.t 111)]),zM 110 112,zE 113 110 0,zE 114 110 1,zG 19 (.alloc [.sl 3 [] (.exact 0)]),zH (.store 1 (.t 19) (.t 113)),zM 20 114] none)
 (.seq (.seq (.reg [zM 115 20,zG 116 (.bin .neq (.t 115) (.c (.int .i64 0)))] none)
 (.cond (.t 116) (.seq (.reg [zW 117 1 19,zG 118 (.build [.sl 3 [] (.exact 0)] []),zG 119 (.call 22 [(.t 117),(.t 118)]),zM 120 119,zg 121 120 true (.call 10 []),zA 122 120 121,zM 6 122] none)
 .ret) .skip))
 (.seq (.reg [zW 124 1 19,zG 125 (.call 13 [(.t 124)]),zM 123 125,zE 126 123 0,zE 127 123 1,zM 21 126,zM 22 127] none)
 (.seq (.seq (.reg [zM 128 21,zG 129 (.len false (.t 128)),zM 130 2,zG 131 (.len false (.t 130)),zG 132 (.bin .neq (.t 129) (.t 131)),zM 133 132,zm 134 133 false 22,zg 135 133 false (.bin .neq (.t 134) (.c (.int .i64 0))),zO 136 133 135] none)
 (.cond (.t 136) (.seq (.reg [zG 6 (.mov (.c (.bool false)))] none)
 .ret) .skip))
 (.seq (.seq (.reg [zG 23 (.mov (.c (.int .i64 0)))] none)
 (.block 0 (.loop (.seq (.seq (.reg [zM 137 23,zM 138 2,zG 139 (.len false (.t 138)),zG 140 (.bin .lss (.t 137) (.t 139))] none)
 (.cond (.t 140) .skip (.exit 0)))
 (.seq (.block 1 (.seq (.reg [zM 143 21,zM 144 23,zG 145 (.iaddr 2 (.t 143) (.t 144)),zW 146 2 145,zM 147 2,zM 148 23,zG 149 (.iaddr 2 (.t 147) (.t 148)),zW 150 2 149,zG 151 (.eqA true [.str,.str] (.t 146) (.t 150))] (some [(3,7)]))
 (.cond (.t 151) (.seq (.reg [zG 6 (.mov (.c (.bool false)))] none)
 .ret) .skip)))
 (.reg [zM 141 23,zG 142 (.bin .add (.t 141) (.c (.int .i64 1))),zM 23 142] none))))))
 (.seq (.reg [zG 152 (.call 10 []),zM 6 152] none)
 .ret))))))))))
theorem f5:aI Tryz.prog 5 153 c5 [.tmp 6]:=⟨_,Tryz.func5,rfl,by kernel_rfl,rfl⟩
def c9:AC:=(.seq (.reg [zG 1 (.box (.t 0)),zG 2 (.mov (.c (.bool false)))] none)
 (.seq (.reg [zF 5 0 1,zL 6 5,zG 7 (.len false (.t 6)),zM 3 7] none)
 (.seq (.seq (.reg [zG 4 (.mov (.c (.int .i64 0)))] none)
 (.block 0 (.loop (.seq (.seq (.reg [zM 8 4,zF 9 0 1,zL 10 9,zG 11 (.len false (.t 10)),zG 12 (.bin .lss (.t 8) (.t 11)),zM 13 12,zm 14 13 true 3,zg 15 13 true (.bin .leq (.t 14) (.c (.int .i64 60))),zA 16 13 15] none)
 (.cond (.t 16) .skip (.exit 0)))
 (.seq (.block 1 (.reg [zM 19 3,zF 20 0 1,zL 21 20,zM 22 4,zG 23 (.iaddr 3 (.t 21) (.t 22)),zF 24 2 23,zL 25 24,zG 26 (.len false (.t 25)),zG 27 (.bin .add (.t 19) (.t 26)),zM 3 27] none))
 (.reg [zM 17 4,zG 18 (.bin .add (.t 17) (.c (.int .i64 1))),zM 4 18] none))))))
 (.seq (.reg [zM 28 3,zG 29 (.bin .leq (.t 28) (.c (.int .i64 60))),zM 2 29] none)
 .ret))))
theorem f9:aI Tryz.prog 9 30 c9 [.tmp 2]:=⟨_,Tryz.func9,rfl,by kernel_rfl,rfl⟩
def c10:AC:=(.seq (.reg [zG 0 (.mov (.c (.bool false)))] none)
 (.seq (.reg [zG 8 (.build [.sl 3 [] (.exact 0)] []),zG 9 (.call 11 [(.t 8)]),zM 7 9,zE 10 7 0,zE 11 7 1,zM 1 10,zM 2 11] none)
 (.seq (.reg [zG 13 (.call 35 []),zG 14 (.call 13 [(.t 13)]),zM 12 14,zE 15 12 0,zE 16 12 1,zM 3 15,zM 4 16] none)
 (.seq (.reg [zG 18 (.build [.sl 3 [] (.exact 0)] []),zG 19 (.call 35 []),zG 20 (.call 23 [(.t 18),(.t 19)]),zM 17 20,zE 21 17 0,zE 22 17 1,zM 5 21,zM 6 22] none)
 (.seq (.reg [zM 23 1,zG 24 (.len false (.t 23)),zG 25 (.bin .eql (.t 24) (.c (.int .i64 10))),zM 26 25,zm 27 26 true 1,zg 28 26 true (.slc false 1 (.t 27) none (some (.c (.int .i64 6))) none),zg 29 26 true (.conv .b2s (.t 28)),zg 30 26 true (.bin .eql (.t 29) (.c (.str [65,82,67,72,0,0]))),zA 31 26 30,zM 32 31,zm 33 32 true 2,zg 34 32 true (.bin .eql (.t 33) (.c (.int .i64 0))),zA 35 32 34,zM 36 35,zm 37 36 true 3,zg 38 36 true (.len false (.t 37)),zg 39 36 true (.bin .eql (.t 38) (.c (.int .i64 1))),zA 40 36 39,zM 41 40,zm 42 41 true 4,zg 43 41 true (.bin .eql (.t 42) (.c (.int .i64 0))),zA 44 41 43,zM 45 44,zm 46 45 true 5,zg 47 45 true (.len false (.t 46)),zg 48 45 true (.bin .eql (.t 47) (.c (.int .i64 1))),zA 49 45 48,zM 50 49,zm 51 50 true 6,zg 52 50 true (.bin .eql (.t 51) (.c (.int .i64 0))),zA 53 50 52,zM 54 53,zm 55 54 true 5,zg 56 54 true (.iaddr 3 (.t 55) (.c (.int .i64 0))),zf 57 54 true 0 56,zl 58 54 true 57,zm 59 54 true 3,zg 60 54 true (.iaddr 2 (.t 59) (.c (.int .i64 0))),zf 61 54 true 0 60,zl 62 54 true 61,zg 63 54 true (.bin .eql (.t 58) (.t 62)),zA 64 54 63,zM 65 64,zm 66 65 true 5,zg 67 65 true (.iaddr 3 (.t 66) (.c (.int .i64 0))),zf 68 65 true 1 67,zl 69 65 true 68,zg 70 65 true (.bin .eql (.t 69) (.c (.str [48]))),zA 71 65 70,zM 0 71] (some [(35,39)]))
 .ret)))))
theorem f10:aI Tryz.prog 10 72 c10 [.tmp 0]:=⟨_,Tryz.func10,rfl,by kernel_rfl,rfl⟩
def c11:AC:=(.seq (.reg [zG 1 (.box (.t 0)),zG 2 (.mov (.c (.sl 1 [] (.exact 0)))),zG 3 (.mov (.c (.int .i64 0)))] none)
 (.seq (.seq (.reg [zW 12 1 1,zG 13 (.call 15 [(.t 12)]),zM 4 13] none)
 (.seq (.reg [zM 14 4,zG 15 (.bin .neq (.t 14) (.c (.int .i64 0)))] none)
 (.cond (.t 15) (.seq (.reg [zM 16 4,zG 2 (.mov (.c (.sl 1 [] (.exact 0)))),zM 3 16] none)
 .ret) .skip)))
 (.seq (.reg [zG 17 (.buildSl 1 [(.c (.int .u8 65)),(.c (.int .u8 82)),(.c (.int .u8 67)),(.c (.int .u8 72))]),zG 18 (.conv .s2s (.t 17)),zF 19 0 1,zL 20 19,zG 21 (.len false (.t 20)),zG 22 (.call 36 [(.t 18),(.t 21)]),zM 5 22] none)
 (.seq (.seq (.reg [zF 23 0 1,zL 24 23,zG 25 (.len false (.t 24)),zG 26 (.mov (.c (.int .i64 0)))] none)
 (.block 0 (.loop (.seq (.reg [zG 27 (.bin .lss (.t 26) (.t 25))] none)
 (.seq (.cond (.t 27) .skip (.exit 0))
 (.seq (.block 1 (.seq (.reg [zG 28 (.iaddr 3 (.t 24) (.t 26)),zW 29 3 28,zG 7 (.alloc [.str [],.int .i64 0,.sl 8 [] (.exact 0)]),zH (.store 3 (.t 7) (.t 29))] none)
 (.seq (.reg [zM 30 5,zF 31 0 7,zL 32 31,zG 33 (.call 39 [(.t 30),(.t 32)]),zF 34 1 7,zL 35 34,zG 36 (.call 38 [(.t 33),(.t 35)]),zF 37 2 7,zL 38 37,zG 39 (.len false (.t 38)),zG 40 (.call 37 [(.t 36),(.t 39)]),zM 5 40] (some [(2,5),(3,5),(2,8),(3,8),(5,8),(6,8)]))
 (.seq (.reg [zF 41 2 7,zL 42 41,zG 43 (.len false (.t 42)),zG 44 (.mov (.c (.int .i64 0)))] none)
 (.block 2 (.loop (.seq (.reg [zG 45 (.bin .lss (.t 44) (.t 43))] none)
 (.seq (.cond (.t 45) .skip (.exit 2))
 (.seq (.block 3 (.seq (.reg [zG 46 (.iaddr 8 (.t 42) (.t 44)),zW 47 8 46,zG 9 (.alloc [.str [],.int .i64 0,.int .i64 0,.int .i64 0,.int .i64 0,.bool false,.bool false,.str []]),zH (.store 8 (.t 9) (.t 47))] none)
 (.seq (.reg [zF 49 2 9,zW 50 5 49,zG 51 (.call 40 [(.t 50)]),zM 48 51,zE 52 48 0,zE 53 48 1,zM 10 52,zM 11 53] none)
 (.seq (.reg [zM 54 5,zF 55 0 9,zL 56 55,zG 57 (.call 39 [(.t 54),(.t 56)]),zF 58 1 9,zL 59 58,zG 60 (.call 41 [(.t 57),(.t 59)]),zM 61 10,zG 62 (.app true 1 1 (.t 60) (.t 61)),zM 5 62] (some [(2,5),(3,5)]))
 (.reg [zM 63 5,zF 64 7 9,zL 65 64,zG 66 (.len true (.t 65)),zG 67 (.call 36 [(.t 63),(.t 66)]),zF 68 7 9,zL 69 68,zG 70 (.app true 1 1 (.t 67) (.t 69)),zM 5 70] (some [(2,6),(4,6)]))))))
 (.reg [zG 71 (.bin .add (.t 44) (.c (.int .i64 1))),zM 44 71] none))))))))))
 (.reg [zG 72 (.bin .add (.t 26) (.c (.int .i64 1))),zM 26 72] none)))))))
 (.seq (.reg [zM 73 5,zM 74 5,zG 75 (.call 42 [(.t 74)]),zG 76 (.call 37 [(.t 73),(.t 75)]),zM 2 76,zG 3 (.mov (.c (.int .i64 0)))] none)
 .ret)))))
theorem f11:aI Tryz.prog 11 77 c11 [.tmp 2,.tmp 3]:=⟨_,Tryz.func11,rfl,by kernel_rfl,rfl⟩
def c13:AC:=(.seq (.reg [zG 1 (.box (.t 0)),zG 2 (.mov (.c (.sl 2 [] (.exact 0)))),zG 3 (.mov (.c (.int .i64 0)))] none)
 (.seq (.seq (.reg [zW 11 1 1,zG 12 (.call 15 [(.t 11)]),zM 4 12] none)
 (.seq (.reg [zM 13 4,zG 14 (.bin .neq (.t 13) (.c (.int .i64 0)))] none)
 (.cond (.t 14) (.seq (.reg [zM 15 4,zG 2 (.mov (.c (.sl 2 [] (.exact 0)))),zM 3 15] none)
 .ret) .skip)))
 (.seq (.reg [zG 5 (.alloc [.sl 2 [] (.exact 0)])] none)
 (.seq (.seq (.reg [zF 16 0 1,zL 17 16,zG 18 (.len false (.t 17)),zG 19 (.mov (.c (.int .i64 0)))] none)
 (.block 0 (.loop (.seq (.reg [zG 20 (.bin .lss (.t 19) (.t 18))] none)
 (.seq (.cond (.t 20) .skip (.exit 0))
 (.seq (.block 1 (.seq (.reg [zG 21 (.iaddr 3 (.t 17) (.t 19)),zW 22 3 21,zG 7 (.alloc [.str [],.int .i64 0,.sl 8 [] (.exact 0)]),zH (.store 3 (.t 7) (.t 22))] none)
 (.seq (.reg [zW 23 3 7,zG 24 (.call 44 [(.t 23)])] none)
 (.block 2 (.p8 (.t 24) [25] (.reg [zM 8 25] none)
 (.block 3 (.seq (.reg [zM 26 8,zG 27 (.len false (.t 26)),zG 28 (.mov (.c (.int .i64 0)))] none)
 (.block 4 (.loop (.seq (.reg [zG 29 (.bin .lss (.t 28) (.t 27))] none)
 (.seq (.cond (.t 29) .skip (.exit 4))
 (.seq (.block 5 (.seq (.reg [zG 30 (.iaddr 3 (.t 26) (.t 28)),zW 31 3 30,zG 10 (.alloc [.str [],.str [],.bool false]),zH (.store 3 (.t 10) (.t 31))] none)
 (.reg [zL 32 5,zF 33 0 10,zL 34 33,zF 35 1 10,zL 36 35,zG 37 (.build [.str [],.str []] [(0,1,(.t 34)),(1,1,(.t 36))]),zG 38 (.buildSl 2 [(.t 37)]),zG 39 (.app false 2 32 (.t 32) (.t 38)),zH (.store 1 (.t 5) (.t 39))] none)))
 (.reg [zG 40 (.bin .add (.t 28) (.c (.int .i64 1))),zM 28 40] none)))))))))))))
 (.reg [zG 41 (.bin .add (.t 19) (.c (.int .i64 1))),zM 19 41] none)))))))
 (.seq (.reg [zL 42 5,zG 43 (.call 45 [(.t 42),(.c (.clo (.func 46) [] []))])] none)
 (.seq (.reg [zL 44 5,zM 2 44,zG 3 (.mov (.c (.int .i64 0)))] none)
 .ret))))))
theorem f13:aI Tryz.prog 13 45 c13 [.tmp 2,.tmp 3]:=⟨_,Tryz.func13,rfl,by kernel_rfl,rfl⟩
def c14:AC:=(.seq (.reg [zG 1 (.box (.t 0)),zG 2 (.mov (.c (.sl 2 [] (.exact 0)))),zG 3 (.mov (.c (.int .i64 0)))] none)
 (.seq (.seq (.reg [zW 10 1 1,zG 11 (.call 16 [(.t 10)]),zM 4 11] none)
 (.seq (.reg [zM 12 4,zG 13 (.bin .neq (.t 12) (.c (.int .i64 0)))] none)
 (.cond (.t 13) (.seq (.reg [zM 14 4,zG 2 (.mov (.c (.sl 2 [] (.exact 0)))),zM 3 14] none)
 .ret) .skip)))
 (.seq (.reg [zG 5 (.mov (.c (.sl 2 [] (.exact 0))))] none)
 (.seq (.seq (.reg [zG 6 (.mov (.c (.int .i64 0)))] none)
 (.block 0 (.loop (.seq (.seq (.reg [zM 15 6,zF 16 0 1,zL 17 16,zG 18 (.len false (.t 17)),zG 19 (.bin .lss (.t 15) (.t 18))] none)
 (.cond (.t 19) .skip (.exit 0)))
 (.seq (.block 1 (.seq (.reg [zF 22 0 1,zL 23 22,zM 24 6,zG 25 (.iaddr 3 (.t 23) (.t 24)),zW 26 3 25,zG 27 (.call 47 [(.t 26)]),zM 7 27] none)
 (.seq (.reg [zG 8 (.mov (.c (.int .i64 0)))] none)
 (.block 2 (.loop (.seq (.seq (.reg [zM 28 8,zM 29 7,zG 30 (.len false (.t 29)),zG 31 (.bin .lss (.t 28) (.t 30))] none)
 (.cond (.t 31) .skip (.exit 2)))
 (.seq (.block 3 (.seq (.reg [zG 9 (.mov (.c (.int .i64 0)))] none)
 (.block 4 (.loop (.seq (.seq (.reg [zM 34 9,zM 35 7,zM 36 8,zG 37 (.iaddr 1 (.t 35) (.t 36)),zL 38 37,zG 39 (.len false (.t 38)),zG 40 (.bin .lss (.t 34) (.t 39))] none)
 (.cond (.t 40) .skip (.exit 4)))
 (.seq (.block 5 (.reg [zM 44 5,zM 45 7,zM 46 8,zG 47 (.iaddr 1 (.t 45) (.t 46)),zL 48 47,zM 49 9,zG 50 (.iaddr 3 (.t 48) (.t 49)),zF 51 0 50,zL 52 51,zM 53 7,zM 54 8,zG 55 (.iaddr 1 (.t 53) (.t 54)),zL 56 55,zM 57 9,zG 58 (.iaddr 3 (.t 56) (.t 57)),zF 59 1 58,zL 60 59,zG 61 (.call 48 [(.t 44),(.t 52),(.t 60)]),zM 43 61,zE 62 43 0,zE 63 43 1,zM 5 62] (some [(4,12),(8,12),(4,16),(8,16)])))
 (.reg [zM 41 9,zG 42 (.bin .add (.t 41) (.c (.int .i64 1))),zM 9 42] none)))))))
 (.reg [zM 32 8,zG 33 (.bin .add (.t 32) (.c (.int .i64 1))),zM 8 33] none))))))))
 (.reg [zM 20 6,zG 21 (.bin .add (.t 20) (.c (.int .i64 1))),zM 6 21] none))))))
 (.seq (.reg [zM 64 5,zM 2 64,zG 3 (.mov (.c (.int .i64 0)))] none)
 .ret)))))
theorem f14:aI Tryz.prog 14 65 c14 [.tmp 2,.tmp 3]:=⟨_,Tryz.func14,rfl,by kernel_rfl,rfl⟩
def c15:AC:=(.seq (.reg [zG 1 (.box (.t 0)),zG 2 (.mov (.c (.int .i64 0)))] none)
 (.seq (.seq (.reg [zF 7 0 1,zL 8 7,zG 9 (.len false (.t 8)),zG 10 (.bin .gtr (.t 9) (.c (.int .i64 65535)))] none)
 (.cond (.t 10) (.seq (.reg [zG 2 (.mov (.c (.int .i64 4)))] none)
 .ret) .skip))
 (.seq (.seq (.reg [zF 11 0 1,zL 12 11,zG 13 (.len false (.t 12)),zG 14 (.mov (.c (.int .i64 0)))] none)
 (.block 0 (.loop (.seq (.reg [zG 15 (.bin .lss (.t 14) (.t 13))] none)
 (.seq (.cond (.t 15) .skip (.exit 0))
 (.seq (.block 1 (.seq (.reg [zM 16 14,zG 17 (.iaddr 3 (.t 12) (.t 14)),zW 18 3 17,zG 4 (.alloc [.str [],.int .i64 0,.sl 8 [] (.exact 0)]),zM 3 16,zH (.store 3 (.t 4) (.t 18))] none)
 (.seq (.reg [zF 20 1 4,zL 21 20,zG 22 (.call 49 [(.t 21)]),zM 19 22,zE 23 19 0,zE 24 19 1,zM 5 23,zM 6 24] none)
 (.seq (.reg [zM 25 6,zG 26 (.bin .neq (.t 25) (.c (.int .i64 0))),zM 27 26,zf 28 27 false 0 4,zl 29 27 false 28,zg 30 27 false (.call 50 [(.t 29)]),zg 31 27 false (.bin .neq (.t 30) (.c (.int .i64 0))),zO 32 27 31,zM 33 32,zm 34 33 false 3,zg 35 33 false (.bin .gtr (.t 34) (.c (.int .i64 0))),zm 36 33 false 35,zf 37 36 true 0 1,zl 38 36 true 37,zm 39 36 true 3,zg 40 36 true (.bin .sub (.t 39) (.c (.int .i64 1))),zg 41 36 true (.iaddr 3 (.t 38) (.t 40)),zf 42 36 true 0 41,zl 43 36 true 42,zf 44 36 true 0 4,zl 45 36 true 44,zg 46 36 true (.bin .geq (.t 43) (.t 45)),zg 47 33 false (.pick (.t 36) (.t 46) (.c (.bool false))),zO 48 33 47,zM 49 48,zf 50 49 false 2 4,zl 51 49 false 50,zg 52 49 false (.call 51 [(.t 51)]),zn 53 49 false 52,zO 54 49 53] (some [(13,20),(18,20)]))
 (.cond (.t 54) (.seq (.reg [zG 2 (.mov (.c (.int .i64 4)))] none)
 .ret) .skip)))))
 (.reg [zG 55 (.bin .add (.t 14) (.c (.int .i64 1))),zM 14 55] none)))))))
 (.seq (.reg [zG 2 (.mov (.c (.int .i64 0)))] none)
 .ret))))
theorem f15:aI Tryz.prog 15 56 c15 [.tmp 2]:=⟨_,Tryz.func15,rfl,by kernel_rfl,rfl⟩
def c18:AC:=(.seq (.reg [zG 1 (.box (.t 0)),zG 2 (.alloc [.sl 3 [] (.exact 0)]),zG 3 (.mov (.c (.int .i64 0)))] none)
 (.seq (.reg [zG 4 (.alloc [.sl 3 [] (.exact 0)])] none)
 (.seq (.reg [zL 7 1,zG 8 (.build [.sl 1 [] (.exact 0),.int .i64 0] [(0,1,(.t 7))]),zG 9 (.box (.t 8)),zG 5 (.alloc [.sc (.pointer none)]),zH (.store 1 (.t 5) (.t 9))] none)
 (.seq (.reg [zG 10 (.mkfn (.func 55) [] [(.t 5),(.t 4),(.t 1)]),zG 11 (.call 54 [(.t 10)]),zM 6 11] none)
 (.seq (.seq (.reg [zM 12 6,zG 13 (.bin .neq (.t 12) (.c (.int .i64 0)))] none)
 (.cond (.t 13) (.seq (.reg [zG 14 (.build [.sl 3 [] (.exact 0)] []),zM 15 6,zH (.store 1 (.t 2) (.t 14)),zM 3 15] none)
 .ret) .skip))
 (.seq (.reg [zW 16 1 4,zH (.store 1 (.t 2) (.t 16)),zG 3 (.mov (.c (.int .i64 0)))] none)
 .ret))))))
theorem f18:aI Tryz.prog 18 17 c18 [.cell 2 (some 1),.tmp 3]:=⟨_,Tryz.func18,rfl,by kernel_rfl,rfl⟩
def c20:AC:=(.seq (.reg [zG 1 (.box (.t 0)),zG 2 (.alloc [.sl 3 [] (.exact 0)]),zG 3 (.mov (.c (.int .i64 0)))] none)
 (.seq (.reg [zG 6 (.mkmap),zG 7 (.build [.sl 3 [] (.exact 0),.sc (.map none)] [(1,1,(.t 6))]),zG 8 (.box (.t 7)),zG 4 (.alloc [.sc (.pointer none)]),zH (.store 1 (.t 4) (.t 8))] none)
 (.seq (.reg [zG 9 (.mkfn (.func 63) [] [(.t 1),(.t 4)]),zG 10 (.call 54 [(.t 9)]),zM 5 10] none)
 (.seq (.seq (.reg [zM 11 5,zG 12 (.bin .neq (.t 11) (.c (.int .i64 0)))] none)
 (.cond (.t 12) (.seq (.reg [zG 13 (.build [.sl 3 [] (.exact 0)] []),zM 14 5,zH (.store 1 (.t 2) (.t 13)),zM 3 14] none)
 .ret) .skip))
 (.seq (.reg [zL 15 4,zK 16 15,zF 17 0 16,zW 18 1 17,zH (.store 1 (.t 2) (.t 18)),zG 3 (.mov (.c (.int .i64 0)))] none)
 .ret)))))
theorem f20:aI Tryz.prog 20 19 c20 [.cell 2 (some 1),.tmp 3]:=⟨_,Tryz.func20,rfl,by kernel_rfl,rfl⟩
def c21:AC:=(.seq (.reg [zG 2 (.alloc [.sl 3 [] (.exact 0)]),zG 3 (.mov (.c (.int .i64 0)))] none)
 (.seq (.reg [zG 4 (.alloc [.sl 3 [] (.exact 0)])] none)
 (.seq (.seq (.reg [zG 5 (.mov (.c (.int .i64 0)))] none)
 (.block 0 (.loop (.seq (.seq (.reg [zM 19 5,zM 20 0,zG 21 (.len false (.t 20)),zG 22 (.bin .lss (.t 19) (.t 21))] none)
 (.cond (.t 22) .skip (.exit 0)))
 (.seq (.block 1 (.seq (.reg [zM 26 0,zM 27 5,zG 28 (.iaddr 2 (.t 26) (.t 27)),zF 29 0 28,zL 30 29,zG 31 (.call 66 [(.t 30)]),zM 25 31,zE 32 25 0,zE 33 25 1,zG 6 (.alloc [.int .i64 0,.str [],.str [],.sl 1 [] (.exact 0)]),zH (.store 4 (.t 6) (.t 32)),zM 7 33] none)
 (.seq (.seq (.reg [zM 34 7,zG 35 (.bin .neq (.t 34) (.c (.int .i64 0)))] none)
 (.cond (.t 35) (.seq (.reg [zG 36 (.build [.sl 3 [] (.exact 0)] []),zH (.store 1 (.t 2) (.t 36)),zG 3 (.mov (.c (.int .i64 4)))] none)
 .ret) .skip))
 (.seq (.reg [zF 37 0 6,zL 38 37,zG 39 (.bin .eql (.t 38) (.c (.int .i64 1)))] none)
 (.cond (.t 39) (.seq (.reg [zM 41 0,zM 42 5,zG 43 (.iaddr 2 (.t 41) (.t 42)),zF 44 1 43,zL 45 44,zG 46 (.call 67 [(.t 45)]),zM 40 46,zE 47 40 0,zE 48 40 1,zM 8 47,zM 9 48] none)
 (.reg [zF 49 0 4,zL 50 49,zF 51 1 6,zL 52 51,zM 53 8,zG 54 (.build [.str [],.int .i64 0,.sl 8 [] (.exact 0)] [(0,1,(.t 52)),(1,1,(.t 53))]),zG 55 (.buildSl 3 [(.t 54)]),zG 56 (.app false 3 48 (.t 50) (.t 55)),zF 57 0 4,zH (.store 1 (.t 57) (.t 56))] none)) .skip)))))
 (.reg [zM 23 5,zG 24 (.bin .add (.t 23) (.c (.int .i64 1))),zM 5 24] none))))))
 (.seq (.seq (.reg [zG 10 (.mov (.c (.int .i64 0)))] none)
 (.block 2 (.loop (.seq (.seq (.reg [zM 58 10,zF 59 0 4,zL 60 59,zG 61 (.len false (.t 60)),zG 62 (.bin .lss (.t 58) (.t 61))] none)
 (.cond (.t 62) .skip (.exit 2)))
 (.seq (.block 3 (.seq (.reg [zG 11 (.mov (.c (.int .i64 0)))] none)
 (.block 4 (.loop (.seq (.seq (.reg [zM 65 11,zM 66 0,zG 67 (.len false (.t 66)),zG 68 (.bin .lss (.t 65) (.t 67))] none)
 (.cond (.t 68) .skip (.exit 4)))
 (.seq (.block 5 (.seq (.reg [zM 72 0,zM 73 11,zG 74 (.iaddr 2 (.t 72) (.t 73)),zF 75 0 74,zL 76 75,zG 77 (.call 66 [(.t 76)]),zM 71 77,zE 78 71 0,zE 79 71 1,zG 12 (.alloc [.int .i64 0,.str [],.str [],.sl 1 [] (.exact 0)]),zH (.store 4 (.t 12) (.t 78)),zM 13 79] none)
 (.seq (.seq (.reg [zF 80 0 12,zL 81 80,zG 82 (.bin .neq (.t 81) (.c (.int .i64 2))),zM 83 82,zf 84 83 false 1 12,zl 85 83 false 84,zf 86 83 false 0 4,zl 87 83 false 86,zm 88 83 false 10,zg 89 83 false (.iaddr 3 (.t 87) (.t 88)),zf 90 83 false 0 89,zl 91 83 false 90,zg 92 83 false (.bin .neq (.t 85) (.t 91)),zO 93 83 92] (some [(5,7),(5,11)]))
 (.cond (.t 93) (.exit 5) .skip))
 (.seq (.reg [zM 95 0,zM 96 11,zG 97 (.iaddr 2 (.t 95) (.t 96)),zF 98 1 97,zL 99 98,zG 100 (.call 62 [(.t 99)]),zM 94 100,zE 101 94 0,zE 102 94 1,zG 14 (.alloc [.int .i64 0,.int .i64 0,.int .i64 0,.bool false,.bool false]),zH (.store 5 (.t 14) (.t 101)),zM 15 102] none)
 (.seq (.reg [zF 103 2 12,zL 104 103,zF 105 3 12,zL 106 105,zG 107 (.iaddr 1 (.t 106) (.c (.int .i64 0))),zL 108 107,zW 109 5 14,zG 110 (.build [.str [],.int .i64 0,.int .i64 0,.int .i64 0,.int .i64 0,.bool false,.bool false,.str []] [(0,1,(.t 104)),(1,1,(.t 108)),(2,5,(.t 109))]),zG 16 (.alloc [.str [],.int .i64 0,.int .i64 0,.int .i64 0,.int .i64 0,.bool false,.bool false,.str []]),zH (.store 8 (.t 16) (.t 110))] (some [(1,3),(1,5),(1,6),(3,6),(5,6),(1,8),(3,8),(5,8),(6,8)]))
 (.seq (.reg [zM 111 0,zF 112 1 12,zL 113 112,zW 114 8 16,zG 115 (.call 68 [(.t 111),(.t 113),(.t 114)]),zF 116 7 16,zH (.store 1 (.t 116) (.t 115))] none)
 (.reg [zF 117 0 4,zL 118 117,zM 119 10,zF 120 0 4,zL 121 120,zM 122 10,zG 123 (.iaddr 3 (.t 121) (.t 122)),zF 124 2 123,zL 125 124,zW 126 8 16,zG 127 (.buildSl 8 [(.t 126)]),zG 128 (.app false 8 72 (.t 125) (.t 127)),zG 129 (.iaddr 3 (.t 118) (.t 119)),zF 130 2 129,zH (.store 1 (.t 130) (.t 128))] (some [(1,4),(1,8),(1,9),(4,9),(8,9),(1,10),(4,10),(8,10),(1,11)]))))))))
 (.reg [zM 69 11,zG 70 (.bin .add (.t 69) (.c (.int .i64 1))),zM 11 70] none)))))))
 (.reg [zM 63 10,zG 64 (.bin .add (.t 63) (.c (.int .i64 1))),zM 10 64] none))))))
 (.seq (.reg [zW 132 1 4,zG 133 (.call 14 [(.t 132)]),zM 131 133,zE 134 131 0,zE 135 131 1,zM 17 134,zM 18 135] none)
 (.seq (.seq (.reg [zM 136 18,zG 137 (.bin .neq (.t 136) (.c (.int .i64 0))),zM 138 137,zm 139 138 false 17,zm 140 138 false 0,zg 141 138 false (.call 17 [(.t 139),(.t 140)]),zn 142 138 false 141,zO 143 138 142] none)
 (.cond (.t 143) (.seq (.reg [zG 144 (.build [.sl 3 [] (.exact 0)] []),zH (.store 1 (.t 2) (.t 144)),zG 3 (.mov (.c (.int .i64 4)))] none)
 .ret) .skip))
 (.seq (.reg [zW 145 1 4,zH (.store 1 (.t 2) (.t 145)),zG 3 (.mov (.c (.int .i64 0)))] none)
 .ret)))))))
theorem f21:aI Tryz.prog 21 146 c21 [.cell 2 (some 1),.tmp 3]:=⟨_,Tryz.func21,rfl,by kernel_rfl,rfl⟩
def c22:AC:=(.seq (.reg [zG 2 (.box (.t 0)),zG 3 (.box (.t 1)),zG 4 (.mov (.c (.bool false)))] none)
 (.seq (.seq (.reg [zF 9 0 2,zL 10 9,zG 11 (.len false (.t 10)),zF 12 0 3,zL 13 12,zG 14 (.len false (.t 13)),zG 15 (.bin .neq (.t 11) (.t 14))] none)
 (.cond (.t 15) (.seq (.reg [zG 4 (.mov (.c (.bool false)))] none)
 .ret) .skip))
 (.seq (.seq (.reg [zG 5 (.mov (.c (.int .i64 0)))] none)
 (.block 0 (.loop (.seq (.seq (.reg [zM 16 5,zF 17 0 2,zL 18 17,zG 19 (.len false (.t 18)),zG 20 (.bin .lss (.t 16) (.t 19))] none)
 (.cond (.t 20) .skip (.exit 0)))
 (.seq (.block 1 (.seq (.reg [zF 23 0 2,zL 24 23,zM 25 5,zG 26 (.iaddr 3 (.t 24) (.t 25)),zW 27 3 26,zF 28 0 3,zL 29 28,zM 30 5,zG 31 (.iaddr 3 (.t 29) (.t 30)),zW 32 3 31,zG 6 (.alloc [.str [],.int .i64 0,.sl 8 [] (.exact 0)]),zG 7 (.alloc [.str [],.int .i64 0,.sl 8 [] (.exact 0)]),zH (.store 3 (.t 6) (.t 27)),zH (.store 3 (.t 7) (.t 32))] (some [(1,6),(4,6),(1,9),(4,9),(1,10),(4,10),(6,10),(9,10),(1,11),(4,11),(6,11),(9,11),(10,11),(6,12),(9,12)]))
 (.seq (.seq (.reg [zF 33 0 6,zL 34 33,zF 35 0 7,zL 36 35,zG 37 (.bin .neq (.t 34) (.t 36)),zM 38 37,zf 39 38 false 1 6,zl 40 38 false 39,zf 41 38 false 1 7,zl 42 38 false 41,zg 43 38 false (.bin .neq (.t 40) (.t 42)),zO 44 38 43,zM 45 44,zf 46 45 false 2 6,zl 47 45 false 46,zg 48 45 false (.len false (.t 47)),zf 49 45 false 2 7,zl 50 45 false 49,zg 51 45 false (.len false (.t 50)),zg 52 45 false (.bin .neq (.t 48) (.t 51)),zO 53 45 52] none)
 (.cond (.t 53) (.seq (.reg [zG 4 (.mov (.c (.bool false)))] none)
 .ret) .skip))
 (.seq (.reg [zG 8 (.mov (.c (.int .i64 0)))] none)
 (.block 2 (.loop (.seq (.seq (.reg [zM 54 8,zF 55 2 6,zL 56 55,zG 57 (.len false (.t 56)),zG 58 (.bin .lss (.t 54) (.t 57))] none)
 (.cond (.t 58) .skip (.exit 2)))
 (.seq (.block 3 (.seq (.reg [zF 61 2 6,zL 62 61,zM 63 8,zG 64 (.iaddr 8 (.t 62) (.t 63)),zW 65 8 64,zF 66 2 7,zL 67 66,zM 68 8,zG 69 (.iaddr 8 (.t 67) (.t 68)),zW 70 8 69,zG 71 (.eqA true [.str,.int,.int,.int,.int,.bool,.bool,.str] (.t 65) (.t 70))] (some [(1,6),(4,6),(1,9),(4,9)]))
 (.cond (.t 71) (.seq (.reg [zG 4 (.mov (.c (.bool false)))] none)
 .ret) .skip)))
 (.reg [zM 59 8,zG 60 (.bin .add (.t 59) (.c (.int .i64 1))),zM 8 60] none)))))))))
 (.reg [zM 21 5,zG 22 (.bin .add (.t 21) (.c (.int .i64 1))),zM 5 22] none))))))
 (.seq (.reg [zG 4 (.mov (.c (.bool true)))] none)
 .ret))))
theorem f22:aI Tryz.prog 22 72 c22 [.tmp 4]:=⟨_,Tryz.func22,rfl,by kernel_rfl,rfl⟩
def c23:AC:=(.seq (.reg [zG 2 (.box (.t 0)),zG 3 (.box (.t 1)),zG 4 (.mov (.c (.sl 3 [] (.exact 0)))),zG 5 (.mov (.c (.int .i64 0)))] none)
 (.seq (.reg [zW 10 1 2,zG 11 (.call 13 [(.t 10)]),zM 9 11,zE 12 9 0,zE 13 9 1,zM 6 12,zM 7 13] none)
 (.seq (.seq (.reg [zM 14 7,zG 15 (.bin .neq (.t 14) (.c (.int .i64 0)))] none)
 (.cond (.t 15) (.seq (.reg [zM 16 7,zG 4 (.mov (.c (.sl 3 [] (.exact 0)))),zM 5 16] none)
 .ret) .skip))
 (.seq (.reg [zW 18 1 3,zG 19 (.call 13 [(.t 18)]),zM 17 19,zE 20 17 0,zE 21 17 1,zM 8 20,zM 7 21] none)
 (.seq (.seq (.reg [zM 22 7,zG 23 (.bin .neq (.t 22) (.c (.int .i64 0)))] none)
 (.cond (.t 23) (.seq (.reg [zM 24 7,zG 4 (.mov (.c (.sl 3 [] (.exact 0)))),zM 5 24] none)
 .ret) .skip))
 (.seq (.reg [zM 25 6,zM 26 8,zG 27 (.call 69 [(.t 25),(.t 26)]),zM 4 27,zG 5 (.mov (.c (.int .i64 0)))] none)
 .ret))))))
theorem f23:aI Tryz.prog 23 28 c23 [.tmp 4,.tmp 5]:=⟨_,Tryz.func23,rfl,by kernel_rfl,rfl⟩
def c35:AC:=(.seq (.reg [zG 0 (.alloc [.sl 3 [] (.exact 0)])] none)
 (.seq (.reg [zG 1 (.build [.str [],.int .i64 0,.sl 8 [] (.exact 0)] [(0,1,(.c (.str [97,98,99])))]),zG 2 (.buildSl 3 [(.t 1)]),zG 3 (.build [.sl 3 [] (.exact 0)] [(0,1,(.t 2))]),zH (.store 1 (.t 0) (.t 3))] none)
 .ret))
theorem f35:aI Tryz.prog 35 4 c35 [.cell 0 (some 1)]:=⟨_,Tryz.func35,rfl,by kernel_rfl,rfl⟩
def c36:AC:=(.seq (.reg [zG 4 (.mov (.c (.sl 1 [] (.exact 0))))] none)
 (.seq (.reg [zM 5 0,zM 6 1,zG 7 (.conv (.toInt .u16) (.t 6)),zG 8 (.call 82 [(.t 5),(.t 7),(.c (.int .i64 2))]),zM 4 8] none)
 .ret))
theorem f36:aI Tryz.prog 36 9 c36 [.tmp 4]:=⟨_,Tryz.func36,rfl,by kernel_rfl,rfl⟩
def c37:AC:=(.seq (.reg [zG 4 (.mov (.c (.sl 1 [] (.exact 0))))] none)
 (.seq (.reg [zM 5 0,zM 6 1,zG 7 (.conv (.toInt .u32) (.t 6)),zG 8 (.call 83 [(.t 5),(.t 7),(.c (.int .i64 4))]),zM 4 8] none)
 .ret))
theorem f37:aI Tryz.prog 37 9 c37 [.tmp 4]:=⟨_,Tryz.func37,rfl,by kernel_rfl,rfl⟩
def c38:AC:=(.seq (.reg [zG 4 (.mov (.c (.sl 1 [] (.exact 0))))] none)
 (.seq (.reg [zM 5 0,zM 6 1,zG 7 (.conv (.toInt .u8) (.t 6)),zG 8 (.call 84 [(.t 5),(.t 7),(.c (.int .i64 1))]),zM 4 8] none)
 .ret))
theorem f38:aI Tryz.prog 38 9 c38 [.tmp 4]:=⟨_,Tryz.func38,rfl,by kernel_rfl,rfl⟩
def c39:AC:=(.seq (.reg [zG 4 (.mov (.c (.sl 1 [] (.exact 0))))] none)
 (.seq (.reg [zM 5 0,zM 6 1,zG 7 (.len true (.t 6)),zG 8 (.call 38 [(.t 5),(.t 7)]),zM 9 1,zG 10 (.app true 1 1 (.t 8) (.t 9)),zM 4 10] none)
 .ret))
theorem f39:aI Tryz.prog 39 11 c39 [.tmp 4]:=⟨_,Tryz.func39,rfl,by kernel_rfl,rfl⟩
def c40:AC:=(.seq (.reg [zG 1 (.box (.t 0)),zG 2 (.mov (.c (.str []))),zG 3 (.mov (.c (.int .i64 0)))] none)
 (.seq (.seq (.reg [zF 6 0 1,zL 7 6,zG 8 (.bin .lss (.t 7) (.c (.int .i64 0))),zM 9 8,zf 10 9 false 0 1,zl 11 9 false 10,zg 12 9 false (.bin .gtr (.t 11) (.c (.int .i64 2560))),zO 13 9 12,zM 14 13,zf 15 14 false 1 1,zw 16 14 false 2 15,zg 17 14 false (.call 85 [(.t 16)]),zg 18 14 false (.bin .neq (.t 17) (.c (.int .i64 0))),zO 19 14 18,zM 20 19,zf 21 20 false 3 1,zl 22 20 false 21,zm 23 20 false 22,zf 24 23 true 0 1,zl 25 23 true 24,zg 26 23 true (.bin .gtr (.t 25) (.c (.int .i64 0))),zm 27 23 true 26,zf 28 27 false 1 1,zw 29 27 false 2 28,zg 30 27 false (.build [.int .i64 0,.int .i64 0] []),zg 31 27 false (.eqA true [.int,.int] (.t 29) (.t 30)),zg 32 23 true (.pick (.t 27) (.c (.bool true)) (.t 31)),zg 33 20 false (.pick (.t 23) (.t 32) (.c (.bool false))),zO 34 20 33] none)
 (.cond (.t 34) (.seq (.reg [zG 2 (.mov (.c (.str []))),zG 3 (.mov (.c (.int .i64 2)))] none)
 .ret) .skip))
 (.seq (.reg [zG 4 (.mov (.c (.int .i64 0)))] none)
 (.seq (.seq (.reg [zF 35 3 1,zL 36 35] none)
 (.cond (.t 36) (.reg [zM 37 4,zG 38 (.bin .or (.t 37) (.c (.int .i64 1))),zM 4 38] none) .skip))
 (.seq (.seq (.reg [zF 39 4 1,zL 40 39] none)
 (.cond (.t 40) (.reg [zM 41 4,zG 42 (.bin .or (.t 41) (.c (.int .i64 2))),zM 4 42] none) .skip))
 (.seq (.reg [zM 43 4,zG 44 (.call 38 [(.c (.sl 1 [] (.exact 0))),(.t 43)]),zF 45 0 1,zL 46 45,zG 47 (.call 36 [(.t 44),(.t 46)]),zM 5 47] (some [(1,3)]))
 (.seq (.reg [zM 48 5,zF 49 1 1,zF 50 0 49,zL 51 50,zG 52 (.call 37 [(.t 48),(.t 51)]),zF 53 1 1,zF 54 1 53,zL 55 54,zG 56 (.call 37 [(.t 52),(.t 55)]),zG 57 (.conv .b2s (.t 56)),zM 2 57,zG 3 (.mov (.c (.int .i64 0)))] (some [(3,7),(4,7)]))
 .ret)))))))
theorem f40:aI Tryz.prog 40 58 c40 [.tmp 2,.tmp 3]:=⟨_,Tryz.func40,rfl,by kernel_rfl,rfl⟩
def c41:AC:=(.seq (.reg [zG 4 (.mov (.c (.sl 1 [] (.exact 0))))] none)
 (.seq (.reg [zM 5 0,zM 6 1,zG 7 (.conv (.toInt .u64) (.t 6)),zG 8 (.call 86 [(.t 5),(.t 7),(.c (.int .i64 8))]),zM 4 8] none)
 .ret))
theorem f41:aI Tryz.prog 41 9 c41 [.tmp 4]:=⟨_,Tryz.func41,rfl,by kernel_rfl,rfl⟩
def c42:AC:=(.seq (.reg [zG 2 (.mov (.c (.int .i64 0)))] none)
 (.seq (.reg [zG 3 (.mov (.c (.int .u32 4294967295)))] none)
 (.seq (.seq (.reg [zM 6 0,zG 7 (.len false (.t 6)),zG 8 (.mov (.c (.int .i64 0)))] none)
 (.block 0 (.loop (.seq (.reg [zG 9 (.bin .lss (.t 8) (.t 7))] none)
 (.seq (.cond (.t 9) .skip (.exit 0))
 (.seq (.block 1 (.seq (.reg [zG 10 (.iaddr 1 (.t 6) (.t 8)),zL 11 10,zM 5 11] none)
 (.seq (.reg [zM 12 3,zM 13 5,zG 14 (.conv (.toInt .u32) (.t 13)),zG 15 (.bin .xor (.t 12) (.t 14)),zM 3 15] none)
 (.seq (.reg [zG 16 (.mov (.c (.int .i64 0)))] none)
 (.block 2 (.loop (.seq (.reg [zG 17 (.bin .lss (.t 16) (.c (.int .i64 8)))] none)
 (.seq (.cond (.t 17) .skip (.exit 2))
 (.seq (.block 3 (.reg [zM 18 3,zG 19 (.bin .shr (.t 18) (.c (.int .u64 1))),zM 20 3,zG 21 (.bin .and (.t 20) (.c (.int .u32 1))),zG 22 (.un .neg (.t 21)),zG 23 (.bin .and (.c (.int .u32 2197175160)) (.t 22)),zG 24 (.bin .xor (.t 19) (.t 23)),zM 3 24] none))
 (.reg [zG 25 (.bin .add (.t 16) (.c (.int .i64 1))),zM 16 25] none))))))))))
 (.reg [zG 26 (.bin .add (.t 8) (.c (.int .i64 1))),zM 8 26] none)))))))
 (.seq (.reg [zM 27 3,zG 28 (.un .xor (.t 27)),zG 29 (.conv (.toInt .i64) (.t 28)),zM 2 29] none)
 .ret))))
theorem f42:aI Tryz.prog 42 30 c42 [.tmp 2]:=⟨_,Tryz.func42,rfl,by kernel_rfl,rfl⟩
def c44:AC:=(.seq (.reg [zG 1 (.box (.t 0)),zG 2 (.mov (.c (.sc .nilFunc)))] none)
 (.seq (.reg [zG 3 (.mkfn (.func 91) [] [(.t 1)]),zM 2 3] none)
 .ret))
theorem f44:aI Tryz.prog 44 4 c44 [.tmp 2]:=⟨_,Tryz.func44,rfl,by kernel_rfl,rfl⟩
def c45:AC:=(.seq (.reg [zM 5 0,zG 6 (.len false (.t 5)),zM 4 6] none)
 (.reg [zM 7 0,zM 8 4,zM 9 4,zG 10 (.conv (.toInt .u64) (.t 9)),zG 11 (.call 95 [(.t 10)]),zM 12 1,zG 13 (.call 94 [(.t 7),(.c (.int .i64 0)),(.t 8),(.t 11),(.t 12)])] none))
theorem f45:aI Tryz.prog 45 14 c45 []:=⟨_,Tryz.func45,rfl,by kernel_rfl,rfl⟩
def c47:AC:=(.seq (.reg [zG 1 (.box (.t 0)),zG 2 (.mov (.c (.sl 1 [] (.exact 0))))] none)
 (.seq (.reg [zF 15 1 1,zL 16 15,zG 17 (.call 97 [(.t 16)]),zM 14 17,zE 18 14 0,zE 19 14 1,zM 3 18,zM 4 19] none)
 (.seq (.reg [zF 20 0 1,zL 21 20,zG 22 (.call 98 [(.c (.int .i64 1)),(.t 21),(.c (.str [])),(.c (.sl 1 [] (.exact 0)))]),zM 23 3,zG 24 (.build [.str [],.str [],.bool false] [(0,1,(.t 22)),(1,1,(.t 23))]),zG 25 (.buildSl 3 [(.t 24)]),zG 26 (.buildSl 1 [(.t 25)]),zM 5 26] none)
 (.seq (.seq (.reg [zG 6 (.mov (.c (.int .i64 0)))] none)
 (.block 0 (.loop (.seq (.seq (.reg [zM 27 6,zF 28 2 1,zL 29 28,zG 30 (.len false (.t 29)),zG 31 (.bin .lss (.t 27) (.t 30))] none)
 (.cond (.t 31) .skip (.exit 0)))
 (.seq (.block 1 (.seq (.reg [zF 34 2 1,zL 35 34,zM 36 6,zG 37 (.iaddr 8 (.t 35) (.t 36)),zW 38 8 37,zG 7 (.alloc [.str [],.int .i64 0,.int .i64 0,.int .i64 0,.int .i64 0,.bool false,.bool false,.str []]),zH (.store 8 (.t 7) (.t 38))] none)
 (.seq (.reg [zF 40 2 7,zW 41 5 40,zG 42 (.call 89 [(.t 41)]),zM 39 42,zE 43 39 0,zE 44 39 1,zM 8 43,zM 9 44] none)
 (.seq (.reg [zF 45 0 1,zL 46 45,zF 47 0 7,zL 48 47,zF 49 1 7,zL 50 49,zG 51 (.buildSl 1 [(.t 50)]),zG 52 (.call 98 [(.c (.int .i64 2)),(.t 46),(.t 48),(.t 51)]),zM 53 8,zG 54 (.build [.str [],.str [],.bool false] [(0,1,(.t 52)),(1,1,(.t 53))]),zG 55 (.buildSl 3 [(.t 54)]),zM 10 55] none)
 (.seq (.reg [zF 57 7 7,zL 58 57,zG 59 (.call 99 [(.t 58)]),zM 56 59,zE 60 56 0,zE 61 56 1,zM 11 60,zM 12 61] none)
 (.seq (.seq (.reg [zG 13 (.mov (.c (.int .i64 0)))] none)
 (.block 2 (.loop (.seq (.seq (.reg [zM 62 13,zM 63 11,zG 64 (.len false (.t 63)),zG 65 (.bin .lss (.t 62) (.t 64))] none)
 (.cond (.t 65) .skip (.exit 2)))
 (.seq (.block 3 (.reg [zM 68 10,zF 69 0 1,zL 70 69,zF 71 0 7,zL 72 71,zF 73 1 7,zL 74 73,zM 75 13,zG 76 (.buildSl 1 [(.t 74),(.t 75)]),zG 77 (.call 98 [(.c (.int .i64 3)),(.t 70),(.t 72),(.t 76)]),zM 78 11,zM 79 13,zG 80 (.iaddr 1 (.t 78) (.t 79)),zL 81 80,zG 82 (.build [.str [],.str [],.bool false] [(0,1,(.t 77)),(1,1,(.t 81))]),zG 83 (.buildSl 3 [(.t 82)]),zG 84 (.app false 3 40 (.t 68) (.t 83)),zM 10 84] (some [(2,4),(2,6),(4,6),(2,8),(4,8),(2,13),(4,13),(6,13),(8,13),(9,13)])))
 (.reg [zM 66 13,zG 67 (.bin .add (.t 66) (.c (.int .i64 1))),zM 13 67] none))))))
 (.reg [zM 85 5,zM 86 10,zG 87 (.buildSl 1 [(.t 86)]),zG 88 (.app false 1 24 (.t 85) (.t 87)),zM 5 88] none)))))))
 (.reg [zM 32 6,zG 33 (.bin .add (.t 32) (.c (.int .i64 1))),zM 6 33] none))))))
 (.seq (.reg [zM 89 5,zM 2 89] none)
 .ret)))))
theorem f47:aI Tryz.prog 47 90 c47 [.tmp 2]:=⟨_,Tryz.func47,rfl,by kernel_rfl,rfl⟩
def c48:AC:=(.seq (.reg [zG 6 (.mov (.c (.sl 2 [] (.exact 0)))),zG 7 (.mov (.c (.int .i64 0)))] none)
 (.seq (.seq (.reg [zM 11 1,zG 12 (.len true (.t 11)),zG 13 (.bin .gtr (.t 12) (.c (.int .i64 128))),zM 14 13,zm 15 14 false 2,zg 16 14 false (.len true (.t 15)),zg 17 14 false (.bin .gtr (.t 16) (.c (.int .i64 200))),zO 18 14 17] none)
 (.cond (.t 18) (.seq (.reg [zM 19 0,zM 6 19,zG 7 (.mov (.c (.int .i64 2)))] none)
 .ret) .skip))
 (.seq (.reg [zG 8 (.mov (.c (.sl 2 [] (.exact 0))))] none)
 (.seq (.reg [zG 9 (.mov (.c (.bool false)))] none)
 (.seq (.seq (.reg [zG 10 (.mov (.c (.int .i64 0)))] none)
 (.block 0 (.loop (.seq (.seq (.reg [zM 20 10,zM 21 0,zG 22 (.len false (.t 21)),zG 23 (.bin .lss (.t 20) (.t 22))] none)
 (.cond (.t 23) .skip (.exit 0)))
 (.seq (.block 1 (.seq (.seq (.reg [zM 26 9,zN 27 26,zM 28 27,zm 29 28 true 0,zm 30 28 true 10,zg 31 28 true (.iaddr 2 (.t 29) (.t 30)),zf 32 28 true 0 31,zl 33 28 true 32,zm 34 28 true 1,zg 35 28 true (.call 53 [(.t 33),(.t 34)]),zn 36 28 true 35,zA 37 28 36] none)
 (.cond (.t 37) (.seq (.reg [zM 38 8,zM 39 1,zM 40 2,zG 41 (.build [.str [],.str []] [(0,1,(.t 39)),(1,1,(.t 40))]),zG 42 (.buildSl 2 [(.t 41)]),zG 43 (.app false 2 32 (.t 38) (.t 42)),zM 8 43] none)
 (.reg [zG 9 (.mov (.c (.bool true)))] none)) .skip))
 (.seq (.reg [zM 44 0,zM 45 10,zG 46 (.iaddr 2 (.t 44) (.t 45)),zF 47 0 46,zL 48 47,zM 49 1,zG 50 (.bin .neq (.t 48) (.t 49))] none)
 (.cond (.t 50) (.reg [zM 51 8,zM 52 0,zM 53 10,zG 54 (.iaddr 2 (.t 52) (.t 53)),zW 55 2 54,zG 56 (.buildSl 2 [(.t 55)]),zG 57 (.app false 2 32 (.t 51) (.t 56)),zM 8 57] none) .skip))))
 (.reg [zM 24 10,zG 25 (.bin .add (.t 24) (.c (.int .i64 1))),zM 10 25] none))))))
 (.seq (.seq (.reg [zM 58 9,zN 59 58] none)
 (.cond (.t 59) (.reg [zM 60 8,zM 61 1,zM 62 2,zG 63 (.build [.str [],.str []] [(0,1,(.t 61)),(1,1,(.t 62))]),zG 64 (.buildSl 2 [(.t 63)]),zG 65 (.app false 2 32 (.t 60) (.t 64)),zM 8 65] none) .skip))
 (.seq (.reg [zM 66 8,zM 6 66,zG 7 (.mov (.c (.int .i64 0)))] none)
 .ret)))))))
theorem f48:aI Tryz.prog 48 67 c48 [.tmp 6,.tmp 7]:=⟨_,Tryz.func48,rfl,by kernel_rfl,rfl⟩
def c49:AC:=(.seq (.reg [zG 2 (.mov (.c (.str []))),zG 3 (.mov (.c (.int .i64 0)))] none)
 (.seq (.seq (.reg [zM 4 0,zG 5 (.bin .lss (.t 4) (.c (.int .i64 0))),zM 6 5,zm 7 6 false 0,zg 8 6 false (.bin .gtr (.t 7) (.c (.int .i64 2))),zO 9 6 8] none)
 (.cond (.t 9) (.seq (.reg [zG 2 (.mov (.c (.str []))),zG 3 (.mov (.c (.int .i64 2)))] none)
 .ret) .skip))
 (.seq (.reg [zM 10 0,zG 11 (.conv (.toInt .u8) (.t 10)),zG 12 (.bin .add (.c (.int .u8 48)) (.t 11)),zG 13 (.buildSl 1 [(.t 12)]),zG 14 (.conv .b2s (.t 13)),zM 2 14,zG 3 (.mov (.c (.int .i64 0)))] none)
 .ret)))
theorem f49:aI Tryz.prog 49 15 c49 [.tmp 2,.tmp 3]:=⟨_,Tryz.func49,rfl,by kernel_rfl,rfl⟩
def c50:AC:=(.seq (.reg [zG 2 (.mov (.c (.int .i64 0)))] none)
 (.seq (.seq (.reg [zM 5 0,zG 6 (.len true (.t 5)),zG 7 (.bin .lss (.t 6) (.c (.int .i64 3))),zM 8 7,zm 9 8 false 0,zg 10 8 false (.len true (.t 9)),zg 11 8 false (.bin .gtr (.t 10) (.c (.int .i64 12))),zO 12 8 11] none)
 (.cond (.t 12) (.seq (.reg [zG 2 (.mov (.c (.int .i64 15)))] none)
 .ret) .skip))
 (.seq (.seq (.reg [zM 13 0,zG 14 (.len true (.t 13)),zG 15 (.mov (.c (.int .i64 0)))] none)
 (.block 0 (.loop (.seq (.reg [zG 16 (.bin .lss (.t 15) (.t 14))] none)
 (.seq (.cond (.t 16) .skip (.exit 0))
 (.seq (.block 1 (.seq (.reg [zM 17 15,zM 3 17] none)
 (.seq (.reg [zM 18 0,zM 19 3,zG 20 (.idx (.t 18) (.t 19)),zM 4 20] none)
 (.block 2 (.seq (.block 4 (.seq (.block 3 (.seq (.seq (.seq (.reg [zM 22 4,zG 23 (.bin .eql (.t 22) (.c (.int .u8 45))),zM 21 23] none)
 (.cond (.t 21) (.exit 3) .skip))
 (.seq (.reg [zM 25 4,zG 26 (.bin .lss (.t 25) (.c (.int .u8 48))),zM 27 26,zm 28 27 false 4,zg 29 27 false (.bin .gtr (.t 28) (.c (.int .u8 57))),zm 30 27 false 29,zm 31 30 true 4,zg 32 30 true (.bin .lss (.t 31) (.c (.int .u8 97))),zg 33 27 false (.pick (.t 30) (.t 32) (.c (.bool false))),zO 34 27 33,zM 35 34,zm 36 35 false 4,zg 37 35 false (.bin .gtr (.t 36) (.c (.int .u8 122))),zO 38 35 37,zM 24 38] none)
 (.cond (.t 24) (.exit 4) .skip)))
 (.exit 2)))
 (.seq (.reg [zM 39 3,zG 40 (.bin .gtr (.t 39) (.c (.int .i64 0))),zM 41 40,zm 42 41 true 3,zm 43 41 true 0,zg 44 41 true (.len true (.t 43)),zg 45 41 true (.bin .sub (.t 44) (.c (.int .i64 1))),zg 46 41 true (.bin .lss (.t 42) (.t 45)),zA 47 41 46] none)
 (.cond (.t 47) (.exit 1) .skip))))
 (.seq (.seq (.reg [zG 2 (.mov (.c (.int .i64 15)))] none)
 .ret)
 (.exit 2)))))))
 (.reg [zG 48 (.bin .add (.t 15) (.c (.int .i64 1))),zM 15 48] none)))))))
 (.seq (.reg [zG 2 (.mov (.c (.int .i64 0)))] none)
 .ret))))
theorem f50:aI Tryz.prog 50 49 c50 [.tmp 2]:=⟨_,Tryz.func50,rfl,by kernel_rfl,rfl⟩
def c51:AC:=(.seq (.reg [zG 2 (.mov (.c (.bool false)))] none)
 (.seq (.reg [zG 3 (.mov (.c (.int .i64 0)))] none)
 (.seq (.seq (.reg [zM 7 0,zG 8 (.len false (.t 7)),zG 9 (.mov (.c (.int .i64 0)))] none)
 (.block 0 (.loop (.seq (.reg [zG 10 (.bin .lss (.t 9) (.t 8))] none)
 (.seq (.cond (.t 10) .skip (.exit 0))
 (.seq (.block 1 (.seq (.reg [zM 11 9,zG 12 (.iaddr 8 (.t 7) (.t 9)),zW 13 8 12,zG 5 (.alloc [.str [],.int .i64 0,.int .i64 0,.int .i64 0,.int .i64 0,.bool false,.bool false,.str []]),zM 4 11,zH (.store 8 (.t 5) (.t 13))] none)
 (.seq (.seq (.reg [zF 14 0 5,zL 15 14,zG 16 (.call 100 [(.t 15)]),zG 17 (.bin .neq (.t 16) (.c (.int .i64 0))),zM 18 17,zf 19 18 false 1 5,zl 20 18 false 19,zg 21 18 false (.bin .lss (.t 20) (.c (.int .i64 0))),zO 22 18 21,zM 23 22,zf 24 23 false 1 5,zl 25 23 false 24,zg 26 23 false (.bin .gtr (.t 25) (.c (.int .i64 1152921504606846976))),zO 27 23 26,zM 28 27,zw 29 28 false 8 5,zg 30 28 false (.call 101 [(.t 29)]),zn 31 28 false 30,zO 32 28 31] none)
 (.cond (.t 32) (.seq (.reg [zG 2 (.mov (.c (.bool false)))] none)
 .ret) .skip))
 (.seq (.reg [zM 33 4,zG 34 (.bin .gtr (.t 33) (.c (.int .i64 0))),zM 35 34,zm 36 35 true 0,zm 37 35 true 4,zg 38 35 true (.bin .sub (.t 37) (.c (.int .i64 1))),zg 39 35 true (.iaddr 8 (.t 36) (.t 38)),zf 40 35 true 0 39,zl 41 35 true 40,zf 42 35 true 0 5,zl 43 35 true 42,zg 44 35 true (.bin .eql (.t 41) (.t 43)),zA 45 35 44,zM 6 45] (some [(8,10)]))
 (.seq (.block 2 (.seq (.reg [zM 47 6,zM 48 47,zm 49 48 true 0,zm 50 48 true 4,zg 51 48 true (.bin .sub (.t 50) (.c (.int .i64 1))),zg 52 48 true (.iaddr 8 (.t 49) (.t 51)),zf 53 48 true 1 52,zl 54 48 true 53,zf 55 48 true 1 5,zl 56 48 true 55,zg 57 48 true (.bin .leq (.t 54) (.t 56)),zA 58 48 57,zM 46 58] (some [(7,9)]))
 (.cond (.t 46) (.seq (.reg [zG 2 (.mov (.c (.bool false)))] none)
 .ret) (.seq (.reg [zM 60 6,zN 61 60,zM 62 61,zm 63 62 true 4,zg 64 62 true (.bin .gtr (.t 63) (.c (.int .i64 0))),zA 65 62 64,zM 66 65,zm 67 66 true 0,zm 68 66 true 4,zg 69 66 true (.bin .sub (.t 68) (.c (.int .i64 1))),zg 70 66 true (.iaddr 8 (.t 67) (.t 69)),zf 71 66 true 0 70,zl 72 66 true 71,zf 73 66 true 0 5,zl 74 66 true 73,zg 75 66 true (.bin .gtr (.t 72) (.t 74)),zA 76 66 75,zM 59 76] (some [(12,14)]))
 (.cond (.t 59) (.seq (.reg [zG 2 (.mov (.c (.bool false)))] none)
 .ret) (.seq (.reg [zM 78 6,zN 79 78,zM 77 79] none)
 (.cond (.t 77) (.reg [zG 3 (.mov (.c (.int .i64 0)))] none) .skip)))))))
 (.seq (.seq (.reg [zF 80 2 5,zF 81 4 80,zL 82 81] none)
 (.cond (.t 82) (.reg [zM 83 3,zG 84 (.bin .add (.t 83) (.c (.int .i64 1))),zM 3 84] none) .skip))
 (.seq (.reg [zM 85 3,zG 86 (.bin .gtr (.t 85) (.c (.int .i64 1)))] none)
 (.cond (.t 86) (.seq (.reg [zG 2 (.mov (.c (.bool false)))] none)
 .ret) .skip))))))))
 (.reg [zG 87 (.bin .add (.t 9) (.c (.int .i64 1))),zM 9 87] none)))))))
 (.seq (.reg [zG 2 (.mov (.c (.bool true)))] none)
 .ret))))
theorem f51:aI Tryz.prog 51 88 c51 [.tmp 2]:=⟨_,Tryz.func51,rfl,by kernel_rfl,rfl⟩
def c55:AC:=(.seq (.reg [zL 5 0,zG 6 (.call 57 [(.t 5),(.c (.int .i64 4))]),zG 7 (.bin .eql (.t 6) (.c (.str [65,82,67,72]))),zG 8 (.call 56 [(.t 7)])] none)
 (.seq (.seq (.reg [zL 9 0,zL 10 0,zG 11 (.call 59 [(.t 10),(.c (.int .i64 2))]),zG 12 (.call 58 [(.t 9),(.t 11)])] (some [(0,1),(0,2)]))
 (.block 0 (.p8 (.t 12) [13] (.reg [zG 3 (.alloc [.str [],.int .i64 0,.sl 8 [] (.exact 0)]),zH (.store 3 (.t 3) (.t 13))] none)
 (.block 1 (.reg [zF 14 0 1,zL 15 14,zW 16 3 3,zG 17 (.buildSl 3 [(.t 16)]),zG 18 (.app false 3 48 (.t 15) (.t 17)),zF 19 0 1,zH (.store 1 (.t 19) (.t 18))] none)))))
 (.seq (.reg [zL 20 2,zL 21 0,zK 22 21,zF 23 1 22,zL 24 23,zG 25 (.slc false 1 (.t 20) none (some (.t 24)) none),zG 26 (.call 42 [(.t 25)]),zM 4 26] (some [(0,1),(0,4)]))
 (.seq (.reg [zL 27 0,zG 28 (.call 59 [(.t 27),(.c (.int .i64 4))]),zM 29 4,zG 30 (.bin .eql (.t 28) (.t 29)),zM 31 30,zl 32 31 true 0,zk 33 31 true 32,zf 34 31 true 1 33,zl 35 31 true 34,zl 36 31 true 2,zg 37 31 true (.len false (.t 36)),zg 38 31 true (.bin .eql (.t 35) (.t 37)),zA 39 31 38,zG 40 (.call 56 [(.t 39)])] (some [(5,9),(8,9)]))
 (.reg [zW 41 1 1,zG 42 (.call 15 [(.t 41)]),zG 43 (.bin .eql (.t 42) (.c (.int .i64 0))),zG 44 (.call 56 [(.t 43)])] none)))))
theorem f55:aI Tryz.prog 55 45 c55 []:=⟨_,Tryz.func55,rfl,by kernel_rfl,rfl⟩
def c56:AC:=(.seq (.reg [zM 2 0,zN 3 2] none)
 (.cond (.t 3) (.reg [zG 4 (.ifc 28 (.c (.int .i64 4))),zH (.pan (.t 4))] none) .skip))
theorem f56:aI Tryz.prog 56 5 c56 []:=⟨_,Tryz.func56,rfl,by kernel_rfl,rfl⟩
def c57:AC:=(.seq (.reg [zG 4 (.mov (.c (.str [])))] none)
 (.seq (.reg [zM 5 0,zK 6 5,zF 7 0 6,zL 8 7,zG 9 (.len false (.t 8)),zM 10 0,zK 11 10,zF 12 1 11,zL 13 12,zG 14 (.bin .sub (.t 9) (.t 13)),zM 15 1,zG 16 (.bin .geq (.t 14) (.t 15)),zG 17 (.call 56 [(.t 16)])] (some [(3,8)]))
 (.seq (.reg [zM 18 0,zK 19 18,zF 20 1 19,zL 21 20,zM 22 1,zG 23 (.bin .add (.t 21) (.t 22)),zK 24 18,zF 25 1 24,zH (.store 1 (.t 25) (.t 23))] none)
 (.seq (.reg [zM 26 0,zK 27 26,zF 28 0 27,zL 29 28,zM 30 0,zK 31 30,zF 32 1 31,zL 33 32,zM 34 1,zG 35 (.bin .sub (.t 33) (.t 34)),zM 36 0,zK 37 36,zF 38 1 37,zL 39 38,zG 40 (.slc false 1 (.t 29) (some (.t 35)) (some (.t 39)) none),zG 41 (.conv .b2s (.t 40)),zM 4 41] (some [(3,7),(3,13),(7,13)]))
 .ret))))
theorem f57:aI Tryz.prog 57 42 c57 [.tmp 4]:=⟨_,Tryz.func57,rfl,by kernel_rfl,rfl⟩
def c58:AC:=(.seq (.reg [zG 2 (.box (.t 0)),zG 3 (.box (.t 1)),zG 4 (.mov (.c (.sc .nilFunc)))] none)
 (.seq (.reg [zG 5 (.mkfn (.func 105) [] [(.t 3),(.t 2)]),zM 4 5] none)
 .ret))
theorem f58:aI Tryz.prog 58 6 c58 [.tmp 4]:=⟨_,Tryz.func58,rfl,by kernel_rfl,rfl⟩
def c59:AC:=(.seq (.reg [zG 4 (.mov (.c (.int .i64 0)))] none)
 (.seq (.reg [zG 5 (.mov (.c (.int .u64 0)))] none)
 (.seq (.seq (.reg [zM 8 0,zM 9 1,zG 10 (.call 57 [(.t 8),(.t 9)]),zG 11 (.conv .s2b (.t 10)),zG 12 (.len false (.t 11)),zG 13 (.mov (.c (.int .i64 0)))] none)
 (.block 0 (.loop (.seq (.reg [zG 14 (.bin .lss (.t 13) (.t 12))] none)
 (.seq (.cond (.t 14) .skip (.exit 0))
 (.seq (.block 1 (.seq (.reg [zG 15 (.iaddr 1 (.t 11) (.t 13)),zL 16 15,zM 7 16] none)
 (.reg [zM 17 5,zG 18 (.bin .shl (.t 17) (.c (.int .u64 8))),zM 19 7,zG 20 (.conv (.toInt .u64) (.t 19)),zG 21 (.bin .or (.t 18) (.t 20)),zM 5 21] none)))
 (.reg [zG 22 (.bin .add (.t 13) (.c (.int .i64 1))),zM 13 22] none)))))))
 (.seq (.reg [zM 23 5,zG 24 (.conv (.toInt .i64) (.t 23)),zM 4 24] none)
 .ret))))
theorem f59:aI Tryz.prog 59 25 c59 [.tmp 4]:=⟨_,Tryz.func59,rfl,by kernel_rfl,rfl⟩
def c63:AC:=(.seq (.seq (.reg [zL 6 0,zG 7 (.len false (.t 6)),zG 8 (.mov (.c (.int .i64 0)))] none)
 (.block 0 (.loop (.seq (.reg [zG 9 (.bin .lss (.t 8) (.t 7))] none)
 (.seq (.cond (.t 9) .skip (.exit 0))
 (.seq (.block 1 (.seq (.reg [zM 10 8,zG 11 (.iaddr 2 (.t 6) (.t 8)),zW 12 2 11,zG 3 (.alloc [.str [],.str []]),zM 2 10,zH (.store 2 (.t 3) (.t 12))] none)
 (.seq (.reg [zM 13 2,zG 14 (.bin .eql (.t 13) (.c (.int .i64 0))),zM 15 14,zl 16 15 false 0,zm 17 15 false 2,zg 18 15 false (.bin .sub (.t 17) (.c (.int .i64 1))),zg 19 15 false (.iaddr 2 (.t 16) (.t 18)),zf 20 15 false 0 19,zl 21 15 false 20,zf 22 15 false 0 3,zl 23 15 false 22,zg 24 15 false (.bin .lss (.t 21) (.t 23)),zO 25 15 24,zG 26 (.call 56 [(.t 25)])] (some [(3,10),(8,10)]))
 (.reg [zL 27 1,zW 28 2 3,zG 29 (.call 64 [(.t 27),(.t 28)])] none))))
 (.reg [zG 30 (.bin .add (.t 8) (.c (.int .i64 1))),zM 8 30] none)))))))
 (.seq (.reg [zL 31 1,zK 32 31,zF 33 1 32,zL 34 33,zG 35 (.mlen (.t 34)),zG 36 (.bin .eql (.t 35) (.c (.int .i64 0))),zG 37 (.call 56 [(.t 36)])] none)
 (.seq (.reg [zL 39 1,zK 40 39,zF 41 0 40,zW 42 1 41,zG 43 (.call 13 [(.t 42)]),zM 38 43,zE 44 38 0,zE 45 38 1,zM 4 44,zM 5 45] none)
 (.reg [zM 46 5,zG 47 (.bin .eql (.t 46) (.c (.int .i64 0))),zM 48 47,zm 49 48 true 4,zl 50 48 true 0,zg 51 48 true (.call 65 [(.t 49),(.t 50)]),zA 52 48 51,zG 53 (.call 56 [(.t 52)])] none))))
theorem f63:aI Tryz.prog 63 54 c63 []:=⟨_,Tryz.func63,rfl,by kernel_rfl,rfl⟩
def c64:AC:=(.seq (.reg [zG 3 (.box (.t 1))] none)
 (.seq (.reg [zF 17 0 3,zL 18 17,zG 19 (.call 110 [(.t 18)]),zM 16 19,zE 20 16 0,zE 21 16 1,zG 4 (.alloc [.int .i64 0,.str [],.str [],.sl 1 [] (.exact 0)]),zH (.store 4 (.t 4) (.t 20)),zM 5 21] none)
 (.seq (.reg [zM 22 5,zG 23 (.bin .eql (.t 22) (.c (.int .i64 0))),zG 24 (.call 56 [(.t 23)])] none)
 (.seq (.reg [zF 25 0 4,zL 26 25] none)
 (.block 0 (.seq (.reg [zG 29 (.bin .eql (.t 26) (.c (.int .i64 1))),zM 28 29] none)
 (.cond (.t 28) (.seq (.reg [zF 31 1 3,zL 32 31,zG 33 (.call 111 [(.t 32)]),zM 30 33,zE 34 30 0,zE 35 30 1,zM 6 34,zM 7 35] none)
 (.seq (.reg [zM 36 7,zG 37 (.bin .eql (.t 36) (.c (.int .i64 0))),zG 38 (.call 56 [(.t 37)])] none)
 (.reg [zM 39 0,zM 40 0,zK 41 40,zF 42 0 41,zF 43 0 42,zL 44 43,zF 45 1 4,zL 46 45,zM 47 6,zG 48 (.build [.str [],.int .i64 0,.sl 8 [] (.exact 0)] [(0,1,(.t 46)),(1,1,(.t 47))]),zG 49 (.buildSl 3 [(.t 48)]),zG 50 (.app false 3 48 (.t 44) (.t 49)),zK 51 39,zF 52 0 51,zF 53 0 52,zH (.store 1 (.t 53) (.t 50))] (some [(5,7),(5,10)])))) (.seq (.reg [zG 55 (.bin .eql (.t 26) (.c (.int .i64 3))),zM 54 55] none)
 (.cond (.t 54) (.seq (.reg [zF 56 1 4,zL 57 56,zF 58 2 4,zL 59 58,zF 60 3 4,zL 61 60,zG 62 (.iaddr 1 (.t 61) (.c (.int .i64 0))),zL 63 62,zG 64 (.build [.str [],.str [],.int .i64 0] [(0,1,(.t 57)),(1,1,(.t 59)),(2,1,(.t 63))]),zG 8 (.alloc [.str [],.str [],.int .i64 0]),zH (.store 3 (.t 8) (.t 64))] (some [(1,3),(1,5),(3,5),(1,7),(3,7),(1,9),(3,9),(5,9),(7,9)]))
 (.seq (.reg [zM 65 0,zK 66 65,zF 67 1 66,zL 68 67,zW 69 3 8,zG 70 (.mlookK [.str,.str,.int] (.agg [.str [],.int .i64 0]) false (.t 68) (.t 69)),zG 9 (.alloc [.str [],.int .i64 0]),zH (.store 2 (.t 9) (.t 70))] (some [(3,4),(3,6),(4,6),(5,6)]))
 (.seq (.reg [zF 71 3 4,zL 72 71,zG 73 (.iaddr 1 (.t 72) (.c (.int .i64 1))),zL 74 73,zF 75 1 9,zL 76 75,zG 77 (.bin .eql (.t 74) (.t 76)),zG 78 (.call 56 [(.t 77)])] (some [(1,5),(3,5)]))
 (.reg [zM 79 0,zK 80 79,zF 81 1 80,zL 82 81,zW 83 3 8,zF 84 0 9,zL 85 84,zF 86 1 3,zL 87 86,zG 88 (.bin .add (.t 85) (.t 87)),zF 89 1 9,zL 90 89,zG 91 (.bin .add (.t 90) (.c (.int .i64 1))),zG 92 (.build [.str [],.int .i64 0] [(0,1,(.t 88)),(1,1,(.t 91))]),zH (.mputK [.str,.str,.int] (.t 82) (.t 83) (.t 92))] (some [(3,4),(3,6),(4,6),(3,8),(4,8),(6,8),(3,11),(4,11),(6,11),(8,11)]))))) (.seq (.reg [zG 94 (.bin .eql (.t 26) (.c (.int .i64 2))),zM 93 94] none)
 (.cond (.t 93) (.seq (.reg [zF 96 1 3,zL 97 96,zG 98 (.call 112 [(.t 97)]),zM 95 98,zE 99 95 0,zE 100 95 1,zG 10 (.alloc [.int .i64 0,.int .i64 0,.int .i64 0,.bool false,.bool false]),zH (.store 5 (.t 10) (.t 99)),zM 11 100] none)
 (.seq (.reg [zM 102 0,zK 103 102,zF 104 0 103,zF 105 0 104,zL 106 105,zF 107 1 4,zL 108 107,zG 109 (.call 113 [(.t 106),(.t 108),(.c (.clo (.func 114) [] []))]),zM 101 109,zE 110 101 0,zE 111 101 1,zM 12 110,zM 13 111] (some [(4,6)]))
 (.seq (.reg [zM 112 11,zG 113 (.bin .eql (.t 112) (.c (.int .i64 0))),zM 114 113,zm 115 114 true 13,zA 116 114 115,zG 117 (.call 56 [(.t 116)])] none)
 (.seq (.reg [zF 118 1 4,zL 119 118,zF 120 2 4,zL 121 120,zF 122 3 4,zL 123 122,zG 124 (.iaddr 1 (.t 123) (.c (.int .i64 0))),zL 125 124,zG 126 (.build [.str [],.str [],.int .i64 0] [(0,1,(.t 119)),(1,1,(.t 121)),(2,1,(.t 125))]),zG 14 (.alloc [.str [],.str [],.int .i64 0]),zH (.store 3 (.t 14) (.t 126))] (some [(1,3),(1,5),(3,5),(1,7),(3,7),(1,9),(3,9),(5,9),(7,9)]))
 (.seq (.reg [zM 127 0,zK 128 127,zF 129 0 128,zF 130 0 129,zL 131 130,zM 132 12,zG 133 (.iaddr 3 (.t 131) (.t 132)),zM 15 133] none)
 (.seq (.reg [zM 134 15,zM 135 15,zK 136 135,zF 137 2 136,zL 138 137,zF 139 2 4,zL 140 139,zF 141 2 14,zL 142 141,zW 143 5 10,zM 144 0,zK 145 144,zF 146 1 145,zL 147 146,zW 148 3 14,zG 149 (.mlookK [.str,.str,.int] (.agg [.str [],.int .i64 0]) false (.t 147) (.t 148)),zG 150 (.fld 0 none (.t 149)),zG 151 (.build [.str [],.int .i64 0,.int .i64 0,.int .i64 0,.int .i64 0,.bool false,.bool false,.str []] [(0,1,(.t 140)),(1,1,(.t 142)),(2,5,(.t 143)),(7,1,(.t 150))]),zG 152 (.buildSl 8 [(.t 151)]),zG 153 (.app false 8 72 (.t 138) (.t 152)),zK 154 134,zF 155 2 154,zH (.store 1 (.t 155) (.t 153))] (some [(4,6),(4,8),(6,8),(4,9),(6,9),(8,9),(4,13),(6,13),(8,13),(9,13),(4,14),(6,14),(8,14),(9,14),(13,14),(4,15),(6,15),(8,15),(9,15),(4,18)]))
 (.reg [zM 156 0,zK 157 156,zF 158 1 157,zL 159 158,zW 160 3 14,zH (.mdelK [.str,.str,.int] (.t 159) (.t 160))] (some [(3,4)])))))))) (.reg [zG 27 (.call 56 [(.c (.bool false))])] none))))))))))))
theorem f64:aI Tryz.prog 64 161 c64 []:=⟨_,Tryz.func64,rfl,by kernel_rfl,rfl⟩
def c65:AC:=(.seq (.reg [zG 4 (.mov (.c (.bool false)))] none)
 (.seq (.seq (.reg [zM 6 0,zG 7 (.len false (.t 6)),zM 8 1,zG 9 (.len false (.t 8)),zG 10 (.bin .neq (.t 7) (.t 9))] none)
 (.cond (.t 10) (.seq (.reg [zG 4 (.mov (.c (.bool false)))] none)
 .ret) .skip))
 (.seq (.seq (.reg [zM 11 0,zG 12 (.len false (.t 11)),zG 13 (.mov (.c (.int .i64 0)))] none)
 (.block 0 (.loop (.seq (.reg [zG 14 (.bin .lss (.t 13) (.t 12))] none)
 (.seq (.cond (.t 14) .skip (.exit 0))
 (.seq (.block 1 (.seq (.reg [zM 15 13,zM 5 15] none)
 (.seq (.reg [zM 16 0,zM 17 5,zG 18 (.iaddr 2 (.t 16) (.t 17)),zW 19 2 18,zM 20 1,zM 21 5,zG 22 (.iaddr 2 (.t 20) (.t 21)),zW 23 2 22,zG 24 (.eqA true [.str,.str] (.t 19) (.t 23))] (some [(3,7)]))
 (.cond (.t 24) (.seq (.reg [zG 4 (.mov (.c (.bool false)))] none)
 .ret) .skip))))
 (.reg [zG 25 (.bin .add (.t 13) (.c (.int .i64 1))),zM 13 25] none)))))))
 (.seq (.reg [zG 4 (.mov (.c (.bool true)))] none)
 .ret))))
theorem f65:aI Tryz.prog 65 26 c65 [.tmp 4]:=⟨_,Tryz.func65,rfl,by kernel_rfl,rfl⟩
def c69:AC:=(.seq (.reg [zG 4 (.mov (.c (.sl 3 [] (.exact 0))))] none)
 (.scope (.seq (.seq (.reg [zM 11 0,zG 12 (.call 118 [(.t 11)]),zN 13 12,zM 14 13,zm 15 14 false 1,zg 16 14 false (.call 118 [(.t 15)]),zn 17 14 false 16,zO 18 14 17] none)
 (.cond (.t 18) (.seq (.reg [zG 4 (.mov (.c (.sl 3 [] (.exact 0))))] none)
 .ret) .skip))
 (.seq (.reg [zG 5 (.mov (.c (.sl 3 [] (.exact 0))))] none)
 (.seq (.reg [zG 6 (.mov (.c (.int .i64 0)))] none)
 (.seq (.label 0)
 (.seq (.seq (.reg [zM 19 1,zG 20 (.len false (.t 19)),zG 21 (.mov (.c (.int .i64 0)))] none)
 (.block 0 (.loop (.seq (.reg [zG 22 (.bin .lss (.t 21) (.t 20))] none)
 (.seq (.cond (.t 22) .skip (.exit 0))
 (.seq (.block 1 (.seq (.reg [zG 23 (.iaddr 2 (.t 19) (.t 21)),zW 24 2 23,zG 8 (.alloc [.str [],.str []]),zH (.store 2 (.t 8) (.t 24))] none)
 (.seq (.block 2 (.loop (.seq (.seq (.reg [zM 25 6,zM 26 0,zG 27 (.len false (.t 26)),zG 28 (.bin .lss (.t 25) (.t 27)),zM 29 28,zm 30 29 true 0,zm 31 29 true 6,zg 32 29 true (.iaddr 2 (.t 30) (.t 31)),zf 33 29 true 0 32,zl 34 29 true 33,zf 35 29 true 0 8,zl 36 29 true 35,zg 37 29 true (.bin .lss (.t 34) (.t 36)),zA 38 29 37] (some [(9,11)]))
 (.cond (.t 38) .skip (.exit 2)))
 (.block 3 (.seq (.reg [zM 39 5,zM 40 0,zM 41 6,zG 42 (.iaddr 2 (.t 40) (.t 41)),zF 43 0 42,zL 44 43,zG 45 (.build [.str [],.str [],.bool false] [(0,1,(.t 44)),(2,1,(.c (.bool true)))]),zG 46 (.buildSl 3 [(.t 45)]),zG 47 (.app false 3 40 (.t 39) (.t 46)),zM 5 47] none)
 (.reg [zM 48 6,zG 49 (.bin .add (.t 48) (.c (.int .i64 1))),zM 6 49] none))))))
 (.seq (.seq (.reg [zM 50 6,zM 51 0,zG 52 (.len false (.t 51)),zG 53 (.bin .lss (.t 50) (.t 52)),zM 54 53,zm 55 54 true 0,zm 56 54 true 6,zg 57 54 true (.iaddr 2 (.t 55) (.t 56)),zf 58 54 true 0 57,zl 59 54 true 58,zf 60 54 true 0 8,zl 61 54 true 60,zg 62 54 true (.bin .eql (.t 59) (.t 61)),zA 63 54 62] (some [(9,11)]))
 (.cond (.t 63) (.seq (.reg [zM 64 6,zG 65 (.bin .add (.t 64) (.c (.int .i64 1))),zM 6 65] none)
 (.seq (.reg [zM 66 0,zM 67 6,zG 68 (.bin .sub (.t 67) (.c (.int .i64 1))),zG 69 (.iaddr 2 (.t 66) (.t 68)),zF 70 1 69,zL 71 70,zF 72 1 8,zL 73 72,zG 74 (.bin .eql (.t 71) (.t 73))] (some [(5,7)]))
 (.cond (.t 74) (.exit 1) .skip))) .skip))
 (.reg [zM 75 5,zF 76 0 8,zL 77 76,zF 78 1 8,zL 79 78,zG 80 (.build [.str [],.str [],.bool false] [(0,1,(.t 77)),(1,1,(.t 79))]),zG 81 (.buildSl 3 [(.t 80)]),zG 82 (.app false 3 40 (.t 75) (.t 81)),zM 5 82] none)))))
 (.reg [zG 83 (.bin .add (.t 21) (.c (.int .i64 1))),zM 21 83] none)))))))
 (.seq (.seq (.reg [zM 84 0,zM 85 6,zG 86 (.slc false 2 (.t 84) (some (.t 85)) none none),zG 87 (.len false (.t 86)),zG 88 (.mov (.c (.int .i64 0)))] none)
 (.block 4 (.loop (.seq (.reg [zG 89 (.bin .lss (.t 88) (.t 87))] none)
 (.seq (.cond (.t 89) .skip (.exit 4))
 (.seq (.block 5 (.seq (.reg [zG 90 (.iaddr 2 (.t 86) (.t 88)),zW 91 2 90,zG 10 (.alloc [.str [],.str []]),zH (.store 2 (.t 10) (.t 91))] none)
 (.reg [zM 92 5,zF 93 0 10,zL 94 93,zG 95 (.build [.str [],.str [],.bool false] [(0,1,(.t 94)),(2,1,(.c (.bool true)))]),zG 96 (.buildSl 3 [(.t 95)]),zG 97 (.app false 3 40 (.t 92) (.t 96)),zM 5 97] none)))
 (.reg [zG 98 (.bin .add (.t 88) (.c (.int .i64 1))),zM 88 98] none)))))))
 (.seq (.reg [zM 99 5,zM 4 99] none)
 .ret)))))))))
theorem f69:aI Tryz.prog 69 100 c69 [.tmp 4]:=⟨_,Tryz.func69,rfl,by kernel_rfl,rfl⟩
def c82:AC:=(.seq (.reg [zG 6 (.mov (.c (.sl 1 [] (.exact 0))))] none)
 (.seq (.seq (.reg [zM 8 2,zG 9 (.bin .sub (.t 8) (.c (.int .i64 1))),zM 7 9] none)
 (.block 0 (.loop (.seq (.seq (.reg [zM 10 7,zG 11 (.bin .geq (.t 10) (.c (.int .i64 0)))] none)
 (.cond (.t 11) .skip (.exit 0)))
 (.seq (.block 1 (.reg [zM 14 0,zM 15 1,zG 16 (.conv (.toInt .u64) (.t 15)),zM 17 7,zG 18 (.bin .mul (.c (.int .i64 8)) (.t 17)),zG 19 (.bin .shr (.t 16) (.t 18)),zG 20 (.conv (.toInt .u8) (.t 19)),zG 21 (.buildSl 1 [(.t 20)]),zG 22 (.app false 1 1 (.t 14) (.t 21)),zM 0 22] none))
 (.reg [zM 12 7,zG 13 (.bin .sub (.t 12) (.c (.int .i64 1))),zM 7 13] none))))))
 (.seq (.reg [zM 23 0,zM 6 23] none)
 .ret)))
theorem f82:aI Tryz.prog 82 24 c82 [.tmp 6]:=⟨_,Tryz.func82,rfl,by kernel_rfl,rfl⟩
def c83:AC:=(.seq (.reg [zG 6 (.mov (.c (.sl 1 [] (.exact 0))))] none)
 (.seq (.seq (.reg [zM 8 2,zG 9 (.bin .sub (.t 8) (.c (.int .i64 1))),zM 7 9] none)
 (.block 0 (.loop (.seq (.seq (.reg [zM 10 7,zG 11 (.bin .geq (.t 10) (.c (.int .i64 0)))] none)
 (.cond (.t 11) .skip (.exit 0)))
 (.seq (.block 1 (.reg [zM 14 0,zM 15 1,zG 16 (.conv (.toInt .u64) (.t 15)),zM 17 7,zG 18 (.bin .mul (.c (.int .i64 8)) (.t 17)),zG 19 (.bin .shr (.t 16) (.t 18)),zG 20 (.conv (.toInt .u8) (.t 19)),zG 21 (.buildSl 1 [(.t 20)]),zG 22 (.app false 1 1 (.t 14) (.t 21)),zM 0 22] none))
 (.reg [zM 12 7,zG 13 (.bin .sub (.t 12) (.c (.int .i64 1))),zM 7 13] none))))))
 (.seq (.reg [zM 23 0,zM 6 23] none)
 .ret)))
theorem f83:aI Tryz.prog 83 24 c83 [.tmp 6]:=⟨_,Tryz.func83,rfl,by kernel_rfl,rfl⟩
def c84:AC:=(.seq (.reg [zG 6 (.mov (.c (.sl 1 [] (.exact 0))))] none)
 (.seq (.seq (.reg [zM 8 2,zG 9 (.bin .sub (.t 8) (.c (.int .i64 1))),zM 7 9] none)
 (.block 0 (.loop (.seq (.seq (.reg [zM 10 7,zG 11 (.bin .geq (.t 10) (.c (.int .i64 0)))] none)
 (.cond (.t 11) .skip (.exit 0)))
 (.seq (.block 1 (.reg [zM 14 0,zM 15 1,zG 16 (.conv (.toInt .u64) (.t 15)),zM 17 7,zG 18 (.bin .mul (.c (.int .i64 8)) (.t 17)),zG 19 (.bin .shr (.t 16) (.t 18)),zG 20 (.conv (.toInt .u8) (.t 19)),zG 21 (.buildSl 1 [(.t 20)]),zG 22 (.app false 1 1 (.t 14) (.t 21)),zM 0 22] none))
 (.reg [zM 12 7,zG 13 (.bin .sub (.t 12) (.c (.int .i64 1))),zM 7 13] none))))))
 (.seq (.reg [zM 23 0,zM 6 23] none)
 .ret)))
theorem f84:aI Tryz.prog 84 24 c84 [.tmp 6]:=⟨_,Tryz.func84,rfl,by kernel_rfl,rfl⟩
def c85:AC:=(.seq (.reg [zG 1 (.box (.t 0)),zG 2 (.mov (.c (.int .i64 0)))] none)
 (.seq (.seq (.reg [zF 5 0 1,zL 6 5,zF 7 1 1,zL 8 7,zG 9 (.raw (.abuild [.int .i64 0,.int .i64 0] [(0,1),(1,1)]) [(.t 6),(.t 8)]),zG 10 (.mov (.c (.int .i64 0)))] none)
 (.block 0 (.loop (.seq (.reg [zG 11 (.bin .lss (.t 10) (.c (.int .i64 2)))] none)
 (.seq (.cond (.t 11) .skip (.exit 0))
 (.seq (.block 1 (.seq (.reg [zG 12 (.raw (.aidx 1 none 2) [(.t 9),(.t 10)]),zM 4 12] none)
 (.seq (.reg [zM 13 4,zG 14 (.bin .lss (.t 13) (.c (.int .i64 0))),zM 15 14,zm 16 15 false 4,zg 17 15 false (.bin .geq (.t 16) (.c (.int .i64 1048573))),zO 18 15 17] none)
 (.cond (.t 18) (.seq (.reg [zG 2 (.mov (.c (.int .i64 2)))] none)
 .ret) .skip))))
 (.reg [zG 19 (.bin .add (.t 10) (.c (.int .i64 1))),zM 10 19] none)))))))
 (.seq (.reg [zG 2 (.mov (.c (.int .i64 0)))] none)
 .ret)))
theorem f85:aI Tryz.prog 85 20 c85 [.tmp 2]:=⟨_,Tryz.func85,rfl,by kernel_rfl,rfl⟩
def c86:AC:=(.seq (.reg [zG 6 (.mov (.c (.sl 1 [] (.exact 0))))] none)
 (.seq (.seq (.reg [zM 8 2,zG 9 (.bin .sub (.t 8) (.c (.int .i64 1))),zM 7 9] none)
 (.block 0 (.loop (.seq (.seq (.reg [zM 10 7,zG 11 (.bin .geq (.t 10) (.c (.int .i64 0)))] none)
 (.cond (.t 11) .skip (.exit 0)))
 (.seq (.block 1 (.reg [zM 14 0,zM 15 1,zM 16 7,zG 17 (.bin .mul (.c (.int .i64 8)) (.t 16)),zG 18 (.bin .shr (.t 15) (.t 17)),zG 19 (.conv (.toInt .u8) (.t 18)),zG 20 (.buildSl 1 [(.t 19)]),zG 21 (.app false 1 1 (.t 14) (.t 20)),zM 0 21] none))
 (.reg [zM 12 7,zG 13 (.bin .sub (.t 12) (.c (.int .i64 1))),zM 7 13] none))))))
 (.seq (.reg [zM 22 0,zM 6 22] none)
 .ret)))
theorem f86:aI Tryz.prog 86 23 c86 [.tmp 6]:=⟨_,Tryz.func86,rfl,by kernel_rfl,rfl⟩
def c91:AC:=(.seq (.reg [zF 15 1 1,zL 16 15,zG 17 (.call 49 [(.t 16)]),zM 14 17,zE 18 14 0,zE 19 14 1,zM 3 18,zM 4 19] none)
 (.seq (.seq (.reg [zM 20 0,zF 21 0 1,zL 22 21,zG 23 (.build [.int .i64 0,.str [],.str [],.sl 1 [] (.exact 0)] [(0,1,(.c (.int .i64 1))),(1,1,(.t 22))]),zM 24 3,zG 25 (.call 92 [(.t 23),(.t 24)]),zG 26 (.buildSl 3 [(.t 25)]),zG 27 (.callv (.t 20) [(.t 26)]),zN 28 27] none)
 (.cond (.t 28) .ret .skip))
 (.seq (.reg [zF 29 2 1,zL 30 29,zG 31 (.len false (.t 30)),zG 32 (.mov (.c (.int .i64 0)))] none)
 (.block 0 (.loop (.seq (.reg [zG 33 (.bin .lss (.t 32) (.t 31))] none)
 (.seq (.cond (.t 33) .skip (.exit 0))
 (.seq (.block 1 (.seq (.reg [zG 34 (.iaddr 8 (.t 30) (.t 32)),zW 35 8 34,zG 6 (.alloc [.str [],.int .i64 0,.int .i64 0,.int .i64 0,.int .i64 0,.bool false,.bool false,.str []]),zH (.store 8 (.t 6) (.t 35))] none)
 (.seq (.reg [zF 37 2 6,zW 38 5 37,zG 39 (.call 40 [(.t 38)]),zM 36 39,zE 40 36 0,zE 41 36 1,zM 7 40,zM 8 41] none)
 (.seq (.reg [zF 42 0 1,zL 43 42,zF 44 0 6,zL 45 44,zF 46 1 6,zL 47 46,zG 48 (.buildSl 1 [(.t 47)]),zG 49 (.build [.int .i64 0,.str [],.str [],.sl 1 [] (.exact 0)] [(0,1,(.c (.int .i64 2))),(1,1,(.t 43)),(2,1,(.t 45)),(3,1,(.t 48))]),zM 50 7,zG 51 (.call 92 [(.t 49),(.t 50)]),zG 52 (.buildSl 3 [(.t 51)]),zM 9 52] none)
 (.seq (.reg [zF 54 7 6,zL 55 54,zG 56 (.call 93 [(.t 55)]),zM 53 56,zE 57 53 0,zE 58 53 1,zM 10 57,zM 11 58] none)
 (.seq (.seq (.reg [zM 59 10,zG 60 (.len false (.t 59)),zG 61 (.mov (.c (.int .i64 0)))] none)
 (.block 2 (.loop (.seq (.reg [zG 62 (.bin .lss (.t 61) (.t 60))] none)
 (.seq (.cond (.t 62) .skip (.exit 2))
 (.seq (.block 3 (.seq (.reg [zM 63 61,zG 64 (.iaddr 1 (.t 59) (.t 61)),zL 65 64,zM 12 63,zM 13 65] none)
 (.reg [zM 66 9,zF 67 0 1,zL 68 67,zF 69 0 6,zL 70 69,zF 71 1 6,zL 72 71,zM 73 12,zG 74 (.buildSl 1 [(.t 72),(.t 73)]),zG 75 (.build [.int .i64 0,.str [],.str [],.sl 1 [] (.exact 0)] [(0,1,(.c (.int .i64 3))),(1,1,(.t 68)),(2,1,(.t 70)),(3,1,(.t 74))]),zM 76 13,zG 77 (.call 92 [(.t 75),(.t 76)]),zG 78 (.buildSl 3 [(.t 77)]),zG 79 (.app false 3 40 (.t 66) (.t 78)),zM 9 79] none)))
 (.reg [zG 80 (.bin .add (.t 61) (.c (.int .i64 1))),zM 61 80] none)))))))
 (.seq (.reg [zM 81 0,zM 82 9,zG 83 (.callv (.t 81) [(.t 82)]),zN 84 83] none)
 (.cond (.t 84) .ret .skip))))))))
 (.reg [zG 85 (.bin .add (.t 32) (.c (.int .i64 1))),zM 32 85] none)))))))))
theorem f91:aI Tryz.prog 91 86 c91 []:=⟨_,Tryz.func91,rfl,by kernel_rfl,rfl⟩
def c92:AC:=(.seq (.reg [zG 2 (.box (.t 0)),zG 4 (.alloc [.str [],.str [],.bool false])] none)
 (.seq (.reg [zW 8 4 2,zG 9 (.call 138 [(.t 8)]),zM 7 9,zE 10 7 0,zE 11 7 1,zM 5 10,zM 6 11] none)
 (.seq (.reg [zM 12 5,zM 13 1,zG 14 (.build [.str [],.str [],.bool false] [(0,1,(.t 12)),(1,1,(.t 13))]),zH (.store 3 (.t 4) (.t 14))] none)
 .ret)))
theorem f92:aI Tryz.prog 92 15 c92 [.cell 4 (some 3)]:=⟨_,Tryz.func92,rfl,by kernel_rfl,rfl⟩
def c93:AC:=(.seq (.reg [zG 2 (.mov (.c (.sl 1 [] (.exact 0)))),zG 3 (.mov (.c (.int .i64 0)))] none)
 (.seq (.seq (.reg [zM 6 0,zG 7 (.len true (.t 6)),zG 8 (.bin .gtr (.t 7) (.c (.int .i64 2560)))] none)
 (.cond (.t 8) (.seq (.reg [zG 2 (.mov (.c (.sl 1 [] (.exact 0)))),zG 3 (.mov (.c (.int .i64 5)))] none)
 .ret) .skip))
 (.seq (.reg [zG 4 (.mov (.c (.sl 1 [] (.exact 0))))] none)
 (.seq (.seq (.reg [zM 9 0,zG 10 (.len true (.t 9)),zG 11 (.bin .add (.t 10) (.c (.int .i64 160))),zG 12 (.bin .sub (.t 11) (.c (.int .i64 1))),zG 13 (.bin .quo (.t 12) (.c (.int .i64 160))),zG 14 (.mov (.c (.int .i64 0)))] none)
 (.block 0 (.loop (.seq (.reg [zG 15 (.bin .lss (.t 14) (.t 13))] none)
 (.seq (.cond (.t 15) .skip (.exit 0))
 (.seq (.block 1 (.seq (.reg [zM 16 0,zG 17 (.len true (.t 16)),zG 18 (.mm false (.c (.int .i64 160)) (.t 17)),zM 5 18] none)
 (.seq (.reg [zM 19 4,zM 20 0,zM 21 5,zG 22 (.slc true 0 (.t 20) none (some (.t 21)) none),zG 23 (.buildSl 1 [(.t 22)]),zG 24 (.app false 1 16 (.t 19) (.t 23)),zM 4 24] none)
 (.reg [zM 25 0,zM 26 5,zG 27 (.slc true 0 (.t 25) (some (.t 26)) none none),zM 0 27] none))))
 (.reg [zG 28 (.bin .add (.t 14) (.c (.int .i64 1))),zM 14 28] none)))))))
 (.seq (.reg [zM 29 4,zM 2 29,zG 3 (.mov (.c (.int .i64 0)))] none)
 .ret)))))
theorem f93:aI Tryz.prog 93 30 c93 [.tmp 2,.tmp 3]:=⟨_,Tryz.func93,rfl,by kernel_rfl,rfl⟩
def c94:AC:=(.seq (.reg [zG 10 (.mov (.c (.bool true)))] none)
 (.seq (.reg [zG 11 (.mov (.c (.bool true)))] none)
 (.block 0 (.loop (.block 1 (.seq (.reg [zM 21 2,zM 22 1,zG 23 (.bin .sub (.t 21) (.t 22)),zM 12 23] none)
 (.seq (.seq (.reg [zM 24 12,zG 25 (.bin .leq (.t 24) (.c (.int .i64 12)))] none)
 (.cond (.t 25) (.seq (.reg [zM 26 0,zM 27 1,zM 28 2,zM 29 4,zG 30 (.call 139 [(.t 26),(.t 27),(.t 28),(.t 29)])] none)
 .ret) .skip))
 (.seq (.seq (.reg [zM 31 3,zG 32 (.bin .eql (.t 31) (.c (.int .i64 0)))] none)
 (.cond (.t 32) (.seq (.reg [zM 33 0,zM 34 1,zM 35 2,zM 36 4,zG 37 (.call 140 [(.t 33),(.t 34),(.t 35),(.t 36)])] none)
 .ret) .skip))
 (.seq (.seq (.reg [zM 38 10,zN 39 38] none)
 (.cond (.t 39) (.seq (.reg [zM 40 0,zM 41 1,zM 42 2,zM 43 4,zG 44 (.call 141 [(.t 40),(.t 41),(.t 42),(.t 43)])] none)
 (.reg [zM 45 3,zG 46 (.bin .sub (.t 45) (.c (.int .i64 1))),zM 3 46] none)) .skip))
 (.seq (.reg [zM 48 0,zM 49 1,zM 50 2,zM 51 4,zG 52 (.call 142 [(.t 48),(.t 49),(.t 50),(.t 51)]),zM 47 52,zE 53 47 0,zE 54 47 1,zM 13 53,zM 14 54] none)
 (.seq (.seq (.reg [zM 55 14,zG 56 (.bin .eql (.t 55) (.c (.int .i64 2)))] none)
 (.cond (.t 56) (.seq (.reg [zM 57 0,zM 58 1,zM 59 2,zM 60 4,zG 61 (.call 143 [(.t 57),(.t 58),(.t 59),(.t 60)])] none)
 (.seq (.reg [zM 62 2,zG 63 (.bin .sub (.t 62) (.c (.int .i64 1))),zM 64 13,zM 65 1,zG 66 (.bin .sub (.t 64) (.t 65)),zG 67 (.bin .sub (.t 63) (.t 66)),zM 13 67] none)
 (.reg [zG 14 (.mov (.c (.int .i64 1)))] none))) .skip))
 (.seq (.seq (.reg [zM 68 10,zM 69 68,zm 70 69 true 11,zA 71 69 70,zM 72 71,zm 73 72 true 14,zg 74 72 true (.bin .eql (.t 73) (.c (.int .i64 1))),zA 75 72 74] none)
 (.cond (.t 75) (.seq (.reg [zM 76 0,zM 77 1,zM 78 2,zM 79 4,zG 80 (.call 144 [(.t 76),(.t 77),(.t 78),(.t 79)])] none)
 (.cond (.t 80) .ret .skip)) .skip))
 (.seq (.seq (.reg [zM 81 1,zG 82 (.bin .gtr (.t 81) (.c (.int .i64 0))),zM 83 82,zm 84 83 true 4,zm 85 83 true 0,zm 86 83 true 1,zg 87 83 true (.bin .sub (.t 86) (.c (.int .i64 1))),zg 88 83 true (.iaddr 2 (.t 85) (.t 87)),zw 89 83 true 2 88,zm 90 83 true 0,zm 91 83 true 13,zg 92 83 true (.iaddr 2 (.t 90) (.t 91)),zw 93 83 true 2 92,zg 94 83 true (.callv (.t 84) [(.t 89),(.t 93)]),zg 95 83 true (.bin .lss (.t 94) (.c (.int .i64 0))),zn 96 83 true 95,zA 97 83 96] (some [(8,12)]))
 (.cond (.t 97) (.seq (.reg [zM 98 0,zM 99 1,zM 100 2,zM 101 13,zM 102 4,zG 103 (.call 145 [(.t 98),(.t 99),(.t 100),(.t 101),(.t 102)]),zM 15 103] none)
 (.seq (.reg [zM 104 15,zM 1 104] none)
 (.exit 1))) .skip))
 (.seq (.reg [zM 106 0,zM 107 1,zM 108 2,zM 109 13,zM 110 4,zG 111 (.call 146 [(.t 106),(.t 107),(.t 108),(.t 109),(.t 110)]),zM 105 111,zE 112 105 0,zE 113 105 1,zM 16 112,zM 17 113] none)
 (.seq (.reg [zM 114 17,zM 11 114] none)
 (.seq (.reg [zM 115 16,zM 116 1,zG 117 (.bin .sub (.t 115) (.t 116)),zM 118 2,zM 119 16,zG 120 (.bin .sub (.t 118) (.t 119)),zM 18 117,zM 19 120] none)
 (.seq (.reg [zM 121 12,zG 122 (.bin .quo (.t 121) (.c (.int .i64 8))),zM 20 122] none)
 (.seq (.reg [zM 123 18,zM 124 19,zG 125 (.bin .lss (.t 123) (.t 124))] none)
 (.cond (.t 125) (.seq (.reg [zM 126 18,zM 127 20,zG 128 (.bin .geq (.t 126) (.t 127)),zM 10 128] none)
 (.seq (.reg [zM 129 0,zM 130 1,zM 131 16,zM 132 3,zM 133 4,zG 134 (.call 94 [(.t 129),(.t 130),(.t 131),(.t 132),(.t 133)])] none)
 (.reg [zM 135 16,zG 136 (.bin .add (.t 135) (.c (.int .i64 1))),zM 1 136] none))) (.seq (.reg [zM 137 19,zM 138 20,zG 139 (.bin .geq (.t 137) (.t 138)),zM 10 139] none)
 (.seq (.reg [zM 140 0,zM 141 16,zG 142 (.bin .add (.t 141) (.c (.int .i64 1))),zM 143 2,zM 144 3,zM 145 4,zG 146 (.call 94 [(.t 140),(.t 142),(.t 143),(.t 144),(.t 145)])] none)
 (.reg [zM 147 16,zM 2 147] none))))))))))))))))))))))
theorem f94:aI Tryz.prog 94 148 c94 []:=⟨_,Tryz.func94,rfl,by kernel_rfl,rfl⟩
def c95:AC:=(.seq (.reg [zG 2 (.mov (.c (.int .i64 0)))] none)
 (.seq (.cond (.c (.bool false)) (.seq (.reg [zM 3 0,zG 4 (.conv (.toInt .u32) (.t 3)),zG 5 (.call 147 [(.t 4)]),zM 2 5] none)
 .ret) .skip)
 (.seq (.reg [zM 6 0,zG 7 (.call 148 [(.t 6)]),zM 2 7] none)
 .ret)))
theorem f95:aI Tryz.prog 95 8 c95 [.tmp 2]:=⟨_,Tryz.func95,rfl,by kernel_rfl,rfl⟩
def DY:AC:=(.seq (.reg [zG 2 (.mov (.c (.int .i64 0)))] none)
 (.seq (.seq (.reg [zM 5 0,zG 6 (.bin .eql (.t 5) (.c (.str []))),zM 7 6,zm 8 7 false 0,zg 9 7 false (.len true (.t 8)),zg 10 7 false (.bin .gtr (.t 9) (.c (.int .i64 32))),zO 11 7 10] none)
 (.cond (.t 11) (.seq (.reg [zG 2 (.mov (.c (.int .i64 15)))] none)
 .ret) .skip))
 (.seq (.seq (.reg [zM 12 0,zG 13 (.conv .s2b (.t 12)),zG 14 (.len false (.t 13)),zG 15 (.mov (.c (.int .i64 0)))] none)
 (.block 0 (.loop (.seq (.reg [zG 16 (.bin .lss (.t 15) (.t 14))] none)
 (.seq (.cond (.t 16) .skip (.exit 0))
 (.seq (.block 1 (.seq (.reg [zG 17 (.iaddr 1 (.t 13) (.t 15)),zL 18 17,zM 4 18] none)
 (.seq (.reg [zM 19 4,zG 20 (.bin .lss (.t 19) (.c (.int .u8 33))),zM 21 20,zm 22 21 false 4,zg 23 21 false (.bin .gtr (.t 22) (.c (.int .u8 126))),zO 24 21 23] none)
 (.cond (.t 24) (.seq (.reg [zG 2 (.mov (.c (.int .i64 15)))] none)
 .ret) .skip))))
 (.reg [zG 25 (.bin .add (.t 15) (.c (.int .i64 1))),zM 15 25] none)))))))
 (.seq (.reg [zG 2 (.mov (.c (.int .i64 0)))] none)
 .ret))))
theorem f100:aI Tryz.prog 100 26 DY [.tmp 2]:=⟨_,Tryz.func100,rfl,by kernel_rfl,rfl⟩
def Hc:AC:=(.seq (.reg [zG 1 (.box (.t 0)),zG 2 (.mov (.c (.bool false)))] none)
 (.seq (.seq (.reg [zF 6 2 1,zW 7 5 6,zG 8 (.call 40 [(.t 7)]),zM 5 8,zE 9 5 0,zE 10 5 1,zM 3 9,zM 4 10] none)
 (.seq (.reg [zM 11 4,zG 12 (.bin .neq (.t 11) (.c (.int .i64 0))),zM 13 12,zf 14 13 false 7 1,zl 15 13 false 14,zg 16 13 false (.len true (.t 15)),zf 17 13 false 2 1,zf 18 13 false 0 17,zl 19 13 false 18,zg 20 13 false (.bin .neq (.t 16) (.t 19)),zO 21 13 20] none)
 (.cond (.t 21) (.seq (.reg [zG 2 (.mov (.c (.bool false)))] none)
 .ret) .skip)))
 (.seq (.reg [zF 22 2 1,zF 23 3 22,zL 24 23,zM 25 24,zf 26 25 false 7 1,zl 27 25 false 26,zg 28 25 false (.conv .s2b (.t 27)),zg 29 25 false (.call 150 [(.t 28)]),zf 30 25 false 2 1,zf 31 25 false 1 30,zw 32 25 false 2 31,zg 33 25 false (.eqA false [.int,.int] (.t 29) (.t 32)),zO 34 25 33,zM 2 34] (some [(5,10),(6,10),(7,10)]))
 .ret)))
theorem f101:aI Tryz.prog 101 35 Hc [.tmp 2]:=⟨_,Tryz.func101,rfl,by kernel_rfl,rfl⟩
def F6:AC:=(.seq (.reg [zL 6 1,zG 7 (.mov (.c (.int .i64 0)))] none)
 (.block 0 (.loop (.seq (.reg [zG 8 (.bin .lss (.t 7) (.t 6))] none)
 (.seq (.cond (.t 8) .skip (.exit 0))
 (.seq (.block 1 (.seq (.reg [zL 9 2,zL 10 2,zG 11 (.call 59 [(.t 10),(.c (.int .i64 1))]),zG 12 (.call 57 [(.t 9),(.t 11)]),zL 13 2,zG 14 (.call 59 [(.t 13),(.c (.int .i64 1))]),zG 15 (.build [.str [],.int .i64 0,.sl 8 [] (.exact 0)] [(0,1,(.t 12)),(1,1,(.t 14))]),zG 4 (.alloc [.str [],.int .i64 0,.sl 8 [] (.exact 0)]),zH (.store 3 (.t 4) (.t 15))] (some [(0,1),(0,2),(0,4),(1,4),(2,4),(3,4),(0,7),(1,7),(2,7),(3,7),(4,7),(5,7)]))
 (.seq (.seq (.reg [zL 16 2,zL 17 2,zG 18 (.call 59 [(.t 17),(.c (.int .i64 4))]),zG 19 (.call 106 [(.t 16),(.t 18)])] (some [(0,1),(0,2)]))
 (.block 2 (.p8 (.t 19) [20] (.reg [zG 5 (.alloc [.str [],.int .i64 0,.int .i64 0,.int .i64 0,.int .i64 0,.bool false,.bool false,.str []]),zH (.store 8 (.t 5) (.t 20))] none)
 (.block 3 (.reg [zF 21 2 4,zL 22 21,zW 23 8 5,zG 24 (.buildSl 8 [(.t 23)]),zG 25 (.app false 8 72 (.t 22) (.t 24)),zF 26 2 4,zH (.store 1 (.t 26) (.t 25))] none)))))
 (.seq (.reg [zM 27 0,zW 28 3 4,zG 29 (.callv (.t 27) [(.t 28)]),zN 30 29] none)
 (.cond (.t 30) .ret .skip)))))
 (.reg [zG 31 (.bin .add (.t 7) (.c (.int .i64 1))),zM 7 31] none)))))))
theorem f105:aI Tryz.prog 105 32 F6 []:=⟨_,Tryz.func105,rfl,by kernel_rfl,rfl⟩
def He:AC:=(.seq (.reg [zG 2 (.box (.t 0)),zG 3 (.box (.t 1)),zG 4 (.mov (.c (.sc .nilFunc)))] none)
 (.seq (.reg [zG 5 (.mkfn (.func 154) [] [(.t 3),(.t 2)]),zM 4 5] none)
 .ret))
theorem f106:aI Tryz.prog 106 6 He [.tmp 4]:=⟨_,Tryz.func106,rfl,by kernel_rfl,rfl⟩
def pe:AC:=(.seq (.reg [zG 2 (.alloc [.int .i64 0,.str [],.str [],.sl 1 [] (.exact 0)]),zG 3 (.mov (.c (.int .i64 0)))] none)
 (.seq (.reg [zM 12 0,zG 13 (.call 156 [(.t 12)]),zM 11 13,zE 14 11 0,zE 15 11 1,zM 4 14,zM 5 15] none)
 (.seq (.seq (.reg [zM 16 5,zG 17 (.bin .neq (.t 16) (.c (.int .i64 0))),zM 18 17,zm 19 18 false 4,zg 20 18 false (.len false (.t 19)),zg 21 18 false (.bin .lss (.t 20) (.c (.int .i64 2))),zO 22 18 21,zM 23 22,zm 24 23 false 4,zg 25 23 false (.iaddr 3 (.t 24) (.c (.int .i64 0))),zf 26 23 false 2 25,zl 27 23 false 26,zg 28 23 false (.len true (.t 27)),zg 29 23 false (.bin .neq (.t 28) (.c (.int .i64 1))),zO 30 23 29] none)
 (.cond (.t 30) (.seq (.reg [zG 31 (.build [.int .i64 0,.str [],.str [],.sl 1 [] (.exact 0)] []),zH (.store 4 (.t 2) (.t 31)),zG 3 (.mov (.c (.int .i64 4)))] none)
 .ret) .skip))
 (.seq (.reg [zM 32 4,zG 33 (.iaddr 3 (.t 32) (.c (.int .i64 0))),zF 34 2 33,zL 35 34,zG 36 (.call 157 [(.c (.str [98,111,99,117,112,113])),(.t 35)]),zG 37 (.bin .add (.t 36) (.c (.int .i64 1))),zM 38 4,zG 39 (.iaddr 3 (.t 38) (.c (.int .i64 1))),zF 40 2 39,zL 41 40,zG 42 (.build [.int .i64 0,.str [],.str [],.sl 1 [] (.exact 0)] [(0,1,(.t 37)),(1,1,(.t 41))]),zG 6 (.alloc [.int .i64 0,.str [],.str [],.sl 1 [] (.exact 0)]),zH (.store 4 (.t 6) (.t 42))] (some [(3,9),(4,9),(3,11),(4,11),(9,11)]))
 (.seq (.reg [zM 43 4,zG 44 (.slc false 3 (.t 43) (some (.c (.int .i64 2))) none none),zM 4 44] none)
 (.seq (.seq (.reg [zF 45 0 6,zL 46 45,zG 47 (.bin .neq (.t 46) (.c (.int .i64 1))),zM 48 47,zm 49 48 true 4,zg 50 48 true (.len false (.t 49)),zg 51 48 true (.bin .gtr (.t 50) (.c (.int .i64 0))),zA 52 48 51] none)
 (.cond (.t 52) (.seq (.reg [zM 53 4,zG 54 (.iaddr 3 (.t 53) (.c (.int .i64 0))),zF 55 2 54,zL 56 55,zF 57 2 6,zH (.store 1 (.t 57) (.t 56))] none)
 (.reg [zM 58 4,zG 59 (.slc false 3 (.t 58) (some (.c (.int .i64 1))) none none),zM 4 59] none)) .skip))
 (.seq (.seq (.reg [zM 60 4,zG 61 (.len false (.t 60)),zG 62 (.mov (.c (.int .i64 0)))] none)
 (.block 0 (.loop (.seq (.reg [zG 63 (.bin .lss (.t 62) (.t 61))] none)
 (.seq (.cond (.t 63) .skip (.exit 0))
 (.seq (.block 1 (.seq (.reg [zG 64 (.iaddr 3 (.t 60) (.t 62)),zW 65 3 64,zG 8 (.alloc [.int .i64 0,.int .i64 0,.str []]),zH (.store 3 (.t 8) (.t 65))] none)
 (.reg [zF 66 3 6,zL 67 66,zF 68 1 8,zL 69 68,zG 70 (.buildSl 1 [(.t 69)]),zG 71 (.app false 1 8 (.t 67) (.t 70)),zF 72 3 6,zH (.store 1 (.t 72) (.t 71))] none)))
 (.reg [zG 73 (.bin .add (.t 62) (.c (.int .i64 1))),zM 62 73] none)))))))
 (.seq (.seq (.reg [zW 75 4 6,zG 76 (.call 138 [(.t 75)]),zM 74 76,zE 77 74 0,zE 78 74 1,zM 9 77,zM 10 78] none)
 (.seq (.reg [zM 79 10,zG 80 (.bin .neq (.t 79) (.c (.int .i64 0))),zM 81 80,zm 82 81 false 9,zm 83 81 false 0,zg 84 81 false (.bin .neq (.t 82) (.t 83)),zO 85 81 84] none)
 (.cond (.t 85) (.seq (.reg [zG 86 (.build [.int .i64 0,.str [],.str [],.sl 1 [] (.exact 0)] []),zH (.store 4 (.t 2) (.t 86)),zG 3 (.mov (.c (.int .i64 4)))] none)
 .ret) .skip)))
 (.seq (.reg [zW 87 4 6,zH (.store 4 (.t 2) (.t 87)),zG 3 (.mov (.c (.int .i64 0)))] none)
 .ret)))))))))
theorem f110:aI Tryz.prog 110 88 pe [.cell 2 (some 4),.tmp 3]:=⟨_,Tryz.func110,rfl,by kernel_rfl,rfl⟩
def Hf:AC:=(.seq (.reg [zG 2 (.mov (.c (.int .i64 0))),zG 3 (.mov (.c (.int .i64 0)))] none)
 (.seq (.seq (.reg [zM 4 0,zG 5 (.len true (.t 4)),zG 6 (.bin .neq (.t 5) (.c (.int .i64 1))),zM 7 6,zm 8 7 false 0,zg 9 7 false (.idx (.t 8) (.c (.int .i64 0))),zg 10 7 false (.bin .lss (.t 9) (.c (.int .u8 48))),zO 11 7 10,zM 12 11,zm 13 12 false 0,zg 14 12 false (.idx (.t 13) (.c (.int .i64 0))),zg 15 12 false (.bin .gtr (.t 14) (.c (.int .u8 50))),zO 16 12 15] none)
 (.cond (.t 16) (.seq (.reg [zG 2 (.mov (.c (.int .i64 0))),zG 3 (.mov (.c (.int .i64 4)))] none)
 .ret) .skip))
 (.seq (.reg [zM 17 0,zG 18 (.idx (.t 17) (.c (.int .i64 0))),zG 19 (.bin .sub (.t 18) (.c (.int .u8 48))),zG 20 (.conv (.toInt .i64) (.t 19)),zM 2 20,zG 3 (.mov (.c (.int .i64 0)))] none)
 .ret)))
theorem f111:aI Tryz.prog 111 21 Hf [.tmp 2,.tmp 3]:=⟨_,Tryz.func111,rfl,by kernel_rfl,rfl⟩
def rX:AC:=(.seq (.reg [zG 2 (.alloc [.int .i64 0,.int .i64 0,.int .i64 0,.bool false,.bool false]),zG 3 (.mov (.c (.int .i64 0)))] none)
 (.seq (.reg [zM 9 0,zG 10 (.conv .s2b (.t 9)),zG 11 (.call 158 [(.t 10)]),zM 4 11] none)
 (.seq (.reg [zM 12 4,zG 13 (.call 159 [(.t 12)]),zM 5 13] none)
 (.seq (.reg [zM 14 4,zG 15 (.call 160 [(.t 14)]),zM 16 4,zG 17 (.call 161 [(.t 16)]),zM 18 4,zG 19 (.call 161 [(.t 18)]),zG 20 (.build [.int .i64 0,.int .i64 0] [(0,1,(.t 17)),(1,1,(.t 19))]),zM 21 5,zG 22 (.bin .and (.t 21) (.c (.int .i64 1))),zG 23 (.bin .neq (.t 22) (.c (.int .i64 0))),zM 24 5,zG 25 (.bin .and (.t 24) (.c (.int .i64 2))),zG 26 (.bin .neq (.t 25) (.c (.int .i64 0))),zG 27 (.build [.int .i64 0,.int .i64 0,.int .i64 0,.bool false,.bool false] [(0,1,(.t 15)),(1,2,(.t 20)),(3,1,(.t 23)),(4,1,(.t 26))]),zG 6 (.alloc [.int .i64 0,.int .i64 0,.int .i64 0,.bool false,.bool false]),zH (.store 5 (.t 6) (.t 27))] none)
 (.seq (.seq (.reg [zM 28 4,zG 29 (.call 162 [(.t 28)]),zG 30 (.bin .neq (.t 29) (.c (.int .i64 0)))] none)
 (.cond (.t 30) (.seq (.reg [zG 31 (.build [.int .i64 0,.int .i64 0,.int .i64 0,.bool false,.bool false] []),zH (.store 5 (.t 2) (.t 31)),zG 3 (.mov (.c (.int .i64 4)))] none)
 .ret) .skip))
 (.seq (.seq (.reg [zW 33 5 6,zG 34 (.call 40 [(.t 33)]),zM 32 34,zE 35 32 0,zE 36 32 1,zM 7 35,zM 8 36] none)
 (.seq (.reg [zM 37 8,zG 38 (.bin .neq (.t 37) (.c (.int .i64 0))),zM 39 38,zm 40 39 false 7,zm 41 39 false 0,zg 42 39 false (.bin .neq (.t 40) (.t 41)),zO 43 39 42] none)
 (.cond (.t 43) (.seq (.reg [zG 44 (.build [.int .i64 0,.int .i64 0,.int .i64 0,.bool false,.bool false] []),zH (.store 5 (.t 2) (.t 44)),zG 3 (.mov (.c (.int .i64 4)))] none)
 .ret) .skip)))
 (.seq (.reg [zW 45 5 6,zH (.store 5 (.t 2) (.t 45)),zG 3 (.mov (.c (.int .i64 0)))] none)
 .ret)))))))
theorem f112:aI Tryz.prog 112 46 rX [.cell 2 (some 5),.tmp 3]:=⟨_,Tryz.func112,rfl,by kernel_rfl,rfl⟩
def Hg:AC:=(.seq (.reg [zG 6 (.mov (.c (.int .i64 0))),zG 7 (.mov (.c (.bool false)))] none)
 (.seq (.reg [zM 12 0,zG 13 (.len false (.t 12)),zM 8 13] none)
 (.seq (.reg [zM 14 8,zG 9 (.mov (.c (.int .i64 0))),zM 10 14] none)
 (.seq (.block 0 (.loop (.seq (.seq (.reg [zM 15 9,zM 16 10,zG 17 (.bin .lss (.t 15) (.t 16))] none)
 (.cond (.t 17) .skip (.exit 0)))
 (.block 1 (.seq (.reg [zM 18 9,zM 19 10,zG 20 (.bin .add (.t 18) (.t 19)),zG 21 (.conv (.toInt .u64) (.t 20)),zG 22 (.bin .shr (.t 21) (.c (.int .u64 1))),zG 23 (.conv (.toInt .i64) (.t 22)),zM 11 23] none)
 (.seq (.reg [zM 24 2,zM 25 0,zM 26 11,zG 27 (.iaddr 3 (.t 25) (.t 26)),zW 28 3 27,zM 29 1,zG 30 (.callv (.t 24) [(.t 28),(.t 29)]),zG 31 (.bin .lss (.t 30) (.c (.int .i64 0)))] none)
 (.cond (.t 31) (.reg [zM 32 11,zG 33 (.bin .add (.t 32) (.c (.int .i64 1))),zM 9 33] none) (.reg [zM 34 11,zM 10 34] none))))))))
 (.seq (.reg [zM 35 9,zM 36 9,zM 37 8,zG 38 (.bin .lss (.t 36) (.t 37)),zM 39 38,zm 40 39 true 2,zm 41 39 true 0,zm 42 39 true 9,zg 43 39 true (.iaddr 3 (.t 41) (.t 42)),zw 44 39 true 3 43,zm 45 39 true 1,zg 46 39 true (.callv (.t 40) [(.t 44),(.t 45)]),zg 47 39 true (.bin .eql (.t 46) (.c (.int .i64 0))),zA 48 39 47,zM 6 35,zM 7 48] none)
 .ret)))))
theorem f113:aI Tryz.prog 113 49 Hg [.tmp 6,.tmp 7]:=⟨_,Tryz.func113,rfl,by kernel_rfl,rfl⟩
def Hh:AC:=(.seq (.reg [zG 2 (.box (.t 0)),zG 4 (.mov (.c (.int .i64 0)))] none)
 (.seq (.reg [zF 5 0 2,zL 6 5,zM 7 1,zG 8 (.call 96 [(.t 6),(.t 7)]),zM 4 8] none)
 .ret))
theorem f114:aI Tryz.prog 114 9 Hh [.tmp 4]:=⟨_,Tryz.func114,rfl,by kernel_rfl,rfl⟩
def Hi:AC:=(.seq (.reg [zG 2 (.mov (.c (.bool false)))] none)
 (.seq (.seq (.reg [zM 4 0,zG 5 (.len false (.t 4)),zG 6 (.mov (.c (.int .i64 0)))] none)
 (.block 0 (.loop (.seq (.reg [zG 7 (.bin .lss (.t 6) (.t 5))] none)
 (.seq (.cond (.t 7) .skip (.exit 0))
 (.seq (.block 1 (.seq (.reg [zM 8 6,zM 3 8] none)
 (.seq (.reg [zM 9 3,zG 10 (.bin .gtr (.t 9) (.c (.int .i64 0))),zM 11 10,zm 12 11 true 0,zm 13 11 true 3,zg 14 11 true (.bin .sub (.t 13) (.c (.int .i64 1))),zg 15 11 true (.iaddr 2 (.t 12) (.t 14)),zf 16 11 true 0 15,zl 17 11 true 16,zm 18 11 true 0,zm 19 11 true 3,zg 20 11 true (.iaddr 2 (.t 18) (.t 19)),zf 21 11 true 0 20,zl 22 11 true 21,zg 23 11 true (.bin .geq (.t 17) (.t 22)),zA 24 11 23] (some [(8,13)]))
 (.cond (.t 24) (.seq (.reg [zG 2 (.mov (.c (.bool false)))] none)
 .ret) .skip))))
 (.reg [zG 25 (.bin .add (.t 6) (.c (.int .i64 1))),zM 6 25] none)))))))
 (.seq (.reg [zG 2 (.mov (.c (.bool true)))] none)
 .ret)))
theorem f118:aI Tryz.prog 118 26 Hi [.tmp 2]:=⟨_,Tryz.func118,rfl,by kernel_rfl,rfl⟩
def Hj:AC:=(.seq (.reg [zG 1 (.box (.t 0)),zG 2 (.mov (.c (.bool false)))] none)
 (.seq (.seq (.reg [zF 5 3 1,zL 6 5,zG 7 (.len false (.t 6)),zG 8 (.mov (.c (.int .i64 0)))] none)
 (.block 0 (.loop (.seq (.reg [zG 9 (.bin .lss (.t 8) (.t 7))] none)
 (.seq (.cond (.t 9) .skip (.exit 0))
 (.seq (.block 1 (.seq (.reg [zG 10 (.iaddr 1 (.t 6) (.t 8)),zL 11 10,zM 4 11] none)
 (.seq (.reg [zM 12 4,zG 13 (.bin .lss (.t 12) (.c (.int .i64 0)))] none)
 (.cond (.t 13) (.seq (.reg [zG 2 (.mov (.c (.bool false)))] none)
 .ret) .skip))))
 (.reg [zG 14 (.bin .add (.t 8) (.c (.int .i64 1))),zM 8 14] none)))))))
 (.seq (.reg [zF 15 0 1,zL 16 15,zG 17 (.call 175 [(.t 16)]),zF 18 3 1,zL 19 18,zG 20 (.len false (.t 19)),zG 21 (.bin .geq (.t 17) (.t 20)),zM 22 21,zf 23 22 true 0 1,zl 24 22 true 23,zg 25 22 true (.bin .neq (.t 24) (.c (.int .i64 1))),zm 26 22 true 25,zf 27 26 false 2 1,zl 28 26 false 27,zg 29 26 false (.bin .eql (.t 28) (.c (.str []))),zg 30 22 true (.pick (.t 26) (.c (.bool true)) (.t 29)),zA 31 22 30,zM 2 31] (some [(1,4),(2,4)]))
 .ret)))
theorem f130:aI Tryz.prog 130 32 Hj [.tmp 2]:=⟨_,Tryz.func130,rfl,by kernel_rfl,rfl⟩
def Hk:AC:=(.seq (.reg [zG 2 (.box (.t 0)),zG 4 (.mov (.c (.str [])))] none)
 (.seq (.reg [zF 12 0 2,zL 13 12,zG 14 (.bin .sub (.t 13) (.c (.int .i64 1))),zF 15 0 2,zL 16 15,zG 17 (.slc true 0 (.c (.str [98,111,99,117,112,113])) (some (.t 14)) (some (.t 16)) none),zG 18 (.call 176 [(.t 17)]),zG 19 (.buildSl 3 [(.t 18)]),zM 5 19] none)
 (.seq (.seq (.reg [zM 20 1,zG 21 (.len false (.t 20)),zG 22 (.mov (.c (.int .i64 0)))] none)
 (.block 0 (.loop (.seq (.reg [zG 23 (.bin .lss (.t 22) (.t 21))] none)
 (.seq (.cond (.t 23) .skip (.exit 0))
 (.seq (.block 1 (.seq (.reg [zG 24 (.iaddr 1 (.t 20) (.t 22)),zL 25 24,zM 7 25] none)
 (.seq (.reg [zM 26 7,zG 27 (.bin .neq (.t 26) (.c (.str [])))] none)
 (.cond (.t 27) (.reg [zM 28 5,zM 29 7,zG 30 (.call 176 [(.t 29)]),zG 31 (.buildSl 3 [(.t 30)]),zG 32 (.app false 3 32 (.t 28) (.t 31)),zM 5 32] none) .skip))))
 (.reg [zG 33 (.bin .add (.t 22) (.c (.int .i64 1))),zM 22 33] none)))))))
 (.seq (.seq (.reg [zF 34 3 2,zL 35 34,zG 36 (.len false (.t 35)),zG 37 (.mov (.c (.int .i64 0)))] none)
 (.block 2 (.loop (.seq (.reg [zG 38 (.bin .lss (.t 37) (.t 36))] none)
 (.seq (.cond (.t 38) .skip (.exit 2))
 (.seq (.block 3 (.seq (.reg [zG 39 (.iaddr 1 (.t 35) (.t 37)),zL 40 39,zM 9 40] none)
 (.reg [zM 41 5,zF 42 0 2,zL 43 42,zM 44 9,zG 45 (.call 177 [(.t 43),(.t 44)]),zG 46 (.buildSl 3 [(.t 45)]),zG 47 (.app false 3 32 (.t 41) (.t 46)),zM 5 47] none)))
 (.reg [zG 48 (.bin .add (.t 37) (.c (.int .i64 1))),zM 37 48] none)))))))
 (.seq (.reg [zM 50 5,zG 51 (.call 178 [(.t 50)]),zM 49 51,zE 52 49 0,zE 53 49 1,zM 10 52,zM 11 53] none)
 (.seq (.reg [zM 54 10,zM 4 54] none)
 .ret))))))
theorem f131:aI Tryz.prog 131 55 Hk [.tmp 4]:=⟨_,Tryz.func131,rfl,by kernel_rfl,rfl⟩
def Hl:AC:=(.seq (.reg [zG 1 (.box (.t 0)),zG 2 (.mov (.c (.str []))),zG 3 (.mov (.c (.int .i64 0)))] none)
 (.seq (.seq (.reg [zW 6 4 1,zG 7 (.call 130 [(.t 6)]),zN 8 7,zM 9 8,zf 10 9 false 3 1,zl 11 9 false 10,zg 12 9 false (.len false (.t 11)),zf 13 9 false 0 1,zl 14 9 false 13,zg 15 9 false (.call 175 [(.t 14)]),zg 16 9 false (.bin .neq (.t 12) (.t 15)),zO 17 9 16] (some [(5,8),(5,9)]))
 (.cond (.t 17) (.seq (.reg [zG 2 (.mov (.c (.str []))),zG 3 (.mov (.c (.int .i64 2)))] none)
 .ret) .skip))
 (.seq (.seq (.reg [zF 18 1 1,zL 19 18,zG 20 (.call 50 [(.t 19)]),zM 4 20] none)
 (.seq (.reg [zM 21 4,zG 22 (.bin .neq (.t 21) (.c (.int .i64 0)))] none)
 (.cond (.t 22) (.seq (.reg [zM 23 4,zG 2 (.mov (.c (.str []))),zM 3 23] none)
 .ret) .skip)))
 (.seq (.seq (.reg [zF 24 0 1,zL 25 24,zG 26 (.bin .neq (.t 25) (.c (.int .i64 1)))] none)
 (.cond (.t 26) (.seq (.reg [zF 27 2 1,zL 28 27,zG 29 (.call 100 [(.t 28)]),zM 5 29] none)
 (.seq (.reg [zM 30 5,zG 31 (.bin .neq (.t 30) (.c (.int .i64 0)))] none)
 (.cond (.t 31) (.seq (.reg [zM 32 5,zG 2 (.mov (.c (.str []))),zM 3 32] none)
 .ret) .skip))) .skip))
 (.seq (.reg [zW 33 4 1,zF 34 1 1,zL 35 34,zF 36 2 1,zL 37 36,zG 38 (.buildSl 1 [(.t 35),(.t 37)]),zG 39 (.call 131 [(.t 33),(.t 38)]),zM 2 39,zG 3 (.mov (.c (.int .i64 0)))] none)
 .ret)))))
theorem f138:aI Tryz.prog 138 40 Hl [.tmp 2,.tmp 3]:=⟨_,Tryz.func138,rfl,by kernel_rfl,rfl⟩
def Hm:AC:=(.seq (.reg [zM 10 1,zG 11 (.bin .add (.t 10) (.c (.int .i64 1))),zM 8 11] none)
 (.block 0 (.loop (.seq (.seq (.reg [zM 12 8,zM 13 2,zG 14 (.bin .lss (.t 12) (.t 13))] none)
 (.cond (.t 14) .skip (.exit 0)))
 (.seq (.block 1 (.seq (.reg [zM 17 8,zM 9 17] none)
 (.block 2 (.loop (.seq (.seq (.reg [zM 18 9,zM 19 1,zG 20 (.bin .gtr (.t 18) (.t 19)),zM 21 20,zm 22 21 true 3,zm 23 21 true 0,zm 24 21 true 9,zg 25 21 true (.iaddr 2 (.t 23) (.t 24)),zw 26 21 true 2 25,zm 27 21 true 0,zm 28 21 true 9,zg 29 21 true (.bin .sub (.t 28) (.c (.int .i64 1))),zg 30 21 true (.iaddr 2 (.t 27) (.t 29)),zw 31 21 true 2 30,zg 32 21 true (.callv (.t 22) [(.t 26),(.t 31)]),zg 33 21 true (.bin .lss (.t 32) (.c (.int .i64 0))),zA 34 21 33] (some [(8,13)]))
 (.cond (.t 34) .skip (.exit 2)))
 (.seq (.block 3 (.reg [zM 37 0,zM 38 9,zM 39 0,zM 40 9,zG 41 (.bin .sub (.t 40) (.c (.int .i64 1))),zM 42 0,zM 43 9,zG 44 (.bin .sub (.t 43) (.c (.int .i64 1))),zG 45 (.iaddr 2 (.t 42) (.t 44)),zW 46 2 45,zM 47 0,zM 48 9,zG 49 (.iaddr 2 (.t 47) (.t 48)),zW 50 2 49,zG 51 (.iaddr 2 (.t 37) (.t 38)),zH (.store 2 (.t 51) (.t 46)),zG 52 (.iaddr 2 (.t 39) (.t 41)),zH (.store 2 (.t 52) (.t 50))] (some [(9,13)])))
 (.reg [zM 35 9,zG 36 (.bin .sub (.t 35) (.c (.int .i64 1))),zM 9 36] none)))))))
 (.reg [zM 15 8,zG 16 (.bin .add (.t 15) (.c (.int .i64 1))),zM 8 16] none))))))
theorem f139:aI Tryz.prog 139 53 Hm []:=⟨_,Tryz.func139,rfl,by kernel_rfl,rfl⟩
def Hn:AC:=(.seq (.reg [zG 2 (.mov (.c (.int .i64 0)))] none)
 (.seq (.seq (.reg [zM 3 0,zG 4 (.bin .geq (.t 3) (.c (.int .u64 4294967296)))] none)
 (.cond (.t 4) (.seq (.reg [zM 5 0,zG 6 (.bin .shr (.t 5) (.c (.int .u64 32))),zM 0 6] none)
 (.reg [zG 2 (.mov (.c (.int .i64 32)))] none)) .skip))
 (.seq (.seq (.reg [zM 7 0,zG 8 (.bin .geq (.t 7) (.c (.int .u64 65536)))] none)
 (.cond (.t 8) (.seq (.reg [zM 9 0,zG 10 (.bin .shr (.t 9) (.c (.int .u64 16))),zM 0 10] none)
 (.reg [zM 11 2,zG 12 (.bin .add (.t 11) (.c (.int .i64 16))),zM 2 12] none)) .skip))
 (.seq (.seq (.reg [zM 13 0,zG 14 (.bin .geq (.t 13) (.c (.int .u64 256)))] none)
 (.cond (.t 14) (.seq (.reg [zM 15 0,zG 16 (.bin .shr (.t 15) (.c (.int .u64 8))),zM 0 16] none)
 (.reg [zM 17 2,zG 18 (.bin .add (.t 17) (.c (.int .i64 8))),zM 2 18] none)) .skip))
 (.seq (.reg [zM 19 2,zM 20 0,zG 21 (.conv (.toInt .u8) (.t 20)),zG 22 (.idx (.c (.str [0,1,2,2,3,3,3,3,4,4,4,4,4,4,4,4,5,5,5,5,5,5,5,5,5,5,5,5,5,5,5,5,6,6,6,6,6,6,6,6,6,6,6,6,6,6,6,6,6,6,6,6,6,6,6,6,6,6,6,6,6,6,6,6,7,7,7,7,7,7,7,7,7,7,7,7,7,7,7,7,7,7,7,7,7,7,7,7,7,7,7,7,7,7,7,7,7,7,7,7,7,7,7,7,7,7,7,7,7,7,7,7,7,7,7,7,7,7,7,7,7,7,7,7,7,7,7,7,8,8,8,8,8,8,8,8,8,8,8,8,8,8,8,8,8,8,8,8,8,8,8,8,8,8,8,8,8,8,8,8,8,8,8,8,8,8,8,8,8,8,8,8,8,8,8,8,8,8,8,8,8,8,8,8,8,8,8,8,8,8,8,8,8,8,8,8,8,8,8,8,8,8,8,8,8,8,8,8,8,8,8,8,8,8,8,8,8,8,8,8,8,8,8,8,8,8,8,8,8,8,8,8,8,8,8,8,8,8,8,8,8,8,8,8,8,8,8,8,8,8,8,8,8,8,8,8])) (.t 21)),zG 23 (.conv (.toInt .i64) (.t 22)),zG 24 (.bin .add (.t 19) (.t 23)),zM 2 24] none)
 .ret)))))
theorem f148:aI Tryz.prog 148 25 Hn [.tmp 2]:=⟨_,Tryz.func148,rfl,by kernel_rfl,rfl⟩
def Ho:AC:=(.seq (.reg [zG 2 (.alloc [.int .i64 0,.int .i64 0])] none)
 (.seq (.reg [zG 3 (.mov (.c (.sc (.complex .f64 0 0))))] none)
 (.seq (.seq (.reg [zM 6 0,zG 7 (.len false (.t 6)),zG 8 (.mov (.c (.int .i64 0)))] none)
 (.block 0 (.loop (.seq (.reg [zG 9 (.bin .lss (.t 8) (.t 7))] none)
 (.seq (.cond (.t 9) .skip (.exit 0))
 (.seq (.block 1 (.seq (.reg [zG 10 (.iaddr 1 (.t 6) (.t 8)),zL 11 10,zM 5 11] none)
 (.seq (.reg [zM 12 3,zG 13 (.call 194 [(.t 12),(.c (.sc (.complex .f64 4613937818241073152 4611686018427387904)))]),zM 3 13] none)
 (.reg [zM 14 3,zM 15 5,zG 16 (.raw (.i2f .f64) [(.t 15)]),zG 17 (.bin .add (.t 16) (.c (.sc (.float .f64 4607182418800017408)))),zM 18 5,zG 19 (.raw (.i2f .f64) [(.t 18)]),zG 20 (.bin .sub (.c (.sc (.float .f64 4643211215818981376))) (.t 19)),zG 21 (.raw .cplx [(.t 17),(.t 20)]),zG 22 (.bin .add (.t 14) (.t 21)),zG 23 (.call 195 [(.t 22)]),zM 3 23] none))))
 (.reg [zG 24 (.bin .add (.t 8) (.c (.int .i64 1))),zM 8 24] none)))))))
 (.seq (.reg [zM 25 3,zG 26 (.call 196 [(.t 25)]),zH (.store 2 (.t 2) (.t 26))] none)
 .ret))))
theorem f150:aI Tryz.prog 150 27 Ho [.cell 2 (some 2)]:=⟨_,Tryz.func150,rfl,by kernel_rfl,rfl⟩
def F7:AC:=(.seq (.reg [zL 7 1,zG 8 (.mov (.c (.int .i64 0)))] none)
 (.block 0 (.loop (.seq (.reg [zG 9 (.bin .lss (.t 8) (.t 7))] none)
 (.seq (.cond (.t 9) .skip (.exit 0))
 (.seq (.block 1 (.seq (.reg [zL 10 2,zL 11 2,zG 12 (.call 59 [(.t 11),(.c (.int .i64 1))]),zG 13 (.call 57 [(.t 10),(.t 12)]),zL 14 2,zG 15 (.call 59 [(.t 14),(.c (.int .i64 8))]),zG 16 (.build [.str [],.int .i64 0,.int .i64 0,.int .i64 0,.int .i64 0,.bool false,.bool false,.str []] [(0,1,(.t 13)),(1,1,(.t 15))]),zG 4 (.alloc [.str [],.int .i64 0,.int .i64 0,.int .i64 0,.int .i64 0,.bool false,.bool false,.str []]),zH (.store 8 (.t 4) (.t 16))] (some [(0,1),(0,2),(0,4),(1,4),(2,4),(3,4),(0,7),(1,7),(2,7),(3,7),(4,7),(5,7)]))
 (.seq (.reg [zL 18 2,zG 19 (.call 57 [(.t 18),(.c (.int .i64 11))]),zG 20 (.call 112 [(.t 19)]),zM 17 20,zE 21 17 0,zE 22 17 1,zG 5 (.alloc [.int .i64 0,.int .i64 0,.int .i64 0,.bool false,.bool false]),zH (.store 5 (.t 5) (.t 21)),zM 6 22] none)
 (.seq (.reg [zM 23 6,zG 24 (.bin .eql (.t 23) (.c (.int .i64 0))),zG 25 (.call 56 [(.t 24)])] none)
 (.seq (.reg [zW 26 5 5,zF 27 2 4,zH (.store 5 (.t 27) (.t 26))] none)
 (.seq (.reg [zL 28 2,zL 29 2,zG 30 (.call 59 [(.t 29),(.c (.int .i64 2))]),zG 31 (.call 57 [(.t 28),(.t 30)]),zF 32 7 4,zH (.store 1 (.t 32) (.t 31))] (some [(0,1),(0,2)]))
 (.seq (.reg [zM 33 0,zW 34 8 4,zG 35 (.callv (.t 33) [(.t 34)]),zN 36 35] none)
 (.cond (.t 36) .ret .skip))))))))
 (.reg [zG 37 (.bin .add (.t 8) (.c (.int .i64 1))),zM 8 37] none)))))))
theorem f154:aI Tryz.prog 154 38 F7 []:=⟨_,Tryz.func154,rfl,by kernel_rfl,rfl⟩
def Hp:AC:=(.seq (.reg [zG 2 (.mov (.c (.sl 3 [] (.exact 0)))),zG 3 (.mov (.c (.int .i64 0)))] none)
 (.scope (.seq (.reg [zG 4 (.mov (.c (.sl 3 [] (.exact 0))))] none)
 (.seq (.reg [zG 5 (.mov (.c (.sl 1 [] (.exact 0))))] none)
 (.seq (.reg [zG 6 (.mov (.c (.int .i64 0)))] none)
 (.seq (.seq (.reg [zM 7 0,zG 8 (.len true (.t 7)),zG 9 (.bin .gtr (.t 8) (.c (.int .i64 128)))] none)
 (.cond (.t 9) (.seq (.reg [zG 2 (.mov (.c (.sl 3 [] (.exact 0)))),zG 3 (.mov (.c (.int .i64 5)))] none)
 .ret) .skip))
 (.seq (.label 0)
 (.seq (.seq (.reg [zM 10 6,zM 11 0,zG 12 (.len true (.t 11)),zG 13 (.bin .eql (.t 10) (.t 12))] none)
 (.cond (.t 13) (.seq (.reg [zM 14 4,zM 2 14,zG 3 (.mov (.c (.int .i64 0)))] none)
 .ret) .skip))
 (.seq (.reg [zM 15 6,zG 16 (.bin .add (.t 15) (.c (.int .i64 1))),zM 6 16] none)
 (.seq (.seq (.reg [zM 17 0,zM 18 6,zG 19 (.bin .sub (.t 18) (.c (.int .i64 1))),zG 20 (.idx (.t 17) (.t 19))] none)
 (.block 0 (.seq (.reg [zG 22 (.bin .eql (.t 20) (.c (.int .u8 2))),zM 21 22] none)
 (.cond (.t 21) (.seq (.reg [zG 5 (.mov (.c (.sl 1 [] (.exact 0))))] none)
 (.goto 1)) (.seq (.seq (.reg [zG 24 (.bin .eql (.t 20) (.c (.int .u8 3))),zM 23 24] none)
 (.cond (.t 23) .skip (.reg [zG 25 (.bin .eql (.t 20) (.c (.int .u8 4))),zM 23 25] none)))
 (.cond (.t 23) (.goto 2) .skip))))))
 (.seq (.goto 3)
 (.seq (.label 2)
 (.seq (.seq (.reg [zM 26 0,zG 27 (.len true (.t 26)),zM 28 6,zG 29 (.bin .sub (.t 27) (.t 28)),zG 30 (.bin .lss (.t 29) (.c (.int .i64 8)))] none)
 (.cond (.t 30) (.goto 3) .skip))
 (.seq (.seq (.reg [zM 31 0,zM 32 6,zG 33 (.bin .sub (.t 32) (.c (.int .i64 1))),zG 34 (.idx (.t 31) (.t 33)),zG 35 (.bin .eql (.t 34) (.c (.int .u8 3)))] none)
 (.cond (.t 35) (.reg [zM 36 4,zM 37 0,zM 38 6,zM 39 6,zG 40 (.bin .add (.t 39) (.c (.int .i64 8))),zG 41 (.slc true 0 (.t 37) (some (.t 38)) (some (.t 40)) none),zG 42 (.call 199 [(.t 41),(.c (.int .u8 0))]),zG 43 (.build [.int .i64 0,.int .i64 0,.str []] [(0,1,(.c (.int .i64 2))),(1,1,(.t 42))]),zG 44 (.buildSl 3 [(.t 43)]),zG 45 (.app false 3 32 (.t 36) (.t 44)),zM 4 45] none) (.reg [zM 46 4,zM 47 0,zM 48 6,zM 49 6,zG 50 (.bin .add (.t 49) (.c (.int .i64 8))),zG 51 (.slc true 0 (.t 47) (some (.t 48)) (some (.t 50)) none),zG 52 (.call 199 [(.t 51),(.c (.int .u8 255))]),zG 53 (.build [.int .i64 0,.int .i64 0,.str []] [(0,1,(.c (.int .i64 3))),(1,1,(.t 52))]),zG 54 (.buildSl 3 [(.t 53)]),zG 55 (.app false 3 32 (.t 46) (.t 54)),zM 4 55] none)))
 (.seq (.reg [zM 56 6,zG 57 (.bin .add (.t 56) (.c (.int .i64 8))),zM 6 57] none)
 (.seq (.goto 0)
 (.seq (.label 1)
 (.seq (.seq (.reg [zM 58 6,zM 59 0,zG 60 (.len true (.t 59)),zG 61 (.bin .eql (.t 58) (.t 60))] none)
 (.cond (.t 61) (.goto 3) .skip))
 (.seq (.reg [zM 62 6,zG 63 (.bin .add (.t 62) (.c (.int .i64 1))),zM 6 63] none)
 (.seq (.seq (.reg [zM 64 0,zM 65 6,zG 66 (.bin .sub (.t 65) (.c (.int .i64 1))),zG 67 (.idx (.t 64) (.t 66)),zG 68 (.bin .neq (.t 67) (.c (.int .u8 0)))] none)
 (.cond (.t 68) (.seq (.reg [zM 69 5,zM 70 0,zM 71 6,zG 72 (.bin .sub (.t 71) (.c (.int .i64 1))),zG 73 (.idx (.t 70) (.t 72)),zG 74 (.buildSl 1 [(.t 73)]),zG 75 (.app false 1 1 (.t 69) (.t 74)),zM 5 75] none)
 (.goto 1)) .skip))
 (.seq (.seq (.reg [zM 76 6,zM 77 0,zG 78 (.len true (.t 77)),zG 79 (.bin .eql (.t 76) (.t 78))] none)
 (.cond (.t 79) (.goto 3) .skip))
 (.seq (.reg [zM 80 6,zG 81 (.bin .add (.t 80) (.c (.int .i64 1))),zM 6 81] none)
 (.seq (.seq (.reg [zM 82 0,zM 83 6,zG 84 (.bin .sub (.t 83) (.c (.int .i64 1))),zG 85 (.idx (.t 82) (.t 84))] none)
 (.block 1 (.seq (.reg [zG 87 (.bin .eql (.t 85) (.c (.int .u8 255))),zM 86 87] none)
 (.cond (.t 86) (.seq (.reg [zM 88 5,zG 89 (.buildSl 1 [(.c (.int .u8 0))]),zG 90 (.app false 1 1 (.t 88) (.t 89)),zM 5 90] none)
 (.goto 1)) (.seq (.reg [zG 92 (.bin .eql (.t 85) (.c (.int .u8 1))),zM 91 92] none)
 (.cond (.t 91) (.seq (.reg [zM 93 4,zM 94 5,zG 95 (.conv .b2s (.t 94)),zG 96 (.build [.int .i64 0,.int .i64 0,.str []] [(0,1,(.c (.int .i64 1))),(2,1,(.t 95))]),zG 97 (.buildSl 3 [(.t 96)]),zG 98 (.app false 3 32 (.t 93) (.t 97)),zM 4 98] none)
 (.goto 0)) .skip))))))
 (.seq (.label 3)
 (.seq (.reg [zG 2 (.mov (.c (.sl 3 [] (.exact 0)))),zG 3 (.mov (.c (.int .i64 4)))] none)
 .ret)))))))))))))))))))))))))
theorem f156:aI Tryz.prog 156 99 Hp [.tmp 2,.tmp 3]:=⟨_,Tryz.func156,rfl,by kernel_rfl,rfl⟩
def Hq:AC:=(.seq (.reg [zG 4 (.mov (.c (.int .i64 0)))] none)
 (.seq (.reg [zM 5 0,zM 6 1,zG 7 (.call 200 [(.t 5),(.t 6)]),zM 4 7] none)
 .ret))
theorem f157:aI Tryz.prog 157 8 Hq [.tmp 4]:=⟨_,Tryz.func157,rfl,by kernel_rfl,rfl⟩
def Hr:AC:=(.seq (.reg [zG 2 (.mov (.c (.sc (.pointer none))))] none)
 (.seq (.reg [zM 3 0,zG 4 (.call 201 [(.t 3)]),zG 5 (.build [.bool false,.sl 1 [] (.exact 0),.int .i64 0,.int .i64 0] [(0,1,(.c (.bool true))),(1,1,(.t 4))]),zG 6 (.box (.t 5)),zM 2 6] none)
 .ret))
theorem f158:aI Tryz.prog 158 7 Hr [.tmp 2]:=⟨_,Tryz.func158,rfl,by kernel_rfl,rfl⟩
def Hs:AC:=(.seq (.reg [zG 2 (.mov (.c (.int .i64 0)))] none)
 (.seq (.reg [zM 3 0,zG 4 (.call 202 [(.t 3),(.c (.int .i64 1)),(.c (.clo (.func 203) [] []))]),zM 2 4] none)
 .ret))
theorem f159:aI Tryz.prog 159 5 Hs [.tmp 2]:=⟨_,Tryz.func159,rfl,by kernel_rfl,rfl⟩
def Ht:AC:=(.seq (.reg [zG 2 (.mov (.c (.int .i64 0)))] none)
 (.seq (.reg [zM 3 0,zG 4 (.call 202 [(.t 3),(.c (.int .i64 2)),(.c (.clo (.func 203) [] []))]),zM 2 4] none)
 .ret))
theorem f160:aI Tryz.prog 160 5 Ht [.tmp 2]:=⟨_,Tryz.func160,rfl,by kernel_rfl,rfl⟩
def Hu:AC:=(.seq (.reg [zG 2 (.mov (.c (.int .i64 0)))] none)
 (.seq (.reg [zM 3 0,zG 4 (.call 202 [(.t 3),(.c (.int .i64 4)),(.c (.clo (.func 203) [] []))]),zM 2 4] none)
 .ret))
theorem f161:aI Tryz.prog 161 5 Hu [.tmp 2]:=⟨_,Tryz.func161,rfl,by kernel_rfl,rfl⟩
def Hv:AC:=(.seq (.reg [zG 2 (.mov (.c (.int .i64 0)))] none)
 (.seq (.seq (.reg [zM 4 0,zG 5 (.call 204 [(.t 4)]),zM 3 5] none)
 (.seq (.reg [zM 6 3,zG 7 (.bin .neq (.t 6) (.c (.int .i64 0)))] none)
 (.cond (.t 7) (.seq (.reg [zM 8 3,zM 2 8] none)
 .ret) .skip)))
 (.seq (.seq (.reg [zM 9 0,zK 10 9,zF 11 2 10,zL 12 11,zM 13 0,zK 14 13,zF 15 1 14,zL 16 15,zG 17 (.len false (.t 16)),zG 18 (.bin .lss (.t 12) (.t 17))] (some [(3,7)]))
 (.cond (.t 18) (.seq (.reg [zG 2 (.mov (.c (.int .i64 5)))] none)
 .ret) .skip))
 (.seq (.reg [zG 2 (.mov (.c (.int .i64 0)))] none)
 .ret))))
theorem f162:aI Tryz.prog 162 19 Hv [.tmp 2]:=⟨_,Tryz.func162,rfl,by kernel_rfl,rfl⟩
def th:AC:=(.seq (.reg [zG 2 (.mov (.c (.int .i64 0)))] none)
 (.seq (.reg [zG 3 (.mov (.c (.int .i64 0)))] none)
 (.seq (.seq (.reg [zM 4 0] none)
 (.block 0 (.seq (.block 4 (.seq (.block 3 (.seq (.block 2 (.seq (.block 1 (.seq (.seq (.seq (.reg [zG 6 (.bin .eql (.t 4) (.c (.int .i64 6))),zM 5 6] none)
 (.cond (.t 5) (.exit 1) .skip))
 (.seq (.seq (.seq (.reg [zG 8 (.bin .eql (.t 4) (.c (.int .i64 5))),zM 7 8] none)
 (.cond (.t 7) .skip (.reg [zG 9 (.bin .eql (.t 4) (.c (.int .i64 3))),zM 7 9] none)))
 (.cond (.t 7) (.exit 2) .skip))
 (.seq (.seq (.seq (.reg [zG 11 (.bin .eql (.t 4) (.c (.int .i64 4))),zM 10 11] none)
 (.cond (.t 10) .skip (.reg [zG 12 (.bin .eql (.t 4) (.c (.int .i64 2))),zM 10 12] none)))
 (.cond (.t 10) (.exit 3) .skip))
 (.seq (.reg [zG 14 (.bin .eql (.t 4) (.c (.int .i64 1))),zM 13 14] none)
 (.cond (.t 13) (.exit 4) .skip)))))
 (.exit 0)))
 (.reg [zM 15 3,zG 16 (.bin .add (.t 15) (.c (.int .i64 1))),zM 3 16] none)))
 (.reg [zM 17 3,zG 18 (.bin .add (.t 17) (.c (.int .i64 1))),zM 3 18] none)))
 (.reg [zM 19 3,zG 20 (.bin .add (.t 19) (.c (.int .i64 1))),zM 3 20] none)))
 (.seq (.seq (.reg [zM 21 3,zM 2 21] none)
 .ret)
 (.exit 0)))))
 (.seq (.reg [zG 2 (.mov (.c (.int .i64 (-1))))] none)
 .ret))))
theorem f175:aI Tryz.prog 175 22 th [.tmp 2]:=⟨_,Tryz.func175,rfl,by kernel_rfl,rfl⟩
def Hw:AC:=(.seq (.reg [zG 2 (.alloc [.int .i64 0,.int .i64 0,.str []])] none)
 (.seq (.reg [zM 3 0,zG 4 (.build [.int .i64 0,.int .i64 0,.str []] [(0,1,(.c (.int .i64 1))),(2,1,(.t 3))]),zH (.store 3 (.t 2) (.t 4))] none)
 .ret))
theorem f176:aI Tryz.prog 176 5 Hw [.cell 2 (some 3)]:=⟨_,Tryz.func176,rfl,by kernel_rfl,rfl⟩
def Hx:AC:=(.seq (.reg [zG 4 (.alloc [.int .i64 0,.int .i64 0,.str []])] none)
 (.seq (.seq (.reg [zM 5 0,zG 6 (.bin .eql (.t 5) (.c (.int .i64 2)))] none)
 (.cond (.t 6) (.seq (.reg [zM 7 1,zG 8 (.build [.int .i64 0,.int .i64 0,.str []] [(0,1,(.c (.int .i64 3))),(1,1,(.t 7))]),zH (.store 3 (.t 4) (.t 8))] none)
 .ret) .skip))
 (.seq (.reg [zM 9 1,zG 10 (.build [.int .i64 0,.int .i64 0,.str []] [(0,1,(.c (.int .i64 2))),(1,1,(.t 9))]),zH (.store 3 (.t 4) (.t 10))] none)
 .ret)))
theorem f177:aI Tryz.prog 177 11 Hx [.cell 4 (some 3)]:=⟨_,Tryz.func177,rfl,by kernel_rfl,rfl⟩
def Hy:AC:=(.seq (.reg [zG 2 (.mov (.c (.str []))),zG 3 (.mov (.c (.int .i64 0)))] none)
 (.seq (.seq (.reg [zM 9 0,zG 10 (.len false (.t 9)),zG 11 (.mov (.c (.int .i64 0)))] none)
 (.block 0 (.loop (.seq (.reg [zG 12 (.bin .lss (.t 11) (.t 10))] none)
 (.seq (.cond (.t 12) .skip (.exit 0))
 (.seq (.block 1 (.seq (.reg [zG 13 (.iaddr 3 (.t 9) (.t 11)),zW 14 3 13,zG 5 (.alloc [.int .i64 0,.int .i64 0,.str []]),zH (.store 3 (.t 5) (.t 14))] none)
 (.seq (.reg [zW 15 3 5,zG 16 (.call 210 [(.t 15)]),zN 17 16] none)
 (.cond (.t 17) (.seq (.reg [zG 2 (.mov (.c (.str []))),zG 3 (.mov (.c (.int .i64 2)))] none)
 .ret) .skip))))
 (.reg [zG 18 (.bin .add (.t 11) (.c (.int .i64 1))),zM 11 18] none)))))))
 (.seq (.reg [zG 6 (.mov (.c (.sl 1 [] (.exact 0))))] none)
 (.seq (.seq (.reg [zM 19 0,zG 20 (.len false (.t 19)),zG 21 (.mov (.c (.int .i64 0)))] none)
 (.block 2 (.loop (.seq (.reg [zG 22 (.bin .lss (.t 21) (.t 20))] none)
 (.seq (.cond (.t 22) .skip (.exit 2))
 (.seq (.block 3 (.seq (.reg [zG 23 (.iaddr 3 (.t 19) (.t 21)),zW 24 3 23,zG 8 (.alloc [.int .i64 0,.int .i64 0,.str []]),zH (.store 3 (.t 8) (.t 24))] none)
 (.seq (.seq (.reg [zF 25 2 8,zL 26 25,zG 27 (.len true (.t 26)),zG 28 (.bin .gtr (.t 27) (.c (.int .i64 128)))] none)
 (.cond (.t 28) (.seq (.reg [zG 2 (.mov (.c (.str []))),zG 3 (.mov (.c (.int .i64 5)))] none)
 .ret) .skip))
 (.seq (.reg [zM 29 6,zW 30 3 8,zG 31 (.call 211 [(.t 29),(.t 30)]),zM 6 31] none)
 (.seq (.reg [zM 32 6,zG 33 (.len false (.t 32)),zG 34 (.bin .gtr (.t 33) (.c (.int .i64 128)))] none)
 (.cond (.t 34) (.seq (.reg [zG 2 (.mov (.c (.str []))),zG 3 (.mov (.c (.int .i64 5)))] none)
 .ret) .skip))))))
 (.reg [zG 35 (.bin .add (.t 21) (.c (.int .i64 1))),zM 21 35] none)))))))
 (.seq (.reg [zM 36 6,zG 37 (.conv .b2s (.t 36)),zM 2 37,zG 3 (.mov (.c (.int .i64 0)))] none)
 .ret)))))
theorem f178:aI Tryz.prog 178 38 Hy [.tmp 2,.tmp 3]:=⟨_,Tryz.func178,rfl,by kernel_rfl,rfl⟩
def Hz:AC:=(.seq (.reg [zG 4 (.mov (.c (.sc (.complex .f64 0 0))))] none)
 (.seq (.reg [zM 7 0,zG 8 (.raw (.cpart true) [(.t 7)]),zM 9 1,zG 10 (.raw (.cpart true) [(.t 9)]),zG 11 (.bin .mul (.t 8) (.t 10)),zM 12 0,zG 13 (.raw (.cpart false) [(.t 12)]),zM 14 1,zG 15 (.raw (.cpart false) [(.t 14)]),zG 16 (.bin .mul (.t 13) (.t 15)),zG 17 (.bin .sub (.t 11) (.t 16)),zM 5 17] none)
 (.seq (.reg [zM 18 0,zG 19 (.raw (.cpart true) [(.t 18)]),zM 20 1,zG 21 (.raw (.cpart false) [(.t 20)]),zG 22 (.bin .mul (.t 19) (.t 21)),zM 23 0,zG 24 (.raw (.cpart false) [(.t 23)]),zM 25 1,zG 26 (.raw (.cpart true) [(.t 25)]),zG 27 (.bin .mul (.t 24) (.t 26)),zG 28 (.bin .add (.t 22) (.t 27)),zM 6 28] none)
 (.seq (.reg [zM 29 5,zM 30 6,zG 31 (.raw .cplx [(.t 29),(.t 30)]),zG 32 (.call 195 [(.t 31)]),zM 4 32] none)
 .ret))))
theorem f194:aI Tryz.prog 194 33 Hz [.tmp 4]:=⟨_,Tryz.func194,rfl,by kernel_rfl,rfl⟩
def HA:AC:=(.seq (.reg [zG 2 (.mov (.c (.sc (.complex .f64 0 0))))] none)
 (.seq (.reg [zM 3 0,zG 4 (.raw (.cpart true) [(.t 3)]),zG 5 (.call 218 [(.t 4)]),zM 6 0,zG 7 (.raw (.cpart false) [(.t 6)]),zG 8 (.call 218 [(.t 7)]),zG 9 (.raw .cplx [(.t 5),(.t 8)]),zM 2 9] none)
 .ret))
theorem f195:aI Tryz.prog 195 10 HA [.tmp 2]:=⟨_,Tryz.func195,rfl,by kernel_rfl,rfl⟩
def HB:AC:=(.seq (.reg [zG 2 (.alloc [.int .i64 0,.int .i64 0])] none)
 (.seq (.reg [zM 3 0,zG 4 (.raw (.cpart true) [(.t 3)]),zG 5 (.raw (.f2i .i64) [(.t 4)]),zM 6 0,zG 7 (.raw (.cpart false) [(.t 6)]),zG 8 (.raw (.f2i .i64) [(.t 7)]),zG 9 (.build [.int .i64 0,.int .i64 0] [(0,1,(.t 5)),(1,1,(.t 8))]),zH (.store 2 (.t 2) (.t 9))] none)
 .ret))
theorem f196:aI Tryz.prog 196 10 HB [.cell 2 (some 2)]:=⟨_,Tryz.func196,rfl,by kernel_rfl,rfl⟩
def HC:AC:=(.seq (.reg [zG 4 (.mov (.c (.int .i64 0)))] none)
 (.seq (.reg [zG 5 (.mov (.c (.int .u64 0)))] none)
 (.seq (.seq (.reg [zM 8 0,zG 9 (.conv .s2b (.t 8)),zG 10 (.len false (.t 9)),zG 11 (.mov (.c (.int .i64 0)))] none)
 (.block 0 (.loop (.seq (.reg [zG 12 (.bin .lss (.t 11) (.t 10))] none)
 (.seq (.cond (.t 12) .skip (.exit 0))
 (.seq (.block 1 (.seq (.reg [zG 13 (.iaddr 1 (.t 9) (.t 11)),zL 14 13,zM 7 14] none)
 (.reg [zM 15 5,zG 16 (.bin .shl (.t 15) (.c (.int .u64 8))),zM 17 7,zM 18 1,zG 19 (.bin .xor (.t 17) (.t 18)),zG 20 (.conv (.toInt .u64) (.t 19)),zG 21 (.bin .or (.t 16) (.t 20)),zM 5 21] none)))
 (.reg [zG 22 (.bin .add (.t 11) (.c (.int .i64 1))),zM 11 22] none)))))))
 (.seq (.reg [zM 23 5,zG 24 (.bin .xor (.t 23) (.c (.int .u64 9223372036854775808))),zG 25 (.conv (.toInt .i64) (.t 24)),zM 4 25] none)
 .ret))))
theorem f199:aI Tryz.prog 199 26 HC [.tmp 4]:=⟨_,Tryz.func199,rfl,by kernel_rfl,rfl⟩
def HD:AC:=(.seq (.reg [zG 4 (.mov (.c (.int .i64 0)))] none)
 (.seq (.reg [zM 14 1,zG 15 (.len true (.t 14)),zM 5 15] none)
 (.seq (.block 0 (.seq (.reg [zM 17 5,zG 18 (.bin .eql (.t 17) (.c (.int .i64 0))),zM 19 18,zm 20 19 false 1,zm 21 19 false 0,zg 22 19 false (.bin .eql (.t 20) (.t 21)),zO 23 19 22,zM 16 23] none)
 (.cond (.t 16) (.seq (.reg [zG 4 (.mov (.c (.int .i64 0)))] none)
 .ret) (.seq (.reg [zM 25 5,zG 26 (.bin .eql (.t 25) (.c (.int .i64 1))),zM 24 26] none)
 (.cond (.t 24) (.seq (.reg [zM 27 0,zM 28 1,zG 29 (.idx (.t 28) (.c (.int .i64 0))),zG 30 (.call 219 [(.t 27),(.t 29)]),zM 4 30] none)
 .ret) (.seq (.reg [zM 32 5,zM 33 0,zG 34 (.len true (.t 33)),zG 35 (.bin .geq (.t 32) (.t 34)),zM 31 35] none)
 (.cond (.t 31) (.seq (.reg [zG 4 (.mov (.c (.int .i64 (-1))))] none)
 .ret) (.seq (.reg [zM 37 5,zG 38 (.dead),zG 39 (.bin .leq (.t 37) (.t 38)),zM 40 39,zm 41 40 true 0,zg 42 40 true (.len true (.t 41)),zg 43 40 true (.bin .leq (.t 42) (.c (.int .i64 64))),zA 44 40 43,zM 36 44] none)
 (.cond (.t 36) (.seq (.reg [zM 45 0,zM 46 1,zG 47 (.dead),zM 4 47] none)
 .ret) .skip)))))))))
 (.seq (.reg [zM 48 1,zG 49 (.idx (.t 48) (.c (.int .i64 0))),zM 6 49] none)
 (.seq (.reg [zM 50 1,zG 51 (.idx (.t 50) (.c (.int .i64 1))),zM 7 51] none)
 (.seq (.reg [zG 8 (.mov (.c (.int .i64 0)))] none)
 (.seq (.reg [zM 52 0,zG 53 (.len true (.t 52)),zM 54 5,zG 55 (.bin .sub (.t 53) (.t 54)),zG 56 (.bin .add (.t 55) (.c (.int .i64 1))),zM 9 56] none)
 (.seq (.reg [zG 10 (.mov (.c (.int .i64 0)))] none)
 (.seq (.block 1 (.loop (.seq (.seq (.reg [zM 57 8,zM 58 9,zG 59 (.bin .lss (.t 57) (.t 58))] none)
 (.cond (.t 59) .skip (.exit 1)))
 (.block 2 (.seq (.seq (.reg [zM 60 0,zM 61 8,zG 62 (.idx (.t 60) (.t 61)),zM 63 6,zG 64 (.bin .neq (.t 62) (.t 63))] none)
 (.cond (.t 64) (.seq (.reg [zM 65 0,zM 66 8,zG 67 (.bin .add (.t 66) (.c (.int .i64 1))),zM 68 9,zG 69 (.slc true 0 (.t 65) (some (.t 67)) (some (.t 68)) none),zM 70 6,zG 71 (.call 219 [(.t 69),(.t 70)]),zM 11 71] none)
 (.seq (.seq (.reg [zM 72 11,zG 73 (.bin .lss (.t 72) (.c (.int .i64 0)))] none)
 (.cond (.t 73) (.seq (.reg [zG 4 (.mov (.c (.int .i64 (-1))))] none)
 .ret) .skip))
 (.reg [zM 74 8,zM 75 11,zG 76 (.bin .add (.t 75) (.c (.int .i64 1))),zG 77 (.bin .add (.t 74) (.t 76)),zM 8 77] none))) .skip))
 (.seq (.seq (.reg [zM 78 0,zM 79 8,zG 80 (.bin .add (.t 79) (.c (.int .i64 1))),zG 81 (.idx (.t 78) (.t 80)),zM 82 7,zG 83 (.bin .eql (.t 81) (.t 82)),zM 84 83,zm 85 84 true 0,zm 86 84 true 8,zm 87 84 true 8,zm 88 84 true 5,zg 89 84 true (.bin .add (.t 87) (.t 88)),zg 90 84 true (.slc true 0 (.t 85) (some (.t 86)) (some (.t 89)) none),zm 91 84 true 1,zg 92 84 true (.bin .eql (.t 90) (.t 91)),zA 93 84 92] none)
 (.cond (.t 93) (.seq (.reg [zM 94 8,zM 4 94] none)
 .ret) .skip))
 (.seq (.reg [zM 95 8,zG 96 (.bin .add (.t 95) (.c (.int .i64 1))),zM 8 96] none)
 (.seq (.reg [zM 97 10,zG 98 (.bin .add (.t 97) (.c (.int .i64 1))),zM 10 98] none)
 (.seq (.reg [zM 99 5,zG 100 (.dead),zG 101 (.bin .leq (.t 99) (.t 100)),zM 102 101,zm 103 102 true 10,zm 104 102 true 8,zg 105 102 true (.call 221 [(.t 104)]),zg 106 102 true (.bin .gtr (.t 103) (.t 105)),zA 107 102 106] none)
 (.cond (.t 107) (.seq (.reg [zM 108 0,zM 109 8,zG 110 (.slc true 0 (.t 108) (some (.t 109)) none none),zM 111 1,zG 112 (.dead),zM 12 112] none)
 (.seq (.seq (.reg [zM 113 12,zG 114 (.bin .geq (.t 113) (.c (.int .i64 0)))] none)
 (.cond (.t 114) (.seq (.reg [zM 115 12,zM 116 8,zG 117 (.bin .add (.t 115) (.t 116)),zM 4 117] none)
 .ret) .skip))
 (.seq (.reg [zG 4 (.mov (.c (.int .i64 (-1))))] none)
 .ret))) (.seq (.reg [zM 118 5,zG 119 (.dead),zG 120 (.bin .gtr (.t 118) (.t 119)),zM 121 120,zm 122 121 true 10,zm 123 121 true 8,zg 124 121 true (.bin .shr (.t 123) (.c (.int .u64 4))),zg 125 121 true (.bin .add (.c (.int .i64 4)) (.t 124)),zg 126 121 true (.bin .geq (.t 122) (.t 125)),zA 127 121 126,zM 128 127,zm 129 128 true 8,zm 130 128 true 9,zg 131 128 true (.bin .lss (.t 129) (.t 130)),zA 132 128 131] none)
 (.cond (.t 132) (.seq (.reg [zM 133 0,zM 134 8,zG 135 (.slc true 0 (.t 133) (some (.t 134)) none none),zM 136 1,zG 137 (.call 222 [(.t 135),(.t 136)]),zM 13 137] none)
 (.seq (.seq (.reg [zM 138 13,zG 139 (.bin .lss (.t 138) (.c (.int .i64 0)))] none)
 (.cond (.t 139) (.seq (.reg [zG 4 (.mov (.c (.int .i64 (-1))))] none)
 .ret) .skip))
 (.seq (.reg [zM 140 8,zM 141 13,zG 142 (.bin .add (.t 140) (.t 141)),zM 4 142] none)
 .ret))) .skip))))))))))))
 (.seq (.reg [zG 4 (.mov (.c (.int .i64 (-1))))] none)
 .ret))))))))))
theorem f200:aI Tryz.prog 200 143 HD [.tmp 4]:=⟨_,Tryz.func200,rfl,by kernel_rfl,rfl⟩
def IV:AC:=(.seq (.reg [zG 2 (.mov (.c (.sl 1 [] (.exact 0))))] none)
 (.seq (.seq (.reg [zM 3 0,zG 4 (.eqN false (.t 3))] none)
 (.cond (.t 4) (.seq (.reg [zG 2 (.mov (.c (.sl 1 [] (.exact 0))))] none)
 .ret) .skip))
 (.seq (.reg [zG 5 (.buildSl 1 []),zM 6 0,zG 7 (.app false 1 1 (.t 5) (.t 6)),zM 2 7] none)
 .ret)))
theorem f201:aI Tryz.prog 201 8 IV [.tmp 2]:=⟨_,Tryz.func201,rfl,by kernel_rfl,rfl⟩
def HE:AC:=(.seq (.reg [zG 6 (.mov (.c (.int .i64 0)))] none)
 (.seq (.seq (.reg [zM 9 0,zG 10 (.call 223 [(.t 9)]),zN 11 10] none)
 (.cond (.t 11) (.seq (.reg [zG 6 (.mov (.c (.int .i64 0)))] none)
 .ret) .skip))
 (.seq (.reg [zM 13 0,zM 14 0,zK 15 14,zF 16 2 15,zL 17 16,zM 18 1,zG 19 (.call 224 [(.t 13),(.t 17),(.t 18)]),zM 12 19,zE 20 12 0,zE 21 12 1,zM 7 20,zM 8 21] none)
 (.seq (.seq (.reg [zM 22 8,zN 23 22] none)
 (.cond (.t 23) (.seq (.reg [zM 24 0,zK 25 24,zF 26 3 25,zH (.store 1 (.t 26) (.c (.int .i64 3)))] none)
 (.seq (.reg [zG 6 (.mov (.c (.int .i64 0)))] none)
 .ret)) .skip))
 (.seq (.reg [zM 27 0,zK 28 27,zF 29 2 28,zL 30 29,zM 31 1,zG 32 (.bin .add (.t 30) (.t 31)),zK 33 27,zF 34 2 33,zH (.store 1 (.t 34) (.t 32))] none)
 (.seq (.reg [zM 35 2,zM 36 7,zG 37 (.callv (.t 35) [(.t 36)]),zM 6 37] none)
 .ret))))))
theorem f202:aI Tryz.prog 202 38 HE [.tmp 6]:=⟨_,Tryz.func202,rfl,by kernel_rfl,rfl⟩
def HF:AC:=(.seq (.reg [zG 2 (.mov (.c (.int .i64 0)))] none)
 (.seq (.reg [zM 3 0,zG 4 (.conv (.toInt .i64) (.t 3)),zM 2 4] none)
 .ret))
theorem f203:aI Tryz.prog 203 5 HF [.tmp 2]:=⟨_,Tryz.func203,rfl,by kernel_rfl,rfl⟩
def HG:AC:=(.seq (.reg [zG 2 (.mov (.c (.int .i64 0)))] none)
 (.seq (.seq (.reg [zM 3 0,zG 4 (.eqP false (.t 3) (.c (.sc (.pointer none)))),zM 5 4,zm 6 5 false 0,zk 7 5 false 6,zf 8 5 false 0 7,zl 9 5 false 8,zn 10 5 false 9,zO 11 5 10] none)
 (.cond (.t 11) (.seq (.reg [zG 2 (.mov (.c (.int .i64 1)))] none)
 .ret) .skip))
 (.seq (.reg [zM 12 0,zK 13 12,zF 14 3 13,zL 15 14,zM 2 15] none)
 .ret)))
theorem f204:aI Tryz.prog 204 16 HG [.tmp 2]:=⟨_,Tryz.func204,rfl,by kernel_rfl,rfl⟩
def HH:AC:=(.seq (.reg [zG 1 (.box (.t 0)),zG 2 (.mov (.c (.bool false)))] none)
 (.seq (.seq (.reg [zF 3 0 1,zL 4 3] none)
 (.block 0 (.seq (.reg [zG 6 (.bin .eql (.t 4) (.c (.int .i64 1))),zM 5 6] none)
 (.cond (.t 5) (.seq (.reg [zF 7 1 1,zL 8 7,zG 9 (.bin .eql (.t 8) (.c (.int .i64 0))),zM 2 9] none)
 .ret) (.seq (.seq (.reg [zG 11 (.bin .eql (.t 4) (.c (.int .i64 2))),zM 10 11] none)
 (.cond (.t 10) .skip (.reg [zG 12 (.bin .eql (.t 4) (.c (.int .i64 3))),zM 10 12] none)))
 (.cond (.t 10) (.seq (.reg [zF 13 2 1,zL 14 13,zG 15 (.bin .eql (.t 14) (.c (.str []))),zM 2 15] none)
 .ret) .skip))))))
 (.seq (.reg [zG 2 (.mov (.c (.bool false)))] none)
 .ret)))
theorem f210:aI Tryz.prog 210 16 HH [.tmp 2]:=⟨_,Tryz.func210,rfl,by kernel_rfl,rfl⟩
def HI:AC:=(.seq (.reg [zG 3 (.box (.t 1)),zG 4 (.mov (.c (.sl 1 [] (.exact 0))))] none)
 (.seq (.seq (.reg [zF 7 0 3,zL 8 7] none)
 (.block 0 (.seq (.reg [zG 10 (.bin .eql (.t 8) (.c (.int .i64 2))),zM 9 10] none)
 (.cond (.t 9) (.seq (.reg [zM 11 0,zG 12 (.buildSl 1 [(.c (.int .u8 3))]),zG 13 (.app false 1 1 (.t 11) (.t 12)),zF 14 1 3,zL 15 14,zG 16 (.call 228 [(.t 13),(.t 15),(.c (.int .u8 0))]),zM 4 16] (some [(1,4),(2,4)]))
 .ret) (.seq (.reg [zG 18 (.bin .eql (.t 8) (.c (.int .i64 3))),zM 17 18] none)
 (.cond (.t 17) (.seq (.reg [zM 19 0,zG 20 (.buildSl 1 [(.c (.int .u8 4))]),zG 21 (.app false 1 1 (.t 19) (.t 20)),zF 22 1 3,zL 23 22,zG 24 (.call 228 [(.t 21),(.t 23),(.c (.int .u8 255))]),zM 4 24] (some [(1,4),(2,4)]))
 .ret) .skip))))))
 (.seq (.reg [zM 25 0,zG 26 (.buildSl 1 [(.c (.int .u8 2))]),zG 27 (.app false 1 1 (.t 25) (.t 26)),zM 0 27] none)
 (.seq (.seq (.reg [zF 28 2 3,zL 29 28,zG 30 (.conv .s2b (.t 29)),zG 31 (.len false (.t 30)),zG 32 (.mov (.c (.int .i64 0)))] none)
 (.block 1 (.loop (.seq (.reg [zG 33 (.bin .lss (.t 32) (.t 31))] none)
 (.seq (.cond (.t 33) .skip (.exit 1))
 (.seq (.block 2 (.seq (.reg [zG 34 (.iaddr 1 (.t 30) (.t 32)),zL 35 34,zM 6 35] none)
 (.seq (.reg [zM 36 0,zM 37 6,zG 38 (.buildSl 1 [(.t 37)]),zG 39 (.app false 1 1 (.t 36) (.t 38)),zM 0 39] none)
 (.seq (.reg [zM 40 6,zG 41 (.bin .eql (.t 40) (.c (.int .u8 0)))] none)
 (.cond (.t 41) (.reg [zM 42 0,zG 43 (.buildSl 1 [(.c (.int .u8 255))]),zG 44 (.app false 1 1 (.t 42) (.t 43)),zM 0 44] none) .skip)))))
 (.reg [zG 45 (.bin .add (.t 32) (.c (.int .i64 1))),zM 32 45] none)))))))
 (.seq (.reg [zM 46 0,zG 47 (.buildSl 1 [(.c (.int .u8 0)),(.c (.int .u8 1))]),zG 48 (.app false 1 1 (.t 46) (.t 47)),zM 4 48] none)
 .ret)))))
theorem f211:aI Tryz.prog 211 49 HI [.tmp 4]:=⟨_,Tryz.func211,rfl,by kernel_rfl,rfl⟩
def HJ:AC:=(.seq (.reg [zG 2 (.mov (.c (.sc (.float .f64 0))))] none)
 (.seq (.reg [zM 3 0,zG 4 (.call 233 [(.t 3),(.c (.sc (.float .f64 4697254385577623552)))]),zM 0 4] none)
 (.seq (.seq (.reg [zM 5 0,zG 6 (.bin .lss (.t 5) (.c (.sc (.float .f64 0))))] none)
 (.cond (.t 6) (.reg [zM 7 0,zG 8 (.bin .add (.t 7) (.c (.sc (.float .f64 4697254385577623552)))),zM 0 8] none) .skip))
 (.seq (.reg [zM 9 0,zM 2 9] none)
 .ret))))
theorem f218:aI Tryz.prog 218 10 HJ [.tmp 2]:=⟨_,Tryz.func218,rfl,by kernel_rfl,rfl⟩
def HK:AC:=(.seq (.reg [zG 4 (.mov (.c (.int .i64 0)))] none)
 (.seq (.reg [zM 5 0,zM 6 1,zG 7 (.raw .ibyte [(.t 5),(.t 6)]),zM 4 7] none)
 .ret))
theorem f219:aI Tryz.prog 219 8 HK [.tmp 4]:=⟨_,Tryz.func219,rfl,by kernel_rfl,rfl⟩
def HL:AC:=(.seq (.reg [zG 2 (.mov (.c (.bool false)))] none)
 (.seq (.reg [zM 3 0,zG 4 (.eqP true (.t 3) (.c (.sc (.pointer none)))),zM 5 4,zm 6 5 true 0,zk 7 5 true 6,zf 8 5 true 0 7,zl 9 5 true 8,zA 10 5 9,zM 11 10,zm 12 11 true 0,zk 13 11 true 12,zf 14 11 true 3 13,zl 15 11 true 14,zg 16 11 true (.bin .eql (.t 15) (.c (.int .i64 0))),zA 17 11 16,zM 2 17] none)
 .ret))
theorem f223:aI Tryz.prog 223 18 HL [.tmp 2]:=⟨_,Tryz.func223,rfl,by kernel_rfl,rfl⟩
def HM:AC:=(.seq (.reg [zG 6 (.mov (.c (.int .u64 0))),zG 7 (.mov (.c (.bool false)))] none)
 (.seq (.seq (.reg [zM 11 0,zK 12 11,zF 13 1 12,zL 14 13,zG 15 (.len false (.t 14)),zM 16 1,zG 17 (.bin .sub (.t 15) (.t 16)),zM 18 2,zG 19 (.bin .lss (.t 17) (.t 18))] none)
 (.cond (.t 19) (.seq (.reg [zG 6 (.mov (.c (.int .u64 0))),zG 7 (.mov (.c (.bool false)))] none)
 .ret) .skip))
 (.seq (.reg [zG 8 (.mov (.c (.int .u64 0)))] none)
 (.seq (.seq (.reg [zM 20 0,zK 21 20,zF 22 1 21,zL 23 22,zM 24 1,zM 25 1,zM 26 2,zG 27 (.bin .add (.t 25) (.t 26)),zG 28 (.slc false 1 (.t 23) (some (.t 24)) (some (.t 27)) none),zG 29 (.len false (.t 28)),zG 30 (.mov (.c (.int .i64 0)))] none)
 (.block 0 (.loop (.seq (.reg [zG 31 (.bin .lss (.t 30) (.t 29))] none)
 (.seq (.cond (.t 31) .skip (.exit 0))
 (.seq (.block 1 (.seq (.reg [zG 32 (.iaddr 1 (.t 28) (.t 30)),zL 33 32,zM 10 33] none)
 (.reg [zM 34 8,zG 35 (.bin .shl (.t 34) (.c (.int .u64 8))),zM 36 10,zG 37 (.conv (.toInt .u64) (.t 36)),zG 38 (.bin .or (.t 35) (.t 37)),zM 8 38] none)))
 (.reg [zG 39 (.bin .add (.t 30) (.c (.int .i64 1))),zM 30 39] none)))))))
 (.seq (.reg [zM 40 8,zM 6 40,zG 7 (.mov (.c (.bool true)))] none)
 .ret)))))
theorem f224:aI Tryz.prog 224 41 HM [.tmp 6,.tmp 7]:=⟨_,Tryz.func224,rfl,by kernel_rfl,rfl⟩
def HN:AC:=(.seq (.reg [zG 6 (.mov (.c (.sl 1 [] (.exact 0))))] none)
 (.seq (.reg [zM 9 1,zG 10 (.conv (.toInt .u64) (.t 9)),zG 11 (.bin .xor (.t 10) (.c (.int .u64 9223372036854775808))),zM 7 11] none)
 (.seq (.seq (.reg [zG 8 (.mov (.c (.int .i64 56)))] none)
 (.block 0 (.loop (.seq (.seq (.reg [zM 12 8,zG 13 (.bin .geq (.t 12) (.c (.int .i64 0)))] none)
 (.cond (.t 13) .skip (.exit 0)))
 (.seq (.block 1 (.reg [zM 16 0,zM 17 7,zM 18 8,zG 19 (.bin .shr (.t 17) (.t 18)),zG 20 (.conv (.toInt .u8) (.t 19)),zM 21 2,zG 22 (.bin .xor (.t 20) (.t 21)),zG 23 (.buildSl 1 [(.t 22)]),zG 24 (.app false 1 1 (.t 16) (.t 23)),zM 0 24] none))
 (.reg [zM 14 8,zG 15 (.bin .sub (.t 14) (.c (.int .i64 8))),zM 8 15] none))))))
 (.seq (.reg [zM 25 0,zM 6 25] none)
 .ret))))
theorem f228:aI Tryz.prog 228 26 HN [.tmp 6]:=⟨_,Tryz.func228,rfl,by kernel_rfl,rfl⟩
def HO:AC:=(.seq (.reg [zG 4 (.mov (.c (.sc (.float .f64 0))))] none)
 (.seq (.cond (.c (.bool false)) (.seq (.reg [zM 5 0,zM 6 1,zG 7 (.call 240 [(.t 5),(.t 6)]),zM 4 7] none)
 .ret) .skip)
 (.seq (.reg [zM 8 0,zM 9 1,zG 10 (.call 241 [(.t 8),(.t 9)]),zM 4 10] none)
 .ret)))
theorem f233:aI Tryz.prog 233 11 HO [.tmp 4]:=⟨_,Tryz.func233,rfl,by kernel_rfl,rfl⟩
def HP:AC:=(.seq (.reg [zG 4 (.mov (.c (.sc (.float .f64 0))))] none)
 (.seq (.seq (.reg [zM 10 1,zG 11 (.bin .eql (.t 10) (.c (.sc (.float .f64 0)))),zM 12 11,zm 13 12 false 0,zg 14 12 false (.call 242 [(.t 13),(.c (.int .i64 0))]),zO 15 12 14,zM 16 15,zm 17 16 false 0,zg 18 16 false (.call 243 [(.t 17)]),zO 19 16 18,zM 20 19,zm 21 20 false 1,zg 22 20 false (.call 243 [(.t 21)]),zO 23 20 22] none)
 (.cond (.t 23) (.seq (.reg [zG 24 (.call 244 []),zM 4 24] none)
 .ret) .skip))
 (.seq (.reg [zM 25 1,zG 26 (.call 245 [(.t 25)]),zM 1 26] none)
 (.seq (.reg [zM 28 1,zG 29 (.call 246 [(.t 28)]),zM 27 29,zE 30 27 0,zE 31 27 1,zM 5 30,zM 6 31] none)
 (.seq (.reg [zM 32 0,zM 7 32] none)
 (.seq (.seq (.reg [zM 33 0,zG 34 (.bin .lss (.t 33) (.c (.sc (.float .f64 0))))] none)
 (.cond (.t 34) (.reg [zM 35 0,zG 36 (.un .neg (.t 35)),zM 7 36] none) .skip))
 (.seq (.block 0 (.loop (.seq (.seq (.reg [zM 37 7,zM 38 1,zG 39 (.bin .geq (.t 37) (.t 38))] none)
 (.cond (.t 39) .skip (.exit 0)))
 (.block 1 (.seq (.reg [zM 41 7,zG 42 (.call 246 [(.t 41)]),zM 40 42,zE 43 40 0,zE 44 40 1,zM 8 43,zM 9 44] none)
 (.seq (.seq (.reg [zM 45 8,zM 46 5,zG 47 (.bin .lss (.t 45) (.t 46))] none)
 (.cond (.t 47) (.reg [zM 48 9,zG 49 (.bin .sub (.t 48) (.c (.int .i64 1))),zM 9 49] none) .skip))
 (.reg [zM 50 7,zM 51 1,zM 52 9,zM 53 6,zG 54 (.bin .sub (.t 52) (.t 53)),zG 55 (.call 247 [(.t 51),(.t 54)]),zG 56 (.bin .sub (.t 50) (.t 55)),zM 7 56] none)))))))
 (.seq (.seq (.reg [zM 57 0,zG 58 (.bin .lss (.t 57) (.c (.sc (.float .f64 0))))] none)
 (.cond (.t 58) (.reg [zM 59 7,zG 60 (.un .neg (.t 59)),zM 7 60] none) .skip))
 (.seq (.reg [zM 61 7,zM 4 61] none)
 .ret)))))))))
theorem f241:aI Tryz.prog 241 62 HP [.tmp 4]:=⟨_,Tryz.func241,rfl,by kernel_rfl,rfl⟩
def HQ:AC:=(.seq (.reg [zG 4 (.mov (.c (.bool false)))] none)
 (.seq (.seq (.reg [zM 5 1,zG 6 (.bin .eql (.t 5) (.c (.int .i64 0)))] none)
 (.cond (.t 6) (.reg [zM 7 0,zG 8 (.call 245 [(.t 7)]),zM 0 8] none) (.seq (.reg [zM 9 1,zG 10 (.bin .lss (.t 9) (.c (.int .i64 0)))] none)
 (.cond (.t 10) (.reg [zM 11 0,zG 12 (.un .neg (.t 11)),zM 0 12] none) .skip))))
 (.seq (.reg [zM 13 0,zG 14 (.bin .gtr (.t 13) (.c (.sc (.float .f64 9218868437227405311)))),zM 4 14] none)
 .ret)))
theorem f242:aI Tryz.prog 242 15 HQ [.tmp 4]:=⟨_,Tryz.func242,rfl,by kernel_rfl,rfl⟩
def HT:AC:=(.seq (.reg [zG 2 (.mov (.c (.bool false)))] none)
 (.seq (.reg [zM 3 0,zM 4 0,zG 5 (.bin .neq (.t 3) (.t 4)),zM 2 5] none)
 .ret))
theorem f243:aI Tryz.prog 243 6 HT [.tmp 2]:=⟨_,Tryz.func243,rfl,by kernel_rfl,rfl⟩
def HU:AC:=(.seq (.reg [zG 2 (.mov (.c (.sc (.float .f64 0))))] none)
 (.seq (.reg [zM 3 0,zG 4 (.raw .fbits [(.t 3)]),zG 5 (.bin .andNot (.t 4) (.c (.int .u64 9223372036854775808))),zG 6 (.raw .fofbits [(.t 5)]),zM 2 6] none)
 .ret))
theorem f245:aI Tryz.prog 245 7 HU [.tmp 2]:=⟨_,Tryz.func245,rfl,by kernel_rfl,rfl⟩
def HV:AC:=(.seq (.reg [zG 2 (.mov (.c (.sc (.float .f64 0)))),zG 3 (.mov (.c (.int .i64 0)))] none)
 (.seq (.cond (.c (.bool false)) (.seq (.reg [zM 4 0,zG 5 (.call 250 [(.t 4)]),zE 6 5 0,zE 7 5 1,zM 2 6,zM 3 7] none)
 .ret) .skip)
 (.seq (.reg [zM 8 0,zG 9 (.call 251 [(.t 8)]),zE 10 9 0,zE 11 9 1,zM 2 10,zM 3 11] none)
 .ret)))
theorem f246:aI Tryz.prog 246 12 HV [.tmp 2,.tmp 3]:=⟨_,Tryz.func246,rfl,by kernel_rfl,rfl⟩
def HW:AC:=(.seq (.reg [zG 4 (.mov (.c (.sc (.float .f64 0))))] none)
 (.seq (.cond (.c (.bool false)) (.seq (.reg [zM 5 0,zM 6 1,zG 7 (.call 252 [(.t 5),(.t 6)]),zM 4 7] none)
 .ret) .skip)
 (.seq (.reg [zM 8 0,zM 9 1,zG 10 (.call 253 [(.t 8),(.t 9)]),zM 4 10] none)
 .ret)))
theorem f247:aI Tryz.prog 247 11 HW [.tmp 4]:=⟨_,Tryz.func247,rfl,by kernel_rfl,rfl⟩
def HX:AC:=(.seq (.reg [zG 2 (.mov (.c (.sc (.float .f64 0)))),zG 3 (.mov (.c (.int .i64 0)))] none)
 (.seq (.block 0 (.seq (.reg [zM 6 0,zG 7 (.bin .eql (.t 6) (.c (.sc (.float .f64 0)))),zM 5 7] none)
 (.cond (.t 5) (.seq (.reg [zM 8 0,zM 2 8,zG 3 (.mov (.c (.int .i64 0)))] none)
 .ret) (.seq (.reg [zM 10 0,zG 11 (.call 242 [(.t 10),(.c (.int .i64 0))]),zM 12 11,zm 13 12 false 0,zg 14 12 false (.call 243 [(.t 13)]),zO 15 12 14,zM 9 15] none)
 (.cond (.t 9) (.seq (.reg [zM 16 0,zM 2 16,zG 3 (.mov (.c (.int .i64 0)))] none)
 .ret) .skip)))))
 (.seq (.reg [zM 18 0,zG 19 (.call 254 [(.t 18)]),zM 17 19,zE 20 17 0,zE 21 17 1,zM 0 20,zM 3 21] none)
 (.seq (.reg [zM 22 0,zG 23 (.raw .fbits [(.t 22)]),zM 4 23] none)
 (.seq (.reg [zM 24 3,zM 25 4,zG 26 (.bin .shr (.t 25) (.c (.int .u64 52))),zG 27 (.bin .and (.t 26) (.c (.int .u64 2047))),zG 28 (.conv (.toInt .i64) (.t 27)),zG 29 (.bin .sub (.t 28) (.c (.int .i64 1023))),zG 30 (.bin .add (.t 29) (.c (.int .i64 1))),zG 31 (.bin .add (.t 24) (.t 30)),zM 3 31] none)
 (.seq (.reg [zM 32 4,zG 33 (.bin .andNot (.t 32) (.c (.int .u64 9218868437227405312))),zM 4 33] none)
 (.seq (.reg [zM 34 4,zG 35 (.bin .or (.t 34) (.c (.int .u64 4602678819172646912))),zM 4 35] none)
 (.seq (.reg [zM 36 4,zG 37 (.raw .fofbits [(.t 36)]),zM 2 37] none)
 .ret))))))))
theorem f251:aI Tryz.prog 251 38 HX [.tmp 2,.tmp 3]:=⟨_,Tryz.func251,rfl,by kernel_rfl,rfl⟩
def HY:AC:=(.seq (.reg [zG 4 (.mov (.c (.sc (.float .f64 0))))] none)
 (.seq (.block 0 (.seq (.reg [zM 9 0,zG 10 (.bin .eql (.t 9) (.c (.sc (.float .f64 0)))),zM 8 10] none)
 (.cond (.t 8) (.seq (.reg [zM 11 0,zM 4 11] none)
 .ret) (.seq (.reg [zM 13 0,zG 14 (.call 242 [(.t 13),(.c (.int .i64 0))]),zM 15 14,zm 16 15 false 0,zg 17 15 false (.call 243 [(.t 16)]),zO 18 15 17,zM 12 18] none)
 (.cond (.t 12) (.seq (.reg [zM 19 0,zM 4 19] none)
 .ret) .skip)))))
 (.seq (.reg [zM 21 0,zG 22 (.call 254 [(.t 21)]),zM 20 22,zE 23 20 0,zE 24 20 1,zM 0 23,zM 5 24] none)
 (.seq (.reg [zM 25 1,zM 26 5,zG 27 (.bin .add (.t 25) (.t 26)),zM 1 27] none)
 (.seq (.reg [zM 28 0,zG 29 (.raw .fbits [(.t 28)]),zM 6 29] none)
 (.seq (.reg [zM 30 1,zM 31 6,zG 32 (.bin .shr (.t 31) (.c (.int .u64 52))),zG 33 (.conv (.toInt .i64) (.t 32)),zG 34 (.bin .and (.t 33) (.c (.int .i64 2047))),zG 35 (.bin .sub (.t 34) (.c (.int .i64 1023))),zG 36 (.bin .add (.t 30) (.t 35)),zM 1 36] none)
 (.seq (.seq (.reg [zM 37 1,zG 38 (.bin .lss (.t 37) (.c (.int .i64 (-1075))))] none)
 (.cond (.t 38) (.seq (.reg [zM 39 0,zG 40 (.call 255 [(.c (.sc (.float .f64 0))),(.t 39)]),zM 4 40] none)
 .ret) .skip))
 (.seq (.seq (.reg [zM 41 1,zG 42 (.bin .gtr (.t 41) (.c (.int .i64 1023)))] none)
 (.cond (.t 42) (.seq (.seq (.reg [zM 43 0,zG 44 (.bin .lss (.t 43) (.c (.sc (.float .f64 0))))] none)
 (.cond (.t 44) (.seq (.reg [zG 45 (.call 256 [(.c (.int .i64 (-1)))]),zM 4 45] none)
 .ret) .skip))
 (.seq (.reg [zG 46 (.call 256 [(.c (.int .i64 1))]),zM 4 46] none)
 .ret)) .skip))
 (.seq (.reg [zG 7 (.mov (.c (.sc (.float .f64 4607182418800017408))))] none)
 (.seq (.seq (.reg [zM 47 1,zG 48 (.bin .lss (.t 47) (.c (.int .i64 (-1022))))] none)
 (.cond (.t 48) (.seq (.reg [zM 49 1,zG 50 (.bin .add (.t 49) (.c (.int .i64 53))),zM 1 50] none)
 (.reg [zG 7 (.mov (.c (.sc (.float .f64 4368491638549381120))))] none)) .skip))
 (.seq (.reg [zM 51 6,zG 52 (.bin .andNot (.t 51) (.c (.int .u64 9218868437227405312))),zM 6 52] none)
 (.seq (.reg [zM 53 6,zM 54 1,zG 55 (.bin .add (.t 54) (.c (.int .i64 1023))),zG 56 (.conv (.toInt .u64) (.t 55)),zG 57 (.bin .shl (.t 56) (.c (.int .u64 52))),zG 58 (.bin .or (.t 53) (.t 57)),zM 6 58] none)
 (.seq (.reg [zM 59 7,zM 60 6,zG 61 (.raw .fofbits [(.t 60)]),zG 62 (.bin .mul (.t 59) (.t 61)),zM 4 62] none)
 .ret)))))))))))))
theorem f253:aI Tryz.prog 253 63 HY [.tmp 4]:=⟨_,Tryz.func253,rfl,by kernel_rfl,rfl⟩
def HZ:AC:=(.seq (.reg [zG 2 (.mov (.c (.sc (.float .f64 0)))),zG 3 (.mov (.c (.int .i64 0)))] none)
 (.seq (.seq (.reg [zM 4 0,zG 5 (.call 245 [(.t 4)]),zG 6 (.bin .lss (.t 5) (.c (.sc (.float .f64 4503599627370496))))] none)
 (.cond (.t 6) (.seq (.reg [zM 7 0,zG 8 (.bin .mul (.t 7) (.c (.sc (.float .f64 4841369599423283200)))),zM 2 8,zG 3 (.mov (.c (.int .i64 (-52))))] none)
 .ret) .skip))
 (.seq (.reg [zM 9 0,zM 2 9,zG 3 (.mov (.c (.int .i64 0)))] none)
 .ret)))
theorem f254:aI Tryz.prog 254 10 HZ [.tmp 2,.tmp 3]:=⟨_,Tryz.func254,rfl,by kernel_rfl,rfl⟩
end Go.Proofs.YtjnoobmaedgooaaGreat.C
end
section
set_option maxRecDepth 100000
namespace Go.Proofs.YtjnoobmaedgooaaGreat.C
open Go.Av
end Go.Proofs.YtjnoobmaedgooaaGreat.C
end
section
set_option maxRecDepth 100000
namespace Go.Proofs.YtjnoobmaedgooaaGreat.Arch
open Go Go.Av Go.Proofs Go.Proofs.YtjnoobmaedgooaaGreat.C
theorem wrap32 {n:Nat} (h:n<4294967296):IntKind.u32.wrap (n:Int)=n:=by
 simp[IntKind.wrap,IntKind.bits,IntKind.signed];omega
theorem ofInt32 {n:Nat} (h:n<4294967296):(BitVec.ofInt IntKind.u32.bits (n:Int)).toNat=n:=by
 rw[BitVec.ofInt_natCast,BitVec.toNat_ofNat]
 exact Nat.mod_eq_of_lt h
theorem xd {a b:Nat} (ha:a<4294967296) (hb:b<4294967296):la .u32 (a:Int) (b:Int)=((a ^^^ b:Nat):Int):=by
 unfold la
 rw[BitVec.toNat_xor,ofInt32 ha,ofInt32 hb]
 exact wrap32 (Nat.xor_lt_two_pow (n:=32) ha hb)
theorem H2 {a b:Nat} (ha:a<4294967296) (hb:b<4294967296):lR .u32 (a:Int) (b:Int)=((a &&& b:Nat):Int):=by
 unfold lR
 rw[BitVec.toNat_and,ofInt32 ha,ofInt32 hb]
 exact wrap32 (Nat.and_lt_two_pow (n:=32) a hb)
theorem IW {a:Nat} (ha:a<4294967296):lR .u32 (a:Int) 1=((a%2:Nat):Int):=by
 rw[show (1:Int)=((1:Nat):Int) from rfl,H2 ha (by decide),Nat.and_one_is_mod]
def Bo (c:Nat):Nat:=if c%2=1 then (c/2) ^^^ 2197175160 else c/2
def itN:Nat→Nat→Nat
 |0,c=>c
 |k+1,c=>Bo (itN k c)
theorem DZ {c:Nat} (h:c<4294967296):Bo c<4294967296:=by
 unfold Bo
 split
 ·exact Nat.xor_lt_two_pow (n:=32) (by omega) (by decide)
 ·omega
theorem ve {c:Nat} (h:c<4294967296):∀k,itN k c<4294967296
 |0=>h
 |k+1=>DZ (ve h k)
def xe (c:Nat) (b:UInt8):Nat:=itN 8 (c ^^^ b.toNat)
theorem Bp {c:Nat} (h:c<4294967296) (b:UInt8):xe c b<4294967296:=by
 refine ve (Nat.xor_lt_two_pow (n:=32) h ?_) 8
 have:=b.toNat_lt
 omega
def goN (l:List UInt8):Nat:=l.foldl xe 4294967295
theorem tl:∀(l:List UInt8) (c:Nat),c<4294967296→l.foldl xe c<4294967296
 |[],c,h=>h
 |b::l,c,h=>tl l _ (Bp h b)
theorem vf (l:List UInt8):goN l<4294967296:=tl l _ (by decide)
theorem Bq (l:List UInt8) (b:UInt8):goN (l++[b])=xe (goN l) b:=by simp[goN,List.foldl_append]
def mr (l:List UInt8):Nat:=goN l ^^^ 4294967295
theorem xf (l:List UInt8):mr l<4294967296:=Nat.xor_lt_two_pow (n:=32) (vf l) (by decide)
theorem IX (c:Nat):(c:Int).fdiv (2^(min (Int.toNat 1) 32))=((c/2:Nat):Int):=by
 rw[show (min (Int.toNat 1) 32)=1 from rfl,show (2:Int)^1=2 from rfl,Int.fdiv_eq_ediv_of_nonneg _ (by decide)]
 rfl
theorem IY:IntKind.u32.wrap (0 - ((0:Nat):Int))=0:=by decide
theorem IZ:IntKind.u32.wrap (0 - ((1:Nat):Int))=4294967295:=by decide
theorem H3 {c:Nat} (h:c<4294967296):IntKind.i64.wrap (la .u32 (if IntKind.u32.signed=true then -1 else IntKind.u32.max) (c:Int))=((c ^^^ 4294967295:Nat):Int):=by
 rw[show (if IntKind.u32.signed=true then (-1:Int) else IntKind.u32.max)=((4294967295:Nat):Int) from rfl,xd (by decide) h,Nat.xor_comm]
 have:=Nat.xor_lt_two_pow (n:=32) h (show 4294967295<2^32 by decide)
 exact IntWalk.i64_in _ (by omega)
theorem kz {l:List UInt8} {j:Nat} (h:j<l.length) (d:UInt8):l.take (j+1)=l.take j++[l.getD j d]:=by
 rw[List.take_add_one,List.getD,List.getElem?_eq_getElem h];simp
theorem F8 (b:UInt8):IntKind.u32.wrap (b.toNat:Int)=(b.toNat:Int):=wrap32 (by have:=b.toNat_lt;omega)
theorem D0 (c:Nat) (h:c<4294967296):la .u32 ((c/2:Nat):Int) (lR .u32 2197175160 (IntKind.u32.wrap (0 - ((c%2:Nat):Int))))=((Bo c:Nat):Int):=by
 have h2:c/2<4294967296:=by omega
 unfold Bo
 rcases Nat.mod_two_eq_zero_or_one c with e|e
 ·rw[e,IY,show (lR .u32 2197175160 0)=((0:Nat):Int) by decide,xd h2 (by decide),if_neg (by decide),Nat.xor_zero]
 ·rw[e,IZ,show (lR .u32 2197175160 4294967295)=((2197175160:Nat):Int) by decide,xd h2 (by decide),if_pos rfl]
theorem Ft (l:List UInt8) (hl:l.length≤4611686018427387904):aE Tryz.prog 42 [.sl 1 (al l) .any] (.int .i64 (mr l:Nat)):=by
 refine f42.aD (by simp) (by
  have:az (al l)=true:=Av.bA (fun a=>rfl) l
  simp[az,aO,bC,this]) rfl ?_
 unfold c42
 simp only[C.zz]
 have hil:(al l).length=l.length:=by simp[al]
 refine rf0 hil ?_
 refine Wp.gN [6,7] xA6 (fun j:Nat=>[(3,.int .u32 (goN (l.take j):Nat)),(8,.int .i64 (j:Nat))]) (fun j=>j≤l.length) (fun j=>l.length - j) 0 (Nat.zero_le _) ?_ ?_
 ·exact xSb
 intro j hj
 by_cases hcj:j<l.length
 ·have d1:decide ((j:Int)<(l.length:Int))=true:=decide_eq_true (by omega)
  have h2:(0:Int)≤(j:Int):=Int.natCast_nonneg _
  have h3:(j:Int)<(l.length:Int):=by omega
  have e1:IntKind.i64.wrap ((j:Int)+1)=((j+1:Nat):Int):=by rw[IntWalk.i64_in _ (by omega)];omega
  have hat:∀d,(al l).getD j d=byte (l.getD j 0):=fun d=>gr l j d hcj
  have hsn:=kz hcj 0
  generalize hx:l.getD j 0=x at hat hsn
  have hlt:=vf (l.take j)
  have hx8:x.toNat<4294967296:=by have:=x.toNat_lt;omega
  have hxor:=xd hlt hx8
  have hc0:goN (l.take j) ^^^ x.toNat<4294967296:=Nat.xor_lt_two_pow (n:=32) hlt hx8
  have hwx:=F8 x
  refine rf0 (nT hil d1 h2 h3 @Int.toNat_natCast @and_self hat @byte.eq_1 hxor hwx) ?_
  refine Wp.gN [6,7,8] xA6 (fun k:Nat=>[(3,.int .u32 (itN k (goN (l.take j) ^^^ x.toNat):Nat)),(16,.int .i64 (k:Nat))]) (fun k=>k≤8) (fun k=>8 - k) 0 (Nat.zero_le _) ?_ ?_
  ·exact xSb
  intro k hk
  by_cases hk8:k<8
  ·have d2:decide ((k:Int)<8)=true:=decide_eq_true (by omega)
   have e2:IntKind.i64.wrap ((k:Int)+1)=((k+1:Nat):Int):=by rw[IntWalk.i64_in _ (by omega)];omega
   have hit:=ve hc0 k
   have hb:=D0 _ hit
   have ha:=IW hit
   have hs1:=IX (itN k (goN (l.take j) ^^^ x.toNat))
   refine rf0 (cj5 d2 e2 hs1 ha hb) ?_
   refine ⟨k+1,by omega,by omega,?_⟩
   exact xSu
  ·obtain rfl:k=8:=by omega
   refine rf0 e1 ?_
   refine ⟨j+1,by omega,by omega,?_⟩
   refine aF.tm (by simp only[av,go_sem,reduceIte,Nat.reduceEqDiff,Nat.reduceAdd,bx];and_intros<;>first|exact trivial|exact ag.refl _|exact ag.any _|exact ag.of_eq (by rw[hsn,Bq];rfl)|(refine ag.int ?_;omega))
 ·obtain rfl:j=l.length:=by omega
  have d1:decide ((l.length:Int)<(l.length:Int))=false:=decide_eq_false (by omega)
  refine rf0 d1 ?_
  refine aL ?_
  exact ag.of_eq (by rw[List.take_length,H3 (vf l)];rfl)
theorem Br (p:Addr) (w:World):
  CallsD Tryz.prog 104 #[.pointer (some p)] .returning w fun e u' w'=>e= .returned (.tuple #[])∧u'= .returning∧w'=w:=by
 refine callsD_of_wpS Tryz.func104 rfl fun c₀ cs hu=>?_
 apply wpS_seq
 apply wpS_region
 simp[wpOpsS,go_sem,recoverD,hu,Tryz.ntmps104,Exit.thenS]
 apply wpS_seq
 apply wpS_seq
 apply wpS_region
 simp[wpOpsS,go_sem,Array.replicate]
 refine wpS_cond (t:=true) (by simp[Act.eval]) ?_
 simp only[if_true]
 refine wpS_of_wp (wp_ret ?_)
 cases c₀
 simp_all [Exit.thenS,bodyPostS,results,Tryz.results104]
theorem Bt (k:Int) (w:World):(Instr.typeAssert (.iface 28 (.int .i64 k)) 20 28 true).run Tryz.prog w= .ok (.tuple #[.int .i64 k,.bool true]) w:=by kernel_rfl
theorem vi (p:Addr) (x:Int) (k:Int) (w:World) (hc:w.cell? p=some (.int .i64 x)) (hz:w.frozen? p=false):
  CallsD Tryz.prog 104 #[.pointer (some p)] (.panicking [{v:= .iface 28 (.int .i64 k),recovered:=false}]) w fun e u' w'=>
   e= .returned (.tuple #[])∧u'= .panicking [{v:= .iface 28 (.int .i64 k),recovered:=true}]∧w'=w.setCell p (.int .i64 k):=by
 refine callsD_of_wpS Tryz.func104 rfl fun c₀ cs hu=>?_
 apply wpS_seq
 apply wpS_region
 simp[wpOpsS,go_sem,recoverD,hu,Tryz.ntmps104,Exit.thenS]
 apply wpS_seq
 apply wpS_seq
 apply wpS_region
 simp[wpOpsS,go_sem,Array.replicate]
 refine wpS_cond (t:=false) (by simp[Act.eval]) ?_
 simp only[Bool.false_eq_true,if_false]
 refine wpS_of_wp (wp_skip ?_)
 simp only[Exit.thenS]
 apply wpS_seq
 apply wpS_region
 simp[wpOpsS,go_sem,Exit.thenS,Bt]
 apply wpS_seq
 apply wpS_seq
 apply wpS_region
 simp[wpOpsS,go_sem]
 refine wpS_cond (t:=false) (by simp[Act.eval]) ?_
 simp only[Bool.false_eq_true,if_false]
 refine wpS_of_wp (wp_skip ?_)
 simp only[Exit.thenS]
 apply wpS_region
 simp[wpOpsS,go_sem,hc,hz,bodyPostS,results,Tryz.results104]
theorem qI {G G2:aB} {w w1 w2:World} {h h':H} {x:Value} (k:Value) (R:aM G h w) (T1:Av.Trans G w h (mj G w.heap.size) w1 h) (R1:aM (mj G w.heap.size) h w1) (hs:w.heap.size<w1.heap.size) (n1:¬h.O (mj G w.heap.size) w.heap.size)
  (T2:Av.Trans (mj G w.heap.size) w1 h G2 w2 h') (R2:aM G2 h' w2) {T:TypeId} {fr:Nat × Nat} (hA:w2.heap[w.heap.size]? =some (.cells #[x] T fr)):
  Av.Trans G w h G2 (w2.setCell ⟨w.heap.size,0,none⟩ k) h'∧aM G2 h' (w2.setCell ⟨w.heap.size,0,none⟩ k):=by
 have ho:G2.own w.heap.size:=(T2.own_keep _ hs n1).2 (.inl rfl)
 have t:=yP (x:=k) hA ho
 exact ⟨(T1.trans R R1 T2).set t (Nat.le_refl _),R2.set t fun x=>n1 (T2.O_new _ hs x)⟩
theorem Bu {g:Nat} {fn:Func} {first caps:List AV} {h h':H} {r:AV} (hg:Tryz.prog.funcs[g]? =some fn) (hb:fn.body.isSome=true) (hn:fn.name≠ "runtime.NumGoroutine")
  (hc:aN Tryz.prog g (first++caps) h r h'):aN Tryz.prog 54 [.clo (.func g) first caps] h (.int .i64 0) h':=by
 intro G w vs hv R F
 simp only[an,ak] at hv
 obtain ⟨v,us,rfl,⟨fv,cv,rfl,h1,h2⟩,rfl⟩:=hv
 have hmf:∀(fn:Fn) (first cap:Array Value) (w:World),(Instr.makeFunc fn first cap).run Tryz.prog w= .ok (.func fn first cap) w:=fun _ _ _ _=>rfl
 go_enter_defers Tryz.func54,Tryz.ntmps54
 go_wp2
 rename_i Q' K1 k1 K2 k2
 rw[cZ _ hg hb hn]
 let o:Go.Obj:= .cells #[.int .i64 0] 28
 have hp:cz w (w.alloc o) o:=⟨rfl,rfl,rfl⟩
 obtain ⟨T1,R1,n1,n2⟩:=s7 R hp
 have F1:bH (mj G w.heap.size) h h':=F
 have hv1:an (mj G w.heap.size) (w.alloc o) (first++caps) (fv++cv):=(an.mono R T1 _ _ h1).append (an.mono R T1 _ _ h2)
 show Calls _ _ _ _ _
 refine (hc _ _ _ hv1 R1 F1).mono ?_
 rintro e w2 ⟨v2,G2,rfl,T2,R2,-⟩
 have hA:w2.heap[w.heap.size]? =some o:=(T2.keep _ (by rw[hp.size];omega) n1 n2).trans hp.new
 have hcell:w2.cell? {block:=w.heap.size,off:=0}=some (.int .i64 0):=by
  unfold World.cell?;simp only[hA,o];rfl
 have hfz:w2.frozen? {block:=w.heap.size,off:=0}=false:=by
  unfold World.frozen?;simp only[hA,o];rfl
 apply k2
 go_wp2
 obtain ⟨T3,R3⟩:=qI (.int .i64 0) R T1 R1 (by rw[hp.size];omega) n1 T2 R2 hA
 have hB:=wW (x:= .int .i64 0) hA
 refine leaves_cons (f:=104) (args:= #[.pointer (some ⟨w.heap.size,0,none⟩)]) (by simp) (by simp[go_sem]) ?_
 refine (Br ⟨w.heap.size,0,none⟩ _).mono ?_
 rintro e u' w'' ⟨rfl,rfl,rfl⟩
 generalize w2.setCell ⟨w.heap.size,0,none⟩ (.int .i64 0)=w3 at T3 R3 hB ⊢
 have hcell3:w3.cell? {block:=w.heap.size,off:=0}=some (.int .i64 0):=by
  unfold World.cell?;simp only[hB];rfl
 simp[Leaves,settle,results,Tryz.results54,go_sem,hcell3]
 exact ⟨G2,T3,R3,by simp[ak]⟩
theorem xg {g:Nat} {fn:Func} {first caps:List AV} {h h':H} {k:Int} (hg:Tryz.prog.funcs[g]? =some fn) (hb:fn.body.isSome=true) (hn:fn.name≠ "runtime.NumGoroutine")
  (hc:di Tryz.prog g (first++caps) h (.iface 28 (.int .i64 k)) h'):aN Tryz.prog 54 [.clo (.func g) first caps] h (.int .i64 k) h':=by
 intro G w vs hv R F
 simp only[an,ak] at hv
 obtain ⟨v,us,rfl,⟨fv,cv,rfl,h1,h2⟩,rfl⟩:=hv
 have hmf:∀(fn:Fn) (first cap:Array Value) (w:World),(Instr.makeFunc fn first cap).run Tryz.prog w= .ok (.func fn first cap) w:=fun _ _ _ _=>rfl
 go_enter_defers Tryz.func54,Tryz.ntmps54
 go_wp2
 rename_i Q' K1 k1 K2 k2
 rw[cZ _ hg hb hn]
 let o:Go.Obj:= .cells #[.int .i64 0] 28
 have hp:cz w (w.alloc o) o:=⟨rfl,rfl,rfl⟩
 obtain ⟨T1,R1,n1,n2⟩:=s7 R hp
 have F1:bH (mj G w.heap.size) h h':=F
 have hv1:an (mj G w.heap.size) (w.alloc o) (first++caps) (fv++cv):=(an.mono R T1 _ _ h1).append (an.mono R T1 _ _ h2)
 show Calls _ _ _ _ _
 refine (hc _ _ _ hv1 R1 F1).mono ?_
 rintro e w2 ⟨G2,rfl,T2,R2⟩
 have hA:w2.heap[w.heap.size]? =some o:=(T2.keep _ (by rw[hp.size];omega) n1 n2).trans hp.new
 have hcell:w2.cell? {block:=w.heap.size,off:=0}=some (.int .i64 0):=by
  unfold World.cell?;simp only[hA,o];rfl
 have hfz:w2.frozen? {block:=w.heap.size,off:=0}=false:=by
  unfold World.frozen?;simp only[hA,o];rfl
 obtain ⟨T3,R3⟩:=qI (.int .i64 k) R T1 R1 (by rw[hp.size];omega) n1 T2 R2 hA
 have hB:=wW (x:= .int .i64 k) hA
 show Leaves _ _ _ _ _ _ _
 refine leaves_cons (f:=104) (args:= #[.pointer (some ⟨w.heap.size,0,none⟩)]) (by simp) (by simp[go_sem]) ?_
 refine (vi ⟨w.heap.size,0,none⟩ 0 k _ hcell hfz).mono ?_
 rintro e u' w'' ⟨rfl,rfl,rfl⟩
 generalize w2.setCell ⟨w.heap.size,0,none⟩ (.int .i64 k)=w3 at T3 R3 hB ⊢
 have hcell3:w3.cell? {block:=w.heap.size,off:=0}=some (.int .i64 k):=by
  unfold World.cell?;simp only[hB];rfl
 simp[Leaves,settle,results,Tryz.results54,go_sem,hcell3]
 exact ⟨G2,T3,R3,by simp[ak]⟩
end Go.Proofs.YtjnoobmaedgooaaGreat.Arch
end
section
namespace Go.Fl
open Ieee
def fl (s:Bool) (n:Nat):Nat:=double.nearest s n 0
theorem cU {n:Nat} (h:0<n):2^n.log2≤n∧n<2^(n.log2+1):=
 ⟨Nat.log2_self_le (by omega),Nat.lt_log2_self⟩
theorem fS {n k:Nat} (h:0<n):(n*2^k).log2=n.log2+k:=by
 obtain ⟨h1,h2⟩:=cU h
 have hp:0<2^k:=Nat.two_pow_pos _
 have hm:n*2^k≠0:=Nat.ne_of_gt (Nat.mul_pos h hp)
 refine (Nat.log2_eq_iff hm).2 ⟨?_,?_⟩
 ·rw[Nat.pow_add];exact Nat.mul_le_mul_right _ h1
 ·rw[Nat.add_right_comm,Nat.pow_add]
  exact Nat.mul_lt_mul_of_lt_of_le h2 (Nat.le_refl _) hp
theorem bQ {n:Nat} (h:0<n) (h2:n<2^53):n.log2≤52:=by
 have:=(cU h).1
 rcases Nat.lt_or_ge n.log2 53 with h3|h3
 ·omega
 ·have:=Nat.pow_le_pow_right (n:=2) (by omega) h3
  omega
theorem mU (way:Toward) (neg:Bool) (n k:Nat):way.cut neg (n*2^k) k=n:=by
 have key:(1 <<< min k ((n*2^k).log2+2))=if n=0 then 2^min k 2 else 2^k:=by
  rw[Nat.shiftLeft_eq,Nat.one_mul]
  by_cases h:n=0
  ·subst h;simp
  ·rw[if_neg h,fS (by omega),Nat.min_eq_left (by omega)]
 unfold Toward.cut
 simp only[key]
 by_cases h:n=0
 ·subst h
  have hp:0<2^min k 2:=Nat.two_pow_pos _
  simp only[if_true,Nat.zero_mul,Nat.zero_div,Nat.zero_mod,Nat.mul_zero,Nat.zero_add]
  cases way<;>simp<;>omega
 ·have hp:0<2^k:=Nat.two_pow_pos _
  simp only[if_neg h,Nat.mul_div_cancel _ hp,Nat.mul_mod_left,Nat.mul_zero]
  cases way<;>simp<;>omega
theorem kT {n:Nat} (s:Bool) (h:0<n) (h2:n<2^53) (k:Nat):double.nearest s (n*2^k) (-(k:Int))=double.word s ((n.log2+1022)*2^52+n*2^(52 - n.log2)):=by
 have he:=bQ h h2
 obtain ⟨b1,b2⟩:=cU h
 have hp:0<2^k:=Nat.two_pow_pos _
 have hm:n*2^k≠0:=Nat.ne_of_gt (Nat.mul_pos h hp)
 have hl:=fS (k:=k) h
 have hlast:max (-(k:Int)+((n*2^k).log2:Nat) - (double.fractionBits:Int)) double.leastPlace=(n.log2:Int) - 52:=by
  have e1:double.leastPlace= -1074:=by decide
  have e2:double.fractionBits=52:=rfl
  rw[hl,e1,e2]
  omega
 have hcut:Toward.even.cut s ((n*2^k) <<< (-(k:Int) - ((n.log2:Int) - 52)).toNat) (((n.log2:Int) - 52) - -(k:Int)).toNat=n*2^(52 - n.log2):=by
  rcases Nat.lt_or_ge (n.log2+k) 52 with h3|h3
  ·have e1:(-(k:Int) - ((n.log2:Int) - 52)).toNat=52 - n.log2 - k:=by omega
   have e2:(((n.log2:Int) - 52) - -(k:Int)).toNat=0:=by omega
   rw[e1,e2,Nat.shiftLeft_eq,Nat.mul_assoc,←Nat.pow_add,show k+(52 - n.log2 - k)=52 - n.log2 by omega]
   have:=mU .even s (n*2^(52 - n.log2)) 0
   simpa using this
  ·have e1:(-(k:Int) - ((n.log2:Int) - 52)).toNat=0:=by omega
   have e2:(((n.log2:Int) - 52) - -(k:Int)).toNat=n.log2+k - 52:=by omega
   rw[e1,e2,Nat.shiftLeft_eq,Nat.pow_zero,Nat.mul_one]
   have:=mU .even s (n*2^(52 - n.log2)) (n.log2+k - 52)
   rw[Nat.mul_assoc,←Nat.pow_add,show 52 - n.log2+(n.log2+k - 52)=k by omega] at this
   exact this
 have hb:n*2^(52 - n.log2)<2^53:=by
  calc n*2^(52 - n.log2)<2^(n.log2+1)*2^(52 - n.log2):=Nat.mul_lt_mul_of_lt_of_le b2 (Nat.le_refl _) (Nat.two_pow_pos _)
   _=2^53:=by rw[←Nat.pow_add,show n.log2+1+(52 - n.log2)=53 by omega]
 unfold Format.nearest
 rw[if_neg hm]
 dsimp only
 rw[hlast,hcut]
 have e1:(((n.log2:Int) - 52) - double.leastPlace).toNat=n.log2+1022:=by
  rw[show double.leastPlace= -1074 by decide];omega
 rw[e1,show double.binade=2^52 from rfl]
 rw[Nat.min_eq_left]
 rw[show double.infRung=2047*2^52 by decide]
 omega
theorem eC {n:Nat} (s:Bool) (h:0<n) (h2:n<2^53):fl s n=double.word s ((n.log2+1022)*2^52+n*2^(52 - n.log2)):=by
 have:=kT s h h2 0
 simpa [fl] using this
theorem tp {n:Nat} (s:Bool) (h2:n<2^53) (k:Nat):double.nearest s (n*2^k) (-(k:Int))=fl s n:=by
 rcases Nat.eq_zero_or_pos n with h|h
 ·subst h;simp[fl,Format.nearest]
 ·rw[kT s h h2,eC s h h2]
theorem vj {n:Nat} (h:0<n) (h2:n<2^53):2^52≤n*2^(52 - n.log2)∧n*2^(52 - n.log2)<2^53:=by
 have he:=bQ h h2
 obtain ⟨b1,b2⟩:=cU h
 constructor
 ·calc 2^52=2^n.log2*2^(52 - n.log2):=by rw[←Nat.pow_add,show n.log2+(52 - n.log2)=52 by omega]
   _≤_:=Nat.mul_le_mul_right _ b1
 ·calc n*2^(52 - n.log2)<2^(n.log2+1)*2^(52 - n.log2):=Nat.mul_lt_mul_of_lt_of_le b2 (Nat.le_refl _) (Nat.two_pow_pos _)
   _=2^53:=by rw[←Nat.pow_add,show n.log2+1+(52 - n.log2)=53 by omega]
theorem kB {r:Nat} (s:Bool) (hr:r<double.signWeight):double.read (double.word s r)=(if r<double.binade then .number s r double.leastPlace
 else if r<double.infRung then .number s (double.binade+r%double.binade) (double.leastPlace+(r/double.binade - 1:Nat))
 else if r=double.infRung then .infinity s else .nan s (r - double.infRung)):=by
 have hw:double.signWeight=2^63:=rfl
 have e1:double.word s r/double.signWeight%2=if s then 1 else 0:=by
  unfold Format.word
  rw[hw] at hr ⊢
  cases s
  ·simp only[Bool.false_eq_true,if_false];omega
  ·simp only[if_true];omega
 have e2:double.word s r%double.signWeight=r:=by
  unfold Format.word
  rw[hw] at hr ⊢
  cases s
  ·simp only[Bool.false_eq_true,if_false];omega
  ·simp only[if_true];omega
 unfold Format.read
 simp only[e1,e2]
 cases s<;>simp
theorem jO {e m:Nat} (s:Bool) (he:e<2046) (h1:2^52≤m) (h2:m<2^53):double.read (double.word s (e*2^52+m))= .number s m ((e:Int) - 1074):=by
 have hr:e*2^52+m<double.infRung:=by
  rw[show double.infRung=2047*2^52 by decide];omega
 rw[kB s (Nat.lt_trans hr (Format.infRung_lt _))]
 have hb:double.binade=2^52:=rfl
 rw[if_neg (by rw[hb];omega),if_pos hr,hb]
 have e1:(e*2^52+m)%2^52=m - 2^52:=by omega
 have e2:(e*2^52+m)/2^52=e+1:=by omega
 rw[e1,e2,show double.leastPlace= -1074 by decide]
 have e3:2^52+(m - 2^52)=m:=by omega
 have e4:(-1074:Int)+((e+1 - 1:Nat):Int)=(e:Int) - 1074:=by omega
 rw[e3,e4]
theorem gQ {n:Nat} (s:Bool) (h2:n<2^53):∃k:Nat,double.read (fl s n)= .number s (n*2^k) (-(k:Int)):=by
 rcases Nat.eq_zero_or_pos n with h|h
 ·subst h
  obtain ⟨k,hk⟩:∃k:Nat,k=1074:=⟨_,rfl⟩
  refine ⟨k,?_⟩
  have:fl s 0=double.word s 0:=by simp[fl,Format.nearest]
  rw[this,kB s (by decide),if_pos (by decide)]
  rw[show double.leastPlace= -1074 by decide,Nat.zero_mul,hk];rfl
 ·have he:=bQ h h2
  obtain ⟨m1,m2⟩:=vj h h2
  refine ⟨52 - n.log2,?_⟩
  rw[eC s h h2,jO s (by omega) m1 m2]
  have e4:((n.log2+1022:Nat):Int) - 1074= -((52 - n.log2:Nat):Int):=by omega
  rw[e4]
def sg (s:Bool) (n:Nat):Int:=if s then -(n:Int) else n
theorem kC (s:Bool) (n k K:Nat) (h:k≤K):signed s (n*2^k) (-(k:Int) - -(K:Int)).toNat=sg s n*2^K:=by
 have e:(-(k:Int) - -(K:Int)).toNat=K - k:=by omega
 have e2:(n*2^k) <<< (K - k)=n*2^K:=by
  rw[Nat.shiftLeft_eq,Nat.mul_assoc,←Nat.pow_add,show k+(K - k)=K by omega]
 unfold signed sg
 rw[e,e2]
 cases s<;>simp[Int.neg_mul]
def jj (s t:Bool) (T:Int):Bool:=if T=0 then s&&t else decide (T<0)
theorem tq (K:Nat):(0:Int)<2^K:=by
 have:(0:Nat)<2^K:=Nat.two_pow_pos _
 exact_mod_cast this
theorem Bv {m n:Nat} (s t:Bool) (hm:m<2^53) (hn:n<2^53) (hT:(sg s m+sg t n).natAbs<2^53):
  ((double.read (fl s m)).sum (double.read (fl t n))).map double.write=some (fl (jj s t (sg s m+sg t n)) (sg s m+sg t n).natAbs):=by
 obtain ⟨k1,e1⟩:=gQ s hm
 obtain ⟨k2,e2⟩:=gQ t hn
 rw[e1,e2]
 have hbase:min (-(k1:Int)) (-(k2:Int))= -((max k1 k2:Nat):Int):=by omega
 simp only[Datum.sum,hbase,kC s m k1 (max k1 k2) (by omega),kC t n k2 (max k1 k2) (by omega),←Int.add_mul]
 generalize max k1 k2=K
 generalize hTd:sg s m+sg t n=T at hT
 have hp:=tq K
 have h0:T*2^K=0↔T=0:=by
  constructor
  ·intro h
   rcases Int.mul_eq_zero.1 h with h|h
   ·exact h
   ·omega
  ·intro h;rw[h];simp
 have hneg:T*2^K<0↔T<0:=by
  constructor
  ·intro h
   by_cases h1:T<0
   ·exact h1
   ·have:=Int.mul_nonneg (show 0≤T by omega) (Int.le_of_lt hp);omega
  ·intro h;exact Int.mul_neg_of_neg_of_pos h hp
 have habs:(T*2^K).natAbs=T.natAbs*2^K:=by rw[Int.natAbs_mul];congr 1
 simp only[Option.map_some,Format.write,habs,Option.some.injEq,h0,hneg]
 rw[←tp _ hT K]
 rfl
theorem F9 {m n:Nat} (s t:Bool) (hm:m<2^53) (hn:n<2^53) (hT:(sg s m+sg t n).natAbs<2^53):double.add (fl s m) (fl t n)=some (fl (jj s t (sg s m+sg t n)) (sg s m+sg t n).natAbs):=
 Bv s t hm hn hT
theorem Ga {n:Nat} (s:Bool) (h:n<2^53):(double.read (fl s n)).opposite=double.read (fl (!s) n):=by
 rcases Nat.eq_zero_or_pos n with h0|h0
 ·subst h0
  have:∀s,fl s 0=double.word s 0:=fun s=>by simp[fl,Format.nearest]
  rw[this,this,kB s (by decide),kB (!s) (by decide),if_pos (by decide),if_pos (by decide)]
  rfl
 ·have he:=bQ h0 h
  obtain ⟨m1,m2⟩:=vj h0 h
  rw[eC s h0 h,eC (!s) h0 h,jO s (by omega) m1 m2,jO (!s) (by omega) m1 m2]
  rfl
theorem Gb (s:Bool) (n:Nat):sg (!s) n= - sg s n:=by cases s<;>simp[sg]
theorem Gc {m n:Nat} (s t:Bool) (hm:m<2^53) (hn:n<2^53) (hT:(sg s m - sg t n).natAbs<2^53):double.sub (fl s m) (fl t n)=some (fl (jj s (!t) (sg s m - sg t n)) (sg s m - sg t n).natAbs):=by
 unfold Format.sub
 rw[Ga t hn]
 have e:sg s m+sg (!t) n=sg s m - sg t n:=by rw[Gb];omega
 have:=Bv s (!t) hm hn (by rw[e];exact hT)
 rw[e] at this
 exact this
theorem Gd {m n:Nat} (s t:Bool) (hm:m<2^53) (hn:n<2^53) (hT:m*n<2^53):double.mul (fl s m) (fl t n)=some (fl (s ^^ t) (m*n)):=by
 obtain ⟨k1,e1⟩:=gQ s hm
 obtain ⟨k2,e2⟩:=gQ t hn
 unfold Format.mul
 rw[e1,e2]
 simp only[Datum.product,Option.map_some,Format.write,Option.some.injEq]
 have e3:m*2^k1*(n*2^k2)=m*n*2^(k1+k2):=by rw[Nat.pow_add];ac_rfl
 have e4: -(k1:Int)+ -(k2:Int)= -((k1+k2:Nat):Int):=by omega
 rw[e3,e4]
 exact tp _ hT _
theorem Bw {m n:Nat} (s t:Bool) (hm:m<2^53) (hn:n<2^53):double.order (fl s m) (fl t n)=some (compare (sg s m) (sg t n)):=by
 obtain ⟨k1,e1⟩:=gQ s hm
 obtain ⟨k2,e2⟩:=gQ t hn
 unfold Format.order
 rw[e1,e2]
 have hbase:min (-(k1:Int)) (-(k2:Int))= -((max k1 k2:Nat):Int):=by omega
 simp only[Datum.order,hbase,kC s m k1 (max k1 k2) (by omega),kC t n k2 (max k1 k2) (by omega),Option.some.injEq]
 have hp:=tq (max k1 k2)
 generalize max k1 k2=K at hp
 generalize sg s m=x
 generalize sg t n=y
 rcases Int.lt_trichotomy x y with h|h|h
 ·have h2:x*2^K<y*2^K:=Int.mul_lt_mul_of_pos_right h hp
  simp only[compare,compareOfLessAndEq,if_pos h,if_pos h2]
 ·subst h;simp[compare,compareOfLessAndEq]
 ·have h2:y*2^K<x*2^K:=Int.mul_lt_mul_of_pos_right h hp
  simp only[compare,compareOfLessAndEq,if_neg (show ¬x<y by omega),if_neg (show ¬x=y by omega),if_neg (show ¬x*2^K<y*2^K by omega),if_neg (show ¬x*2^K=y*2^K by omega)]
theorem Bx {n:Nat} (s:Bool) (h:n<2^53):(double.read (fl s n)).toInt .zero=some (sg s n):=by
 obtain ⟨k,e⟩:=gQ s h
 rw[e]
 have e1:(-(k:Int)).toNat=0:=by omega
 have e2:(- -(k:Int)).toNat=k:=by omega
 simp only[Datum.toInt,Datum.integral,e1,e2,Nat.shiftLeft_zero,mU,signed,sg]
theorem qJ {i a b x y:Nat} (ha:a<2^i) (hb:b<2^i):(2^i*x+a) &&& (2^i*y+b)=2^i*(x &&& y)+(a &&& b):=by
 refine Nat.eq_of_testBit_eq fun j=>?_
 have hab:a &&& b<2^i:=Nat.lt_of_le_of_lt Nat.and_le_left ha
 rw[Nat.testBit_and,Nat.testBit_two_pow_mul_add _ ha,Nat.testBit_two_pow_mul_add _ hb,Nat.testBit_two_pow_mul_add _ hab]
 split<;>simp[Nat.testBit_and]
theorem By {i a b x y:Nat} (ha:a<2^i) (hb:b<2^i):(2^i*x+a) ||| (2^i*y+b)=2^i*(x ||| y)+(a ||| b):=by
 refine Nat.eq_of_testBit_eq fun j=>?_
 have hab:a ||| b<2^i:=Nat.or_lt_two_pow ha hb
 rw[Nat.testBit_or,Nat.testBit_two_pow_mul_add _ ha,Nat.testBit_two_pow_mul_add _ hb,Nat.testBit_two_pow_mul_add _ hab]
 split<;>simp[Nat.testBit_or]
theorem yZ {f lo:Nat} (hf:f<2^11) (hl:lo<2^52):(2^52*f+lo) &&& 9227875636482146303=lo:=by
 have e:9227875636482146303=2^63*1+(2^52*0+(2^52 - 1)):=by decide
 have h1:2^52*f+lo<2^63:=by omega
 have h0:2^52*f+lo=2^63*0+(2^52*f+lo):=by omega
 rw[e,h0,qJ h1 (by decide),qJ hl (by decide),Nat.and_two_pow_sub_one_eq_mod,Nat.mod_eq_of_lt hl]
 simp
theorem xh {k lo:Nat} (hl:lo<2^52):lo ||| (2^52*k)=2^52*k+lo:=by
 have h0:lo=2^52*0+lo:=by omega
 have h1:2^52*k=2^52*k+0:=by omega
 rw[h0,h1,By hl (by decide)]
 simp
theorem vk {r:Nat} (h:r<2^63) (s:Bool):(double.word s r) &&& 9223372036854775807=r:=by
 have e:9223372036854775807=2^63 - 1:=by decide
 rw[e,Nat.and_two_pow_sub_one_eq_mod]
 unfold Format.word
 have hw:double.signWeight=2^63:=rfl
 rw[hw]
 cases s
 ·simp only[Bool.false_eq_true,if_false];omega
 ·simp only[if_true];omega
def ex (n:Nat):Nat:=n.log2+1023
def lo (n:Nat):Nat:=n*2^(52 - n.log2) - 2^52
theorem Fu {n:Nat} (h:0<n) (h2:n<2^53):ex n<2^11:=by
 have:=bQ h h2;unfold ex;omega
theorem Fv {n:Nat} (h:0<n) (h2:n<2^53):lo n<2^52:=by
 have:=vj h h2;unfold lo;omega
theorem Bz {n:Nat} (h:0<n) (h2:n<2^53):fl false n=2^52*ex n+lo n:=by
 have:=vj h h2
 rw[eC false h h2]
 unfold ex lo Format.word
 simp only[Bool.false_eq_true,if_false]
 omega
theorem xi (s:Bool):fl s 0=double.word s 0:=by simp[fl,Format.nearest]
theorem rY {n:Nat} (s:Bool) (h2:n<2^53):∃r,r<2047*2^52∧∀s,fl s n=double.word s r:=by
 rcases Nat.eq_zero_or_pos n with h|h
 ·subst h;exact ⟨0,by decide,fun s=>xi s⟩
 ·have he:=bQ h h2
  have:=vj h h2
  refine ⟨_,?_,fun s=>eC s h h2⟩
  omega
theorem Ge {n:Nat} (s:Bool) (h2:n<2^53):fl s n &&& 9223372036854775807=fl false n:=by
 obtain ⟨r,hr,e⟩:=rY s h2
 rw[e,e,vk (by omega)]
 rfl
theorem H4 {n:Nat} (s:Bool) (h2:n<2^53):fl s n<2^64:=by
 obtain ⟨r,hr,e⟩:=rY s h2
 have hw:double.signWeight=2^63:=rfl
 rw[e]
 unfold Format.word
 rw[hw]
 split<;>omega
def fr (n:Nat):Nat:=2^52*1022+lo n
theorem xj {n:Nat} (h:0<n) (h2:n<2^53):double.read (fr n)= .number false (n*2^(52 - n.log2)) (-53):=by
 obtain ⟨m1,m2⟩:=vj h h2
 have e:fr n=double.word false (1021*2^52+n*2^(52 - n.log2)):=by
  unfold fr lo Format.word
  simp only[Bool.false_eq_true,if_false]
  omega
 rw[e,jO false (by omega) m1 m2]
 rfl
theorem BA {m n:Nat} (hm:0<m) (hm2:m<2^53) (hn:0<n) (hn2:n<2^53):double.order (fr m) (fr n)=some (compare (m*2^(52 - m.log2)) (n*2^(52 - n.log2))):=by
 unfold Format.order
 rw[xj hm hm2,xj hn hn2]
 have e:(-53 - min (-53:Int) (-53)).toNat=0:=by decide
 simp only[Datum.order,e,signed,Bool.false_eq_true,if_false,Nat.shiftLeft_zero,Option.some.injEq]
 simp only[compare,compareOfLessAndEq]
 generalize m*2^(52 - m.log2)=x
 generalize n*2^(52 - n.log2)=y
 by_cases h1:x<y
 ·rw[if_pos h1,if_pos (by omega)]
 ·rw[if_neg h1,if_neg (show ¬(x:Int)<(y:Int) by omega)]
  by_cases h2:x=y
  ·rw[if_pos h2,if_pos (by omega)]
  ·rw[if_neg h2,if_neg (by omega)]
theorem qK {m n:Nat} (h:0<m) (hmn:m≤n):m.log2≤n.log2:=by
 have h1:=(cU h).1
 have h2:=(cU (Nat.lt_of_lt_of_le h hmn)).2
 rcases Nat.lt_or_ge n.log2 m.log2 with h3|h3
 ·have:=Nat.pow_le_pow_right (n:=2) (by omega) (show n.log2+1≤m.log2 by omega)
  omega
 ·exact h3
def lift (p r:Nat):Nat:=r.log2 - p.log2 - (if r*2^(52 - r.log2)<p*2^(52 - p.log2) then 1 else 0)
theorem pf {p r:Nat} (hp:0<p) (hr:p≤r) (h2:r<2^53):((lift p r:Nat):Int)=(r.log2:Int) - (p.log2:Int) - (if r*2^(52 - r.log2)<p*2^(52 - p.log2) then 1 else 0):=by
 have hl:=qK hp hr
 unfold lift
 split
 ·rename_i h
  have:p.log2≠r.log2:=by
   intro e
   rw[e] at h
   have:=Nat.lt_of_mul_lt_mul_right h
   omega
  omega
 ·omega
theorem xk {p r:Nat} (hp:0<p) (hr:p≤r) (h2:r<2^53):p*2^lift p r≤r:=by
 have hl:=qK hp hr
 have hr0:0<r:=by omega
 have h52:=bQ hr0 h2
 obtain ⟨a1,a2⟩:=cU hp
 obtain ⟨b1,b2⟩:=cU hr0
 have hi:=pf hp hr h2
 by_cases h:r*2^(52 - r.log2)<p*2^(52 - p.log2)
 ·rw[if_pos h] at hi
  have e:p.log2+1+lift p r=r.log2:=by omega
  calc p*2^lift p r≤2^(p.log2+1)*2^lift p r:=Nat.mul_le_mul_right _ (by omega)
   _=2^r.log2:=by rw[←Nat.pow_add,e]
   _≤r:=b1
 ·rw[if_neg h] at hi
  have e:r.log2=p.log2+lift p r:=by omega
  have h3:p*2^(52 - p.log2)≤r*2^(52 - r.log2):=by omega
  have e2:52 - p.log2=lift p r+(52 - r.log2):=by omega
  rw[e2,Nat.pow_add,←Nat.mul_assoc] at h3
  exact Nat.le_of_mul_le_mul_right h3 (Nat.two_pow_pos _)
theorem D1 {p d:Nat} (hp:0<p) (h2:p*2^d<2^53):fl false (p*2^d)=2^52*(ex p+d)+lo p:=by
 have hp2:p<2^53:=Nat.lt_of_le_of_lt (Nat.le_mul_of_pos_right _ (Nat.two_pow_pos _)) h2
 have h0:0<p*2^d:=Nat.mul_pos hp (Nat.two_pow_pos _)
 rw[Bz h0 h2]
 have hl:=fS (k:=d) hp
 have h52:=bQ h0 h2
 have e1:ex (p*2^d)=ex p+d:=by unfold ex;omega
 have e2:lo (p*2^d)=lo p:=by
  unfold lo
  rw[hl,Nat.mul_assoc,←Nat.pow_add,show d+(52 - (p.log2+d))=52 - p.log2 by omega]
 rw[e1,e2]
theorem kD {p r d:Nat} (h:p*2^d≤r):(r - p*2^d)%p=r%p:=by
 have:r=(r - p*2^d)+p*2^d:=by omega
 conv=>rhs;rw[this]
 rw[Nat.add_mul_mod_self_left]
end Go.Fl
end
section
namespace Go.Fl
open Ieee Go.Av
abbrev F (s:Bool) (n:Nat):AV:= .sc (.float .f64 (fl s n))
theorem H5:fl false 0=0:=by rw[xi];rfl
theorem wrap_u64 (n:Nat) (h:n<2^64):IntKind.u64.wrap (n:Int)=(n:Int):=by
 exact IntWalk.u64_in _ ⟨by omega,by omega⟩
theorem mV (a:Nat) (h:a<2^64):(BitVec.ofInt 64 (a:Int)).toNat=a:=by
 rw[BitVec.ofInt_natCast,BitVec.toNat_ofNat,Nat.mod_eq_of_lt h]
theorem H6 (a b:Nat) (ha:a<2^64) (hb:b<2^64):IntKind.u64.wrap ((BitVec.ofInt 64 (a:Int) &&& BitVec.ofInt 64 (b:Int)).toNat:Int)=((a &&& b:Nat):Int):=by
 rw[BitVec.toNat_and,mV a ha,mV b hb]
 exact wrap_u64 _ (Nat.lt_of_le_of_lt Nat.and_le_left ha)
theorem H7 (a b:Nat) (ha:a<2^64) (hb:b<2^64):IntKind.u64.wrap ((BitVec.ofInt 64 (a:Int) ||| BitVec.ofInt 64 (b:Int)).toNat:Int)=((a ||| b:Nat):Int):=by
 rw[BitVec.toNat_or,mV a ha,mV b hb]
 exact wrap_u64 _ (Nat.or_lt_two_pow ha hb)
theorem Fw (a b c:Nat) (ha:a<2^64) (hc:(~~~(BitVec.ofInt 64 (b:Int))).toNat=c):IntKind.u64.wrap ((BitVec.ofInt 64 (a:Int) &&& ~~~(BitVec.ofInt 64 (b:Int))).toNat:Int)=((a &&& c:Nat):Int):=by
 rw[BitVec.toNat_and,mV a ha,hc]
 exact wrap_u64 _ (Nat.lt_of_le_of_lt Nat.and_le_left ha)
theorem H8 {n:Nat} (s:Bool) (h:n<2^53):IntKind.u64.wrap ((BitVec.ofInt 64 (fl s n:Int) &&& ~~~(BitVec.ofInt 64 9223372036854775808)).toNat:Int)=(fl false n:Int):=by
 have:=Fw (fl s n) 9223372036854775808 9223372036854775807 (H4 s h) (by decide)
 rw[Ge s h] at this
 exact this
theorem D2 {f l:Nat} (hf:f<2^11) (hl:l<2^52):IntKind.u64.wrap ((BitVec.ofInt 64 ((2^52*f+l:Nat):Int) &&& ~~~(BitVec.ofInt 64 9218868437227405312)).toNat:Int)=(l:Int):=by
 have:=Fw (2^52*f+l) 9218868437227405312 9227875636482146303 (by omega) (by decide)
 rw[yZ hf hl] at this
 exact this
theorem H9 {n:Nat} (s:Bool) (h:n<2^53):Dt .u64 (fl s n:Int) 9223372036854775808=(fl false n:Int):=H8 s h
theorem xl {f l:Nat} (hf:f<2^11) (hl:l<2^52):Dt .u64 ((2^52*f+l:Nat):Int) 9218868437227405312=(l:Int):=D2 hf hl
theorem Ia {f:Nat} (hf:f<2^11):lR .u64 (f:Int) 2047=(f:Int):=by
 have:=H6 f 2047 (by omega) (by decide)
 have e3:f &&& 2047=f:=by
  have e:(2047:Nat)=2^11 - 1:=by decide
  rw[e,Nat.and_two_pow_sub_one_eq_mod,Nat.mod_eq_of_lt hf]
 rw[e3] at this
 exact this
theorem Gf {l:Nat} (hl:l<2^52):orI .u64 (l:Int) 4602678819172646912=((2^52*1022+l:Nat):Int):=by
 have:=H7 l 4602678819172646912 (by omega) (by decide)
 have e:(4602678819172646912:Nat)=2^52*1022:=by decide
 rw[e,xh hl] at this
 exact this
abbrev ord (a b:Nat):Option Ordering:=FloatKind.f64.format.order a b
theorem rZ {m n:Nat} (s t:Bool) (hm:m<2^53) (hn:n<2^53):FloatKind.f64.format.order (fl s m) (fl t n)=some (compare (sg s m) (sg t n)):=Bw s t hm hn
theorem BB {n:Nat} (s:Bool) (h:n<2^53):FloatKind.f64.format.order (fl s n) (fl s n)=some .eq:=by
 rw[rZ s s h h];simp[compare,compareOfLessAndEq]
theorem iI {n:Nat} (s:Bool) (h:n<2^53):FloatKind.f64.format.order (fl s n) 0=some (compare (sg s n) 0):=by
 have:=rZ s false h (show 0<2^53 by decide)
 rw[H5] at this
 simpa [sg] using this
theorem cg (n:Nat):sg false n=(n:Int):=rfl
theorem om (n:Nat):sg true n= -(n:Int):=rfl
theorem D3 {n:Nat} (h:n<2^53):FloatKind.f64.format.order (fl false n) 9218868437227405311=some .lt:=by
 obtain ⟨k,e⟩:=gQ false h
 have e2:double.read 9218868437227405311= .number false 9007199254740991 971:=by decide
 change ((double.read (fl false n)).order (double.read 9218868437227405311))=_
 rw[e,e2]
 have hb:min (-(k:Int)) 971= -(k:Int):=by omega
 have e3:(-(k:Int) - -(k:Int)).toNat=0:=by omega
 have e4:((971:Int) - -(k:Int)).toNat=971+k:=by omega
 simp only[Datum.order,hb,e3,e4,signed,Bool.false_eq_true,if_false,Nat.shiftLeft_zero,Option.some.injEq,Nat.shiftLeft_eq,Nat.pow_zero,Nat.mul_one]
 have hlt:n*2^k<9007199254740991*2^(971+k):=by
  calc n*2^k<2^53*2^k:=Nat.mul_lt_mul_of_lt_of_le h (Nat.le_refl _) (Nat.two_pow_pos _)
   _≤9007199254740991*(2*2^k):=by generalize 2^k=z;omega
   _≤9007199254740991*2^(971+k):=Nat.mul_le_mul_left _ (by rw[←Nat.pow_succ'];exact Nat.pow_le_pow_right (by omega) (by omega))
 have:(compare ((n*2^k:Nat):Int) ((9007199254740991*2^(971+k):Nat):Int))= .lt:=by
  generalize n*2^k=x at hlt
  generalize 9007199254740991*2^(971+k)=y at hlt
  simp only[compare,compareOfLessAndEq,if_pos (show (x:Int)<(y:Int) by omega)]
 exact this
theorem y7 {n:Nat} (h0:0<n) (h:n<2^53):FloatKind.f64.format.order (fl false n) 4503599627370496=some .gt:=by
 have he:=bQ h0 h
 obtain ⟨m1,m2⟩:=vj h0 h
 have e:double.read (fl false n)= .number false (n*2^(52 - n.log2)) ((n.log2:Int) - 52):=by
  rw[eC false h0 h,jO false (by omega) m1 m2]
  have:((n.log2+1022:Nat):Int) - 1074=(n.log2:Int) - 52:=by omega
  rw[this]
 have e2:double.read 4503599627370496= .number false 4503599627370496 (-1074):=by decide
 change ((double.read (fl false n)).order (double.read 4503599627370496))=_
 rw[e,e2]
 have hb:min ((n.log2:Int) - 52) (-1074)= -1074:=by omega
 have e3:((n.log2:Int) - 52 - -1074).toNat=n.log2+1022:=by omega
 have e4:((-1074:Int) - -1074).toNat=0:=by decide
 simp only[Datum.order,hb,e3,e4,signed,Bool.false_eq_true,if_false,Nat.shiftLeft_zero,Option.some.injEq,Nat.shiftLeft_eq]
 generalize hm:n*2^(52 - n.log2)=m at m1 m2
 have hlt:4503599627370496<m*2^(n.log2+1022):=by
  calc 4503599627370496<2^52*2:=by decide
   _≤m*2^(n.log2+1022):=Nat.mul_le_mul m1 (by
     calc 2=2^1:=rfl
      _≤_:=Nat.pow_le_pow_right (by omega) (by omega))
 generalize m*2^(n.log2+1022)=x at hlt
 have h1:¬((x:Int)<((4503599627370496:Nat):Int)):=by omega
 have h2:¬((x:Int)=((4503599627370496:Nat):Int)):=by omega
 simp only[compare,compareOfLessAndEq,if_neg h1,if_neg h2]
theorem BC {m n:Nat} (hm:0<m) (hm2:m<2^53) (hn:0<n) (hn2:n<2^53):FloatKind.f64.format.order (fr m) (fr n)=some (compare (m*2^(52 - m.log2)) (n*2^(52 - n.log2))):=BA hm hm2 hn hn2
theorem pg {m n:Nat} (s t:Bool) (hm:m<2^53) (hn:n<2^53) (hT:(sg s m+sg t n).natAbs<2^53):floatBits .add .f64 (fl s m) (fl t n)=some (fl (jj s t (sg s m+sg t n)) (sg s m+sg t n).natAbs):=F9 s t hm hn hT
theorem BD {m n:Nat} (s t:Bool) (hm:m<2^53) (hn:n<2^53) (hT:(sg s m - sg t n).natAbs<2^53):floatBits .sub .f64 (fl s m) (fl t n)=some (fl (jj s (!t) (sg s m - sg t n)) (sg s m - sg t n).natAbs):=Gc s t hm hn hT
theorem ph {m n:Nat} (s t:Bool) (hm:m<2^53) (hn:n<2^53) (hT:m*n<2^53):floatBits .mul .f64 (fl s m) (fl t n)=some (fl (s ^^ t) (m*n)):=Gd s t hm hn hT
theorem vn {m n:Nat} (hn:n≤m) (hm:m<2^53):floatBits .sub .f64 (fl false m) (fl false n)=some (fl false (m - n)):=by
 have e:sg false m - sg false n=((m - n:Nat):Int):=by simp only[cg];omega
 have:=BD (m:=m) (n:=n) false false hm (by omega) (by rw[e];simp;omega)
 rw[e] at this
 rw[this,Int.natAbs_natCast]
 have:jj false (!false) ((m - n:Nat):Int)=false:=by
  unfold jj
  split
  ·rfl
  ·simp
 rw[this]
theorem y8 {i a b x y:Nat} (ha:a<2^i) (hb:b<2^i):(2^i*x+a) ^^^ (2^i*y+b)=2^i*(x ^^^ y)+(a ^^^ b):=by
 refine Nat.eq_of_testBit_eq fun j=>?_
 have hab:a ^^^ b<2^i:=Nat.xor_lt_two_pow ha hb
 rw[Nat.testBit_xor,Nat.testBit_two_pow_mul_add _ ha,Nat.testBit_two_pow_mul_add _ hb,Nat.testBit_two_pow_mul_add _ hab]
 split<;>simp[Nat.testBit_xor]
theorem BE {n:Nat} (s:Bool) (h:n<2^53):Op.negFloat .f64 (fl s n)=fl (!s) n:=by
 obtain ⟨r,hr,e⟩:=rY s h
 rw[e,e]
 have hw:double.signWeight=2^63:=rfl
 have hr':r<2^63:=by omega
 have key:∀x:Nat,(2^63*x+r) ^^^ (2^63*1+0)=2^63*(x ^^^ 1)+r:=fun x=>by
  rw[y8 hr' (by decide)];simp
 change (double.word s r) ^^^ 2^63=double.word (!s) r
 unfold Format.word
 rw[hw]
 cases s
 ·have:=key 0
  simp only[Nat.mul_zero,Nat.zero_add,Nat.mul_one,Nat.add_zero,Nat.zero_xor] at this
  simpa using this
 ·have:=key 1
  simp only[Nat.mul_one,Nat.add_zero,Nat.xor_self,Nat.mul_zero,Nat.zero_add] at this
  simpa using this
theorem toInt_nat {n:Nat} (h:n<2^53):floatToIntVal .f64 (fl false n) .i64=some (n:Int):=by
 unfold floatToIntVal
 have:(FloatKind.f64.decode (fl false n)).toInt .zero=some (sg false n):=Bx false h
 rw[this,cg]
 have h1:IntKind.i64.min= -9223372036854775808:=by decide
 have h2:IntKind.i64.max=9223372036854775807:=by decide
 simp only
 rw[if_pos (by rw[h1,h2];omega)]
theorem y9 (n:Nat):floatOfInt .f64 (n:Int)=fl false n:=by
 unfold floatOfInt FloatKind.nearest fl
 have h1:decide ((n:Int)<0)=false:=by simp
 rw[h1,Int.natAbs_natCast];rfl
theorem Gg {f:Nat} (hf:f<2^11):lR .i64 (f:Int) 2047=(f:Int):=by
 have e3:f &&& 2047=f:=by
  have e:(2047:Nat)=2^11 - 1:=by decide
  rw[e,Nat.and_two_pow_sub_one_eq_mod,Nat.mod_eq_of_lt hf]
 have e1:(BitVec.ofInt 64 (f:Int) &&& BitVec.ofInt 64 2047).toNat=f:=by
  rw[BitVec.toNat_and,mV f (by omega),show (BitVec.ofInt 64 2047).toNat=2047 by decide,e3]
 have:=congrArg (fun x:Nat=>IntKind.i64.wrap (x:Int)) e1
 refine Eq.trans this ?_
 exact IntWalk.i64_in _ (by omega)
theorem Ib {k l:Nat} (hk:k<2^11) (hl:l<2^52):orI .u64 (l:Int) ((2^52*k:Nat):Int)=((2^52*k+l:Nat):Int):=by
 have:=H7 l (2^52*k) (by omega) (by omega)
 rw[xh hl] at this
 exact this
theorem Ic {k:Nat} (hk:k<2^11):IntKind.u64.wrap ((k:Int)*2^(min (52:Int).toNat 64))=((2^52*k:Nat):Int):=by
 have e3:(2:Int)^(min (52:Int).toNat 64)=4503599627370496:=by decide
 have e4:(2:Nat)^52=4503599627370496:=by decide
 rw[e3,e4]
 rw[IntWalk.u64_in _ (by omega)];omega
theorem Fx {f l:Nat} (hl:l<2^52):((2^52*f+l:Nat):Int).fdiv (2^(min (52:Int).toNat 64))=(f:Int):=by
 have e3:(2:Int)^(min (52:Int).toNat 64)=4503599627370496:=by decide
 have e4:(2:Nat)^52=4503599627370496:=by decide
 rw[e4] at hl ⊢
 rw[e3,Int.fdiv_eq_ediv_of_nonneg _ (by decide)]
 omega
theorem BF:fl false 1=4607182418800017408:=by
 rw[eC false (by decide) (by decide)];decide
theorem BG {n:Nat} (h:n<2^53):floatBits .mul .f64 4607182418800017408 (fl false n)=some (fl false n):=by
 have:=ph (m:=1) (n:=n) false false (by decide) h (by omega)
 rw[BF,Nat.one_mul] at this
 exact this
end Go.Fl
end
section
namespace Go.Av
open Go.ChangeShapes Go.WideShapes Go.ChangeAt Go.RowKit
section
variable {H:Type} {enc:TypeId × Value→H} {P:Program} {w:World}
def G0:aB:=⟨fun _=>False,fun _=>0,fun _=>False,fun _=>none,fun _=>False,fun _=>none⟩
def cO (P:Program) (e:TypeId) (cs:List AV):AV:=if bB P e then .agg cs else cs.headD .any
mutual
def mu:AV→Nat
 | .int _ _=>1
 | .bool _=>1
 | .str l=>l.length+1
 | .sl _ xs _=>bO xs+1
 | .agg cs=>bO cs
 |_=>0
def bO:List AV→Nat
 |[]=>0
 |x::xs=>mu x+bO xs
end
theorem ic:∀l m:List AV,bO (l++m)=bO l+bO m
 |[],m=>by simp[bO]
 |x::l,m=>by simp[bO,ic l m];omega
theorem qL (P:Program) (e:TypeId) (cs:List AV):mu (cO P e cs)≤bO cs:=by
 unfold cO
 split
 ·simp[mu]
 ·cases cs with
  |nil=>simp[mu,bO]
  |cons x cs=>simp[bO]
structure po (B:DataW H→Nat) (BL:List (DataW H)→Nat):Prop where
 str:∀l,B (.lit (.string l))=l.length+1
 int:∀k n,B (.lit (.int k n))=1
 bool:∀b,B (.lit (.bool b))=1
 nil:B .nil=1
 slice:∀a b,B (.slice a b)=BL a+BL b+1
 agg:∀a,B (.agg a)=BL a+1
 nils:BL []=0
 cons:∀d l,BL (d::l)=B d+BL l
theorem po.snoc {B:DataW H→Nat} {BL:List (DataW H)→Nat} (hB:po B BL):∀(l:List (DataW H)) (d:DataW H),BL (l++[d])=BL l+B d
 |[],d=>by simp[hB.cons,hB.nils]
 |x::l,d=>by simp[hB.cons,po.snoc hB l d];omega
theorem po.take {B:DataW H→Nat} {BL:List (DataW H)→Nat} (hB:po B BL):∀(l:List (DataW H)) (m:Nat),BL (l.take m)≤BL l
 |[],m=>by simp
 |x::l,0=>by simp[hB.nils]
 |x::l,m+1=>by simp[hB.cons,po.take hB l m]
theorem jy {P:Program} {e:TypeId} {n:Nat}:∀{l:List (DataW H)} {d:DataW H},d∈l→n∈d.weights P e→n∈DataW.weightsAll P e l
 |x::l,d,h,hn=>by
  simp only[DataW.weightsAll,List.mem_append]
  rcases List.mem_cons.1 h with rfl|h
  ·exact .inl hn
  ·exact .inr (jy h hn)
inductive tv {α β:Type} (R:α→β→Prop):List α→List β→Prop
 |nil:tv R [] []
 |cons {a b l m}:R a b→tv R l m→tv R (a::l) (b::m)
def Fits (P:Program):Nat→TypeId→List AV→Prop
 |0,_,_=>False
 |k+1,t,xs=>match P.underlying t with
  |some .bool=>∃b,xs=[.bool b]
  |some (.int q)=>∃n,xs=[.int q n]∧(Lit.int q n).wf=true
  |some .string=>∃l,xs=[.str l]∧l.length≤reachBytes
  |some (.slice e)=>∃ys,xs=[.sl (P.cellsOf e) ys .any]∧ys.length*P.bytesOf e≤reachBytes∧∀y∈ys,∃cs,Fits P k e cs∧y=cO P e cs
  |some (.struct fs)=>∃xss,xs=xss.flatten∧tv (fun (f:Field) cs=>Fits P k f.type cs) fs.toList xss
  |_=>False
def ie (P:Program):Nat→TypeId→Bool
 |0,_=>false
 |k+1,t=>match P.underlying t with
  |some .bool|some (.int _)|some .string=>true
  |some (.slice e)=>decide (e<P.types.size)&&decide (0<P.cellsOf e)&&(bB P e||decide (P.cellsOf e=1))&&ie P k e
  |some (.struct fs)=>decide (t<P.types.size)&&fs.all fun f=>ie P k f.type
  |_=>false
theorem qM {a:Addr} {v:Value} (h:w.cell? a=some v):a.spot=none:=by
 unfold World.cell? at h
 split at h
 ·split at h
  ·cases h
  ·rename_i hs;cases hh:a.spot with
   |none=>rfl
   |some x=>simp[hh] at hs
 ·cases h
theorem tw (b:Bool):One (.bool b):=⟨fun _=>by simp,fun _=>by simp⟩
theorem vp (k:IntKind) (n:Int):One (.int k n):=⟨fun _=>by simp,fun _=>by simp⟩
theorem vq (s:ByteArray):One (.string s):=⟨fun _=>by simp,fun _=>by simp⟩
theorem qN (a:Option Addr) (l c:Nat):One (.slice a l c):=⟨fun _=>by simp,fun _=>by simp⟩
theorem mv {R:Field→List AV→Prop} {G:aB} {B:DataW H→Nat} {BL:List (DataW H)→Nat} (hB:po B BL) (full:List Value) (rd:Field→List Value→DataW H→Prop)
  (hrd:∀f cs d,rd f cs d→∃xs,R f xs∧an G w xs cs∧(∀v∈cs,One v)∧bO xs≤B d):∀(fs:List Field) (ds:List (DataW H)) (off:Nat),ds.length=fs.length→
  (∀(j:Nat) f,fs[j]? =some f→f.offset=off+((fs.take j).map fun f=>P.cellsOf f.type).sum)→full.length=off+(fs.map fun f=>P.cellsOf f.type).sum→
  (∀(j:Nat) f d,fs[j]? =some f→ds[j]? =some d→rd f ((full.drop f.offset).take (P.cellsOf f.type)) d)→∃xss,tv R fs xss∧an G w xss.flatten (full.drop off)∧(∀v∈full.drop off,One v)∧bO xss.flatten≤BL ds
 |[],ds,off,hl,h1,h2,h3=>by
  have e:full.drop off=[]:=List.drop_eq_nil_of_le (by simp at h2;omega)
  exact ⟨[],.nil,by rw[e];exact .nil,by rw[e];simp,by simp[bO]⟩
 |f::fs,[],off,hl,h1,h2,h3=>by cases hl
 |f::fs,d::ds,off,hl,h1,h2,h3=>by
  have o0:f.offset=off:=by simpa using h1 0 f rfl
  have hf:=h3 0 f d rfl rfl
  rw[o0] at hf
  obtain ⟨xs,r1,r2,r3,r4⟩:=hrd f _ d hf
  obtain ⟨xss,q1,q2,q3,q4⟩:=mv hB full rd hrd fs ds (off+P.cellsOf f.type) (by simpa using hl) (fun j g hj=>by
   have:=h1 (j+1) g (by simpa using hj)
   simp only[List.take_succ_cons,List.map_cons,List.sum_cons] at this;omega) (by simp only[List.map_cons,List.sum_cons] at h2;omega) (fun j g d' hg hd=>h3 (j+1) g d' (by simpa using hg) (by simpa using hd))
  have e:full.drop off=(full.drop off).take (P.cellsOf f.type)++full.drop (off+P.cellsOf f.type):=by
   rw[←List.drop_drop,List.take_append_drop]
  refine ⟨xs::xss,.cons r1 q1,?_,?_,?_⟩
  ·rw[e,List.flatten_cons];exact r2.append q2
  ·rw[e];intro v hv
   rcases List.mem_append.1 hv with hv|hv
   ·exact r3 v hv
   ·exact q3 v hv
  ·rw[List.flatten_cons,ic,hB.cons];omega
theorem za {e:TypeId} {cs:List AV} {vs:List Value} (hs:vs.length=P.cellsOf e) (hr:an G0 w cs vs) (ho:∀v∈vs,One v) (hc:bB P e=false→P.cellsOf e=1):
  ∃v:Value,v.cells.toList=vs∧ak G0 w (cO P e cs) v:=by
 unfold cO
 cases ha:bB P e with
 |true=>exact ⟨.agg vs.toArray,by simp[Value.cells],by simp only[if_true,ak];exact ⟨vs,rfl,hr⟩⟩
 |false=>
  rw[hc ha] at hs
  obtain ⟨v,rfl⟩:=List.length_eq_one_iff.1 hs
  have hl:=hr.length
  obtain ⟨x,rfl⟩:=List.length_eq_one_iff.1 (show cs.length=1 by simpa using hl.symm)
  simp only[an] at hr
  obtain ⟨v',us,e1,hv,e2⟩:=hr
  cases e1
  refine ⟨v,?_,by simpa using hv⟩
  have:=ho v (by simp)
  cases v<;>first|rfl|exact absurd rfl (this.1 _)|exact absurd rfl (this.2 _)
theorem Fits.slice {k:Nat} {t e:TypeId} {ys:List AV} (ht:P.underlying t=some (.slice e)) (h1:ys.length*P.bytesOf e≤reachBytes) (h2:∀y∈ys,∃cs,Fits P k e cs∧y=cO P e cs):Fits P (k+1) t [.sl (P.cellsOf e) ys .any]:=by
 unfold Fits;rw[ht];exact ⟨ys,rfl,h1,h2⟩
theorem zb (hl:laidOutB P=true) {B:DataW H→Nat} {BL:List (DataW H)→Nat} (hB:po B BL):∀(k:Nat) (t:TypeId),ie P k t=true→∀(fuel:Nat) (cs:List Value) (x:DataW H × List MemPlace),
  DataW.trod enc P w 0 (fun _=>true) true fuel t cs=some x→(∀n∈x.1.weights P t,n≤reachBytes)→∃xs,Fits P k t xs∧an G0 w xs cs∧(∀v∈cs,One v)∧bO xs≤B x.1:=by
 intro k
 induction k with
 |zero=>intro t h;cases h
 |succ k ih=>
  intro t hp fuel cs x hx hwt
  simp only[ie] at hp
  split at hp
  ·rename_i ht
   obtain ⟨b,rfl,rfl⟩:=DataW.trod_bool ht hx
   exact ⟨[.bool b],by simp only[Fits,ht];exact ⟨b,rfl⟩,.cons (by simp[ak]) .nil,by simp[tw],by simp[hB.bool,bO,mu]⟩
  ·rename_i q ht
   obtain ⟨n,rfl,rfl,hw⟩:=DataW.trod_int ht hx
   exact ⟨[.int q n],by simp only[Fits,ht];exact ⟨n,rfl,hw⟩,.cons (by simp[ak]) .nil,by simp[vp],by simp[hB.int,bO,mu]⟩
  ·rename_i ht
   obtain ⟨s,rfl,rfl,-⟩:=DataW.trod_string ht hx
   refine ⟨[.str s.data.toList],by simp only[Fits,ht];exact ⟨_,rfl,hwt _ (by simp[DataW.weights])⟩,.cons (by simp[ak]) .nil,by simp[vq],by simp[hB.str,bO,mu]⟩
  ·rename_i e ht
   simp only[Bool.and_eq_true,decide_eq_true_eq] at hp
   obtain ⟨⟨⟨-,hsz⟩,hag⟩,hpe⟩:=hp
   rcases DataW.trod_slice ht hx with ⟨rfl,rfl⟩|⟨a,len,cap,elems,rest,n,rfl,rfl,rfl,hb,hlc,hcm,hel,hread,hrest,-⟩
   ·refine ⟨[.sl (P.cellsOf e) [] .any],Fits.slice ht (by simp) (fun y hy=>by cases hy),.cons ?_ .nil,by simp[qN],by simp[hB.nil,bO,mu]⟩
    unfold ak;exact .inl ⟨rfl,⟨none,rfl⟩,trivial⟩
   ·have hone:bB P e=false→P.cellsOf e=1:=by
     intro ha
     simpa [ha] using hag
    have each:∀i,i<len→∃vs xs,w.cells? 0 (a.add (i*P.cellsOf e)) (P.cellsOf e)=some vs∧Fits P k e xs∧an G0 w xs vs∧(∀v∈vs,One v)∧∀y,elems[i]? =some y→bO xs≤B y.1:=by
     intro i hi
     have h:=hread i hi
     rw[List.getElem?_eq_getElem (by omega)] at h
     obtain ⟨vs,h1,h2⟩:=Option.bind_eq_some_iff.1 h
     obtain ⟨xs,h3,h4,h5,h6⟩:=ih e hpe n vs _ h2 (fun m hm=>hwt m (by
      simp only[DataW.weights,ht,List.mem_cons,List.mem_append]
      exact .inr (.inl (jy (List.mem_map.2 ⟨_,List.getElem_mem (by omega),rfl⟩) hm))))
     exact ⟨vs,xs,h1,h3,h4,h5,fun y hy=>by rw[List.getElem?_eq_getElem (by omega)] at hy;cases hy;exact h6⟩
    have build:∀m,m≤len→∃ys vs,ys.length=m∧vs.length=m*P.cellsOf e∧(∀y∈ys,∃cs,Fits P k e cs∧y=cO P e cs)∧aq G0 w (P.cellsOf e) ys vs∧(∀(i:Nat) v,vs[i]? =some v→w.cell? (a.add i)=some v∧One v)∧bO ys≤BL ((elems.map (·.1)).take m):=by
     intro m
     induction m with
     |zero=>intro _;exact ⟨[],[],rfl,by simp,by simp,by simp[aq],by simp,by simp[bO]⟩
     |succ m ihm=>
      intro hm
      obtain ⟨ys,vs,k1,k2,k3,k4,k5,k6⟩:=ihm (by omega)
      obtain ⟨us,xs,e1,e2,e3,e4,eb⟩:=each m (by omega)
      obtain ⟨-,e5,e6⟩:=World.cells?_some e1
      obtain ⟨v,hv1,hv2⟩:=za e5 e3 e4 hone
      refine ⟨ys++[cO P e xs],vs++us,by simp[k1],by simp[k2,e5,Nat.add_mul],?_,?_,?_,?_⟩
      ·intro y hy
       rcases List.mem_append.1 hy with hy|hy
       ·exact k3 y hy
       ·simp at hy;exact ⟨xs,e2,hy⟩
      ·refine k4.append ?_
       simp only[aq]
       exact ⟨v,[],by simp[hv1],by rw[←Array.length_toList,hv1,e5],hv2,rfl⟩
      ·intro i z hz
       rcases Nat.lt_or_ge i vs.length with hi|hi
       ·rw[List.getElem?_append_left hi] at hz;exact k5 i z hz
       ·rw[List.getElem?_append_right hi] at hz
        have hlt:i - vs.length<us.length:=(List.getElem?_eq_some_iff.1 hz).1
        have:=e6 (i - vs.length) (by omega)
        rw[hz] at this
        have ea:(a.add (m*P.cellsOf e)).add (i - vs.length)=a.add i:=by
         rw[←k2]
         unfold Addr.add
         by_cases h0:vs.length=0
         ·simp[h0]
         ·by_cases h1:i - vs.length=0
          ·have:i=vs.length:=by omega
           subst this;simp
          ·have:i≠0:=by omega
           simp[h0,h1,this];omega
        rw[ea] at this
        exact ⟨this,e4 z (List.mem_of_getElem? hz)⟩
      ·have hlt:m<(elems.map (·.1)).length:=by simp;omega
       rw[List.take_succ_eq_append_getElem hlt,hB.snoc,ic]
       have h1:=eb _ (List.getElem?_eq_getElem (by omega))
       have h2:=qL P e xs
       simp only[List.getElem_map,bO]
       omega
    obtain ⟨ys,vs,k1,k2,k3,k4,k5,k6⟩:=build len (Nat.le_refl _)
    refine ⟨[.sl (P.cellsOf e) ys .any],Fits.slice ht ?_ k3,.cons ?_ .nil,by simp[qN],?_⟩
    ·have:=hwt ((elems.length+rest.length)*P.bytesOf e) (by simp[DataW.weights,ht])
     exact Nat.le_trans (Nat.mul_le_mul_right _ (by omega)) this
    rotate_left
    ·have:=hB.take (elems.map (·.1)) len
     simp only[hB.slice,bO,mu]
     omega
    unfold ak
    by_cases hcap:cap=0
    ·have:ys=[]:=List.length_eq_zero_iff.1 (by omega)
     exact .inl ⟨this,⟨some a,by simp;omega⟩,by simp[gW]⟩
    ·have hspot:a.spot=none:=by
      by_cases hl0:len=0
      ·obtain ⟨hr1,hr2⟩:=hrest rfl
       have h:=hr2 0 (by omega)
       rw[List.getElem?_eq_getElem (by omega)] at h
       obtain ⟨vs',h1,h2⟩:=Option.bind_eq_some_iff.1 h
       obtain ⟨-,g1,g2⟩:=World.cells?_some h1
       have:=g2 0 hsz
       rw[List.getElem?_eq_getElem (by omega)] at this
       have:=qM this
       simpa [hl0,Addr.add] using this
      ·obtain ⟨us,xs,e1,e2,e3,e4,-⟩:=each 0 (by omega)
       obtain ⟨-,g1,g2⟩:=World.cells?_some e1
       have:=g2 0 hsz
       rw[List.getElem?_eq_getElem (by omega)] at this
       have:=qM this
       simpa [Addr.add] using this
     obtain ⟨B,off,sp⟩:=a
     simp only at hspot
     subst hspot
     refine .inr ⟨B,off,cap,vs,by simp[k1],by omega,by rw[k2,k1],k4,fun i v hv=>?_,by simp[bY]⟩
     obtain ⟨c1,c2⟩:=k5 i v hv
     rw[add_plain] at c1
     exact ⟨c1,c2,by simp[G0],by simp[G0]⟩
  ·rename_i fs ht
   simp only[Bool.and_eq_true,decide_eq_true_eq] at hp
   obtain ⟨hlt,hp⟩:=hp
   rw[Array.all_eq_true_iff_forall_mem] at hp
   obtain ⟨xs,n,rfl,rfl,hlen,hxl,hread⟩:=DataW.trod_struct ht hx
   obtain ⟨-,hsum,hoff⟩:=kid_struct hl hlt ht
   obtain ⟨xss,q1,q2,q3,q4⟩:=mv (P:=P) (R:=fun (f:Field) cs=>Fits P k f.type cs) (G:=G0) (w:=w) hB cs
    (fun f us d=>ie P k f.type=true∧∃y,DataW.trod enc P w 0 (fun _=>true) true n f.type us=some y∧y.1=d∧∀m∈d.weights P f.type,m≤reachBytes)
    (fun f us d ⟨h1,y,h2,h3,h4⟩=>by subst h3;exact ih f.type h1 n us y h2 h4) fs.toList (xs.map (·.1)) 0 (by simp[hxl]) (fun j f hj=>by rw[hoff j f hj];omega) (by rw[hlen,hsum];omega)
    (fun i f d hi hd=>by
     refine ⟨hp f (by have:=List.mem_of_getElem? hi;simpa using this),?_⟩
     have h:=hread i f (by simpa using hi)
     rw[List.getElem?_map] at hd
     cases hxi:xs[i]? with
     |none=>rw[hxi] at hd;cases hd
     |some y=>
      rw[hxi] at h hd
      refine ⟨y,h,by simpa using hd,fun m hm=>hwt m ?_⟩
      simp only[DataW.weights,ht]
      exact DataW.weights_mem_each (j:=i) (t:=f.type) (d:=d) (by rw[List.getElem?_map,hi];rfl) (by rw[List.getElem?_map,hxi];exact hd) m hm)
   refine ⟨xss.flatten,by simp only[Fits,ht];exact ⟨xss,rfl,q1⟩,by simpa using q2,by simpa using q3,?_⟩
   rw[hB.agg];omega
  ·cases hp
def kE (P:Program) (k:Nat) (t:TypeId) (a:AV):Prop:=∃cs,Fits P k t cs∧a=cO P t cs
theorem D4 {k:Nat} {t:TypeId} {v:Value} {xs:List AV} {base:Nat} (hp:ie P k t=true) (hok:Value.okWide P w .any base t v) (hr:an G0 w xs v.cells.toList) (ho:∀u∈v.cells.toList,One u):ak G0 w (cO P t xs) v:=by
 unfold cO
 cases ha:bB P t with
 |true=>
  have:∃cs,v= .agg cs:=by
   unfold bB at ha
   unfold Value.okWide at hok
   split at ha
   ·rename_i h;rw[h] at hok;obtain ⟨cs,h,-⟩:=hok;exact ⟨cs,h⟩
   ·rename_i h;rw[h] at hok;obtain ⟨cs,h,-⟩:=hok;exact ⟨cs,h⟩
   ·cases ha
  obtain ⟨cs,rfl⟩:=this
  simp only[if_true,ak]
  exact ⟨cs.toList,by simp,by simpa [Value.cells] using hr⟩
 |false=>
  have hv:v.cells= #[v]:=by
   cases v<;>try rfl
   exfalso
   cases k with
   |zero=>cases hp
   |succ k=>
    unfold ie at hp
    unfold bB at ha
    unfold Value.okWide Cell.okWide Cell.ok at hok
    split at hp
    all_goals (try (rename_i h;rw[h] at hok ha;simp at hok ha;done))
    all_goals (try (rename_i h;rw[h] at hok ha;simp at hok;done))
    all_goals simp_all
  rw[hv] at hr
  have hl:=hr.length
  obtain ⟨x,rfl⟩:=List.length_eq_one_iff.1 (show xs.length=1 by simpa using hl.symm)
  simp only[an] at hr
  obtain ⟨v',us,e1,hx,e2⟩:=hr
  cases e1
  simpa using hx
theorem tz (hl:laidOutB P=true) {B:DataW H→Nat} {BL:List (DataW H)→Nat} (hB:po B BL) {k:Nat} {base:Nat}:∀{ts us:List TypeId} {vs:List Value} {ds:List (DataW H)} {ps:List MemPlace},(∀t∈ts,ie P k t=true)→
  (∀(j:Nat) t v,ts[j]? =some t→vs[j]? =some v→Value.okWide P w .any base t v)→(∀n∈DataW.weightsEach P (ts++us) ds,n≤reachBytes)→DataW.TrodAll enc P w 0 (fun _=>true) true ts vs ds ps→∃avs,tv (kE P k) ts avs∧an G0 w avs vs∧bO avs≤BL ds
 |[],us,[],[],_,_,_,_,_=>⟨[],.nil,.nil,by simp[bO]⟩
 |t::ts,us,v::vs,d::ds,_,hp,hok,hwt,⟨p,q,⟨fuel,h1⟩,h2,_⟩=>by
  obtain ⟨xs,f1,f2,f3,f4⟩:=zb hl hB k t (hp t (by simp)) fuel _ _ h1 (fun n hn=>hwt n (by simp only[List.cons_append,DataW.weightsEach,List.mem_append];exact .inl hn))
  obtain ⟨avs,g1,g2,g3⟩:=tz hl hB (us:=us) (fun t ht=>hp t (by simp[ht])) (fun j t v a b=>hok (j+1) t v (by simpa using a) (by simpa using b)) (fun n hn=>hwt n (by simp only[List.cons_append,DataW.weightsEach,List.mem_append];exact .inr hn)) h2
  refine ⟨cO P t xs::avs,.cons ⟨xs,f1,rfl⟩ g1,.cons (D4 (hp t (by simp)) (hok 0 t v rfl rfl) f2 f3) g2,?_⟩
  have:=qL P t xs
  simp only[bO,hB.cons] at f4 ⊢
  omega
theorem nO {sp:Nat→Bool}:∀{ts:List TypeId} {vs:List Value} {ds:List (DataW H)} {ps:List MemPlace},DataW.TrodAll enc P w 0 sp true ts vs ds ps→ds.length=ts.length
 |[],[],[],_,h=>rfl
 |t::ts,v::vs,d::ds,_,⟨p,q,h1,h2,e⟩=>by simp[nO h2]
theorem kV {w':World} {sp:Nat→Bool}:∀{ts:List TypeId} {vs:List Value} {ds:List (DataW H)} {ps:List MemPlace},DataW.TrodAll enc P w 0 sp true ts vs ds ps→(∀p∈ps,w.sameAt w' p)→DataW.TrodAll enc P w' 0 sp true ts vs ds ps
 |[],[],[],_,h,_=>h
 |t::ts,v::vs,d::ds,_,⟨p,q,⟨fuel,h1⟩,h2,e⟩,hs=>by
  subst e
  exact ⟨p,q,⟨fuel,DataW.trod_carry fuel _ _ _ h1 (fun x hx=>hs x (List.mem_append_left _ hx))⟩,kV h2 (fun x hx=>hs x (List.mem_append_right _ hx)),rfl⟩
theorem ze (hl:laidOutB P=true) {B:DataW H→Nat} {BL:List (DataW H)→Nat} (hB:po B BL) (hm:mapsRowed P=true) (hz:∀t e,t<P.types.size→P.underlying t=some (.slice e)→0<P.cellsOf e) {f:FuncId} {fn:Func} {s:ChangeSpec} {k base:Nat} {W:World} {args:Array Value} {ds gs:List (DataW H)} {before:List MemPlace} {tb:TypeId}
  (hvars:s.vars=[]) (hfn:∀l:List (DataW H),l.length=fn.params.size→s.fn H l= {results:=[.lit (.bool true)],args:=l}) (hrt:fn.resultTypes= #[tb]) (htb:P.underlying tb=some .bool)
  (hpl':fn.params.toList.all (ie P k)=true) (hlt':fn.params.toList.all (fun t=>decide (t<P.types.size))=true)
  (hval:∀(j:Nat) t v,fn.params[j]? =some t→args[j]? =some v→Value.okWide P W .any base t v) (hW:DataW.Whole enc P fn.params.toList s.vars false W args.toList ds gs before)
  {us:List TypeId} (hwt:(DataW.weightsEach P (fn.params.toList++us) (ds++gs)).all (· ≤reachBytes)=true)
  (law:∀avs,tv (kE P k) fn.params.toList avs→bO avs≤BL (ds++gs)→aE P f avs (.bool true)):
  Calls P f args W fun e W'=>∃v,e= .returned v∧s.post enc P fn false true false false W args v W':=by
 have hpl:∀t∈fn.params.toList,ie P k t=true:=List.all_eq_true.1 hpl'
 have hlt:∀t∈fn.params.toList,t<P.types.size:=fun t ht=>of_decide_eq_true (List.all_eq_true.1 hlt' t ht)
 have hW':=hW
 obtain ⟨p,q,hA,hV,rfl,-,-⟩:=hW
 rw[hvars] at hV
 obtain ⟨rfl,rfl⟩:=trodVars_none hV
 rw[List.append_nil] at hwt law
 obtain ⟨avs,g1,g2,g3⟩:=tz hl hB hpl (fun j t v a b=>hval j t v (by simpa using a) (by simpa using b)) (fun n hn=>of_decide_eq_true (List.all_eq_true.1 hwt n hn)) hA
 have hlaw:=law avs g1 g3 0 0 G0 W args.toList g2 gd ⟨fun _ _ _ h=>h,fun _ _ _ h=>h⟩
 rw[show args.toList.toArray=args from Array.toArray_toList] at hlaw
 refine hlaw.mono ?_
 rintro e W' ⟨v,G',he,T,-,hv⟩
 subst he
 simp only[ak] at hv
 subst hv
 have keep:∀B,B<W.heap.size→W'.heap[B]? =W.heap[B]? :=fun B hB=>T.keep B hB (fun x=>eW B x) (fun ⟨t,ht,_⟩=>by simp[H0,Av.H.only] at ht)
 have hlt':∀x∈p,x.block<W.heap.size:=DataW.TrodAll.lt hA
 have hlen:=nO hA
 refine ⟨_,rfl,ds,[],p++[],[],p,[],hW',?_,?_,?_,?_,fun h=>by cases h⟩
 ·rw[hfn _ (by simpa using hlen),hrt]
  exact trodAll_mk1 (shut_bool htb _)
 ·rw[hfn _ (by simpa using hlen)]
  have:=DataW.TrodAll.respare (kids_rows hl hm) hz (spare':=fun b=>decide (b<W.heap.size)) hlt hA (fun x hx=>by simpa using hlt' x hx)
  simp only[List.append_nil]
  refine kV this fun x hx=>?_
  have hb:=hlt' x hx
  cases x with
  |cell b off=>unfold World.sameAt World.cell?;simp only;rw[keep b hb]
  |map b=>exact keep b hb
 ·rw[hvars,hfn _ (by simpa using hlen)]
  rfl
 ·refine ⟨T.os,T.output,fun i hi=>?_⟩
  rw[keep i hi]
  generalize W.heap[i]? =o
  cases o with
  |none=>rfl
  |some o=>cases o<;>simp
end
end Go.Av
end
