/- TreePages: the statement 'TreePagesSaid', closed by the law that the walk shows. No condition. -/
import Derived.Deep.CondSized
import Derived.Defers
import Derived.IntWalk
import Derived.KernelRfl
import Derived.Laws.Append
import Derived.Laws.AppendOwn
import Derived.Laws.BytesArg
import Derived.Laws.ComplexArith
import Derived.Laws.Cover3
import Derived.Laws.Entries
import Derived.Laws.IdiomCopy
import Derived.Laws.IdiomStrings
import Derived.Laws.Pointers
import Derived.Laws.Small
import Derived.Laws.Strings
import Derived.Laws.StructEq
import Derived.MapKept
import Derived.OpenShut
import Derived.Orders
import Derived.OrdersIn
import Derived.ProofKit
import Derived.RangeFuncRecord
import Derived.RangeFuncSeq
import Derived.ReadAgain
import Derived.Recover
import Derived.Scope
import Derived.Shelf.Slices.Cells
import Derived.Shelf.Slices.Clone
import Derived.Shelf.Slices.Delete
import Derived.Shelf.Sort.Plain
import Derived.Shelf.Spec.SlicesInsertGrow
import Derived.SizedLaws
import Derived.Tactics
import Derived.Tactics2
import Derived.Test.YtbgmofhgfnmaiaaGreatProg
import Derived.Test.YtbgmofhgfnmaiaaGreatRows
import Derived.WalkSmall
import Derived.Test.YtbgmofhgfnmaiaaGreatZPaE
set_option linter.unusedSimpArgs false
set_option linter.unusedVariables false
section
set_option maxRecDepth 100000
namespace Go.Proofs.YtbgmofhgfnmaiaaGreat.Tree
open Go Go.Av Go.Proofs Go.Proofs.YtbgmofhgfnmaiaaGreat.C Go.Proofs.YtbgmofhgfnmaiaaGreat.Page
open Go.Proofs.YtbgmofhgfnmaiaaGreat.Batch (Bs Pr prs aZ)
def wo {α:Type} (l:List α) (j:Nat):List α:=l.take j++l.drop (j+1)
def dks {L:Nat} (ks:List Bs) (j:Nat):Option (Tr L)→List Bs
 |none=>wo ks (j - 1)
 |some _=>ks
def dus {L:Nat} (us:List (Tr L)) (j:Nat):Option (Tr L)→List (Tr L)
 |none=>wo us j
 |some t=>nus us j (t,none)
section
variable {x:PgI} {s:PgS} {T:List Nat} {h:H}
theorem dD.Hj {h':H} {n0 c:Nat} {K:AV} {xs:List AV} (r:dD h n0 K xs c) (hn:h.n≤h'.n) (ho:∀a l c',K= .tsl 1 a 0 l c'→h'.objs a=h.objs a):dD h' n0 K xs c:=by
 rcases r with r|⟨a,r1,r2,r3,r4,r5,r6⟩
 ·exact .inl r
 ·exact .inr ⟨a,r1,(ho a _ _ r1).trans r2,r3,ab,r5,r6⟩
set_option maxHeartbeats 2000000 in
theorem AM {L tid d i:Nat} {r:Int} {ks:List Bs} {us:List (Tr L)} {key:Bs} {u:Tr L} {Q:PgS→Option (Tr L)→Prop} {Q2:PgS→Option (Tr L)→PgS→Nat→Prop} {Q3:PgS→PgS→Prop}
  (g:PgH x s T h) (ok:cu s) (ht:h.objs tid=some (trO x r)) (htx:Tid x tid) (hi':i<s.np) (hs:stt s i=1∨stt s i=2) (hH:Has s i (au L ks us)) (hr:right (au L ks us)=true) (hz:size (au L ks us)≤1024)
  (hu:us[place (au L ks us) key]? =some u) (hj:place (au L ks us) key≤ks.length) (hd:d≤20) (hp:s.p.length<900000)
  (ih:∀h1,PgH x s T h1→h1.objs tid=some (trO x r)→aJ Tryz.prog 46 [.ptr tid 0,.int .i64 (u.pg:Nat),.int .i64 ((d+1:Nat):Int),.str key] h1 fun q h'=>∃s1 o,q= .int .i64 (opg o)∧PgH x s1 T h'∧cI x h1 h'∧aq h1 h'∧Q s1 o)
  (hov:∀s1 o h1,Q s1 o→PgH x s1 T h1→h1.objs tid=some (trO x r)→(∀t',o=some t'→t'.pg≠u.pg)→(o=none→2≤us.length)→aJ Tryz.prog 78 [.ptr tid 0,.int .i64 (i:Int),aD (au L (dks ks (place (au L ks us) key) o) (dus us (place (au L ks us) key) o))] h1 fun q h'=>∃s2 k,q= .int .i64 (k:Nat)∧PgH x s2 T h'∧cI x h1 h'∧aq h1 h'∧Q2 s1 o s2 k)
  (hrel:∀s1 h1,Q s1 none→us.length=1→PgH x s1 T h1→aJ Tryz.prog 48 [.ptr x.P 0,.int .i64 (i:Int)] h1 fun q h'=>q= .int .i64 0∧∃s2,PgH x s2 T h'∧cI x h1 h'∧aq h1 h'∧Q3 s1 s2):
  aJ Tryz.prog 46 [.ptr tid 0,.int .i64 (i:Int),.int .i64 (d:Int),.str key] h fun q h'=>∃s1 o,Q s1 o∧cI x h h'∧aq h h'∧((q= .int .i64 (i:Int)∧(∃t',o=some t'∧t'.pg=u.pg)∧PgH x s1 T h')∨(q= .int .i64 (-1)∧o=none∧us.length=1∧∃s2,PgH x s2 T h'∧Q3 s1 s2)∨((∀t',o=some t'→t'.pg≠u.pg)∧(o=none→2≤us.length)∧∃s2 k,q= .int .i64 (k:Nat)∧PgH x s2 T h'∧Q2 s1 o s2 k)):=by
 refine f46.bC af ?_
 unfold c46 zz
 have hlt:tid<h.n:=by
  rcases Nat.lt_or_ge tid h.n with q|q
  ·exact q
  ·rw[g.fresh _ q] at ht;cases ht
 have hsm:=cx (L:=L+1) (ks:=ks) (kids:=us) hr (by show size (au L ks us)≤1355;omega)
 have hul:us.length=ks.length+1:=by
  have q:=((cR (n:=au L ks us) rfl).1 hr).2.2.1
  simpa [au] using q
 refine rf0 @and_self ?_
 have hnd:=CH g ok ht hi' (by show stt s i≠0;omega) hp hd hH.1 (by rw[hH.2];rfl)
 rw[hH.2] at hnd
 refine an.ba (vals:=[.ptr tid 0,.int .i64 (i:Int),.int .i64 (d:Int)]) ae xA4 hnd fun q h2 ⟨K,c,hq,oc,rK,hc1,hc2,g2,k2,no2⟩ n2 _=>?_
 subst hq
 have hkl:(au L ks us).kids.length=us.length:=by simp[au]
 have hkk:(au L ks us).kids=bR us:=rfl
 have hks:(au L ks us).keys=ks:=rfl
 rw[hkl]
 rw[hkk] at oc
 rw[hks] at rK
 have ht2:=(k2 tid ab).trans ht
 have hKc:=rK.cell
 have hKc2:=hKc
 unfold aR at hKc
 obtain ⟨nO,hnO⟩:∃nO:Av.Obj,nO= .cells [.bool false,K,.sl 1 [] (.exact 0),.tsl 1 c 0 us.length none]:=⟨_,rfl⟩
 have g3:=g2.new nO
 have ln3:(H.new h2 nO).n=h2.n+1:=rfl
 have ht3:(H.new h2 nO).objs tid=some (trO x r):=(aO ab).trans ht2
 have nn3:=bZ (h:=h2) (o:=nO)
 have oc3:(H.new h2 nO).objs c=some (.cells (ints (bR us))):=(aO hc2).trans oc
 have rK3:dD (H.new h2 nO) h.n K (strs ks) c:=rK.keep (Nat.le_succ _) (fun j a b _=>aO b) (fun a _ h=>h)
 have sm3:cI x h (H.new h2 nO):=(eB k2).trans cS ab
 have no3:aq h (H.new h2 nO):=aq.trans no2 bP ab ab
 have hKd:∀a l c',K= .tsl 1 a 0 l c'→h.n≤a∧a<h2.n∧a≠c:=by
  intro a l c' e
  rcases rK with ⟨-,k2⟩|⟨a',k1,-,k3,k4,k5,-⟩
  ·rw[e] at k2;cases k2
  ·rw[e] at k1;cases k1;exact ⟨k3,k4,k5⟩
 refine an.evF (xAd hKc) ?_
 rw[bB]
 refine an.nil ?_
 refine Wp.le (s':=⟨tm [(0,.ptr tid 0),(1,.int .i64 i),(2,.int .i64 d),(3,.str key),(9,.ptr h2.n 0)],H.new h2 nO⟩) (aM.of (bA ?_) (by rw[hnO];exact OLe.refl _) (fun y hy=>hy) (Nat.le_refl _) (Nat.le_refl _)) ?_
 ·exact xSb
 generalize H.new h2 nO=h3 at*
 rw[hnO] at nn3
 have cf:=CS (key:=key) rK3 oc3 hr hsm.1
 generalize hJ:place (au L ks us) key=J at*
 have hJu:J<us.length:=by omega
 have x1:(0:Int)≤(J:Int):=by omega
 have x2:(J:Int)<(us.length:Int):=by omega
 have wd:IntKind.i64.wrap ((d:Int)+1)=((d+1:Nat):Int):=by rw[IntWalk.i64_in _ ab];rfl
 have hgo:(ints (bR us))[J]? =some (.int .i64 (u.pg:Nat)):=by
  have:(bR us)[J]? =some ((u.pg:Nat):Int):=by simp[bR,hu]
  simp[ints,this]
 refine rg1 (qI nn3 x1 x2 oc3 hgo wd @Int.toNat_natCast @Nat.mul_one @Nat.zero_add @and_self) cf ?_
 refine an.ba (vals:=[.ptr tid 0,.int .i64 (u.pg:Nat),.int .i64 ((d+1:Nat):Int),.str key]) ae xA4 (ih h3 g3 ht3) fun q h4 ⟨s1,o,hq,g4,sm4,no4,hQ⟩ n4 _=>?_
 subst hq
 have tids:∀j,h.n≤j→Tid x j:=fun j hj=>dB g hj
 have nn4:=(cD sm4 ab (tids h2.n ab)).trans nn3
 have ht4:=(cD sm4 ab htx).trans ht3
 have oc4:=(cD sm4 ab (tids c ab)).trans oc3
 have rK4:=rK3.same sm4 n4 tids
 have sm5:cI x h h4:=sm3.trans sm4 ab
 have no5:aq h h4:=aq.trans no3 no4 ab ab
 refine an.evF xAc ?_
 refine an.nil ?_
 refine Wp.le (s':=⟨tm [(0,.ptr tid 0),(1,.int .i64 i),(9,.ptr h2.n 0),(12,.int .i64 J),(14,.int .i64 (opg o))],h4⟩) (aM.of (bA ?_) (OLe.refl _) (fun y hy=>hy) (Nat.le_refl _) (Nat.le_refl _)) ?_
 ·exact xSb
 clear cf hnd
 by_cases hA:opg o=(u.pg:Nat)
 ·have e1:decide (opg o=((u.pg:Nat):Int))=true:=decide_eq_true hA
  refine rf0 (qI nn4 x1 x2 oc4 hgo e1 @Int.toNat_natCast @Nat.mul_one @Nat.zero_add @and_self) ?_
  refine Wp.ret ?_
  refine ⟨trivial,.int .i64 (i:Int),?_,s1,o,hQ,sm5,no5,.inl ⟨rfl,?_,g4⟩⟩
  ·simp only[go_sem]
   exact rfl
  ·cases o with
   |none=>simp[opg] at hA
   |some t'=>
    have hA:((t'.pg:Nat):Int)=((u.pg:Nat):Int):=hA
    exact ⟨t',rfl,ab⟩
 ·have e1:decide (opg o=((u.pg:Nat):Int))=false:=decide_eq_false hA
  have hkL:(bR us).length=us.length:=by simp[bR]
  have x3:J+1≤us.length:=by omega
  have hkl':ks.length≤1000:=hsm.2.k
  by_cases hC:o=none∧us.length=1
  ·obtain ⟨hC1,hC2⟩:=hC
   subst hC1
   have e2:decide ((0:Int)≤opg (none:Option (Tr L)))=false:=decide_eq_false (by simp[opg])
   have e3:decide (((us.length:Nat):Int)=1)=true:=decide_eq_true ab
   have ht5:=ht4
   unfold trO at ht5
   refine rf0 (cL nn4 x1 x2 oc4 hgo e1 e2 e3 ht5 @Int.toNat_natCast @Nat.mul_one (cj2 @Nat.zero_add @and_self)) ?_
   refine an.ba (vals:=[.ptr x.P 0,.int .i64 (i:Int)]) ae xA4 (hrel s1 h4 hQ hC2 g4) fun q h5 ⟨hq,s2,g5,sm5',no5',hQ3⟩ n5 _=>?_
   subst hq
   refine an.cJ xA2 xAb (by exact ⟨Nat.le_refl _,Nat.le_refl _⟩) (fc) ?_
   refine an.nil ?_
   refine rf0 @and_self ?_
   refine Wp.ret ?_
   refine ⟨trivial,.int .i64 (-1),?_,s1,none,hQ,sm5.trans sm5' ab,aq.trans no5 no5' ab ab,.inr (.inl ⟨rfl,rfl,hC2,s2,g5,hQ3⟩)⟩
   simp only[go_sem]
   exact rfl
  ·have hne:∀t',o=some t'→t'.pg≠u.pg:=fun t' e e2=>hA (by rw[e,←e2];rfl)
   have hge:o=none→2≤us.length:=fun e=>by
    rcases Nat.lt_or_ge us.length 2 with a|a
    ·exact absurd ⟨e,ab⟩ hC
    ·exact a
   refine Wp.seq (Wp.ex (β:=H × AV × AV) (fun b=>⟨tm [(0,.ptr tid 0),(1,.int .i64 i),(9,.ptr h2.n 0)],b.1⟩) (fun b=>Ndy x T s1 h tid r (fun k=>decide (h.n≤k∧k<h2.n)) h2.n (dks ks J o) (bR (dus us J o)) b) ?_ ?_)
   ·cases o with
    |some t'=>
     have e2:decide ((0:Int)≤opg (some t'))=true:=decide_eq_true (by simp only[opg];omega)
     refine rf0 (cL nn4 x1 x2 x3 hkL oc4 hgo e1 e2 @Int.toNat_natCast @Nat.mul_one (cj3 @Nat.zero_add @and_self @kE)) ?_
     have hs1:List.take J (ints (bR us))++[AV.int IntKind.i64 (opg (some t'))]++List.drop (J+1) (ints (bR us))=ints (bR (nus us J (t',none))):=by
      rw[←yq (R:=(t',none)) rfl];simp[ints,opg]
     rw[hs1]
     have c1:∀j,j≠c→(upd h4.objs c (some (.cells (ints (bR (nus us J (t',none)))))):Nat→Option Av.Obj) j=h4.objs j:=fun j hj=>by simp only[upd];rw[if_neg hj]
     have hkn:us.length=(ints (bR (nus us J (t',none)))).length:=by simp[ints,bR,nus,rt];omega
     refine ⟨(⟨upd h4.objs c (some (.cells (ints (bR (nus us J (t',none)))))),h4.n,h4.toks,h4.m⟩,K,.tsl 1 c 0 us.length none),⟨(c1 h2.n ab).trans nn4,hKc2,rfl,?_,?_,?_,(c1 tid ab).trans ht4,fun j hj a1 a2 a3 a4 a5 a6=>(c1 j ab).trans (sm5 j hj a1 a2 a3 a4 a5 a6),?_,by show h2.n<h4.n;omega,by show h.n≤h4.n;omega⟩,aM.tm ?_⟩
     ·have rK5:dD ⟨upd h4.objs c (some (.cells (ints (bR (nus us J (t',none)))))),h4.n,h4.toks,h4.m⟩ h.n K (strs ks) c:=rK4.keep (Nat.le_refl _) (fun j _ _ hj=>c1 j hj) (fun a _ h=>h)
      exact rK5.unD fun a l c' e=>by have:=hKd a l c' e;simpa using ⟨this.1,this.2.1⟩
     ·show av (unT _ _ (.tsl 1 c 0 us.length none)) (.sl 1 (ints (bR (nus us J (t',none)))) .any)
      rw[hkn]
      exact yr (by simp[upd]) (by simpa using ⟨hc1,hc2⟩)
     ·exact g4.other ab (by have:=tids c ab;simp only[Tid,ne_eq,eq_comm] at this ⊢;exact this)
     ·exact aq.trans no5 (aq.set oc4) ab (Nat.le_refl _)
     ·exact xSb
    |none=>
     have e2:decide ((0:Int)≤opg (none:Option (Tr L)))=false:=decide_eq_false (by simp[opg])
     have e3:decide (((us.length:Nat):Int)=1)=false:=decide_eq_false (by have:=hge rfl;omega)
     have wJ:IntKind.i64.wrap ((J:Int)+1)=((J+1:Nat):Int):=by rw[IntWalk.i64_in _ ab];rfl
     have hg2:=hge rfl
     refine rf0 (cL nn4 x1 x2 oc4 hgo e1 e2 e3 wJ @Int.toNat_natCast @Nat.mul_one (cj2 @Nat.zero_add @and_self)) ?_
     have hdl:=AD (h:=h4) (bR us) J ab ab oc4
     rw[hkL] at hdl
     refine an.ba (vals:=[.tsl 1 c 0 us.length none,.int .i64 (J:Int),.int .i64 ((J+1:Nat):Int)]) ae xA4 hdl fun w h7 ⟨hw,l1,l2,l3,a0,ha0,l4⟩ n7 m7=>?_
     subst hw ha0
     have hwk:(bR us).take J++(bR us).drop (J+1)=bR (wo us J):=by simp[bR,wo]
     rw[hwk]
     have p7:∀j,j≠a0→h7.objs j=h4.objs j:=fun j hn=>by rw[l4 j,if_neg hn]
     have nn7:=(p7 h2.n ab).trans nn4
     have f7:∀j,h7.n≤j→h7.objs j=none:=fun j hj=>by
      rw[l4 j]
      split
      ·rfl
      ·exact g4.fresh j ab
     have g7:PgH x s1 T h7:=g4.at (fun j hj=>by
      have hj2:j<h.n:=by
       rcases Nat.lt_or_ge j h.n with e|e
       ·exact e
       ·exact absurd (dB g e) hj
      exact p7 j ab) ab f7 l3 ab
     have rK7:dD h7 h.n K (strs ks) a0:=rK4.keep ab (fun j _ _ hj=>p7 j hj) (fun a _ h=>h)
     refine an.evF (xAd nn7) ?_
     refine an.nil ?_
     obtain ⟨h8,hh8⟩:∃h8:H,h8= {h7 with objs:=upd h7.objs h2.n (some (.cells [.bool false,K,.sl 1 [] (.exact 0),.sl 1 (ints (bR (wo us J))) .any]))}:=⟨_,rfl⟩
     have c8:∀j,j≠h2.n→h8.objs j=h7.objs j:=fun j hj=>by rw[hh8];simp only[upd];rw[if_neg hj]
     have nn8:h8.objs h2.n=some (.cells [.bool false,K,.sl 1 [] (.exact 0),.sl 1 (ints (bR (wo us J))) .any]):=by rw[hh8];simp[upd]
     have n8:h8.n=h7.n:=by rw[hh8]
     have g8:PgH x s1 T h8:=by
      rw[hh8]
      exact g7.other ab (by have:=tids h2.n ab;simp only[Tid,ne_eq,eq_comm] at this ⊢;exact this)
     have rK8:dD h8 h.n K (strs ks) a0:=rK7.Hj ab (fun a l c' e=>c8 a (by have:=hKd a l c' e;omega))
     rw[←hh8]
     refine Wp.le (s':=⟨tm [(0,.ptr tid 0),(1,.int .i64 i),(9,.ptr h2.n 0),(12,.int .i64 J)],h8⟩) (aM.of (bA ?_) (OLe.refl _) (fun y hy=>hy) (Nat.le_refl _) (Nat.le_refl _)) ?_
     ·exact xSb
     clear hh8
     have wm:IntKind.i64.wrap ((J:Int) - 1)=(J:Int) - 1:=IntWalk.i64_in _ ab
     have em:(if (0:Int)<(J:Int) - 1 then (J:Int) - 1 else 0)=((J - 1:Nat):Int):=by split<;>omega
     have wJ2:IntKind.i64.wrap (((J - 1:Nat):Int)+1)=((J - 1+1:Nat):Int):=by rw[IntWalk.i64_in _ ab];rfl
     refine rf0 (cj5 nn8 hKc wm em wJ2) ?_
     refine an.ba (vals:=[K,.int .i64 ((J - 1:Nat):Int),.int .i64 ((J - 1+1:Nat):Int)]) ae xA4 (AB ks (J - 1) ab ab rK8) fun w h9 ⟨hw,l5,l6,l7,b0,hb0,l8⟩ n9 m9=>?_
     subst hw
     have hb:=hKd _ _ _ hb0
     have p9:∀j,j≠b0→h9.objs j=h8.objs j:=fun j hn=>by rw[l8 j,if_neg hn]
     have nn9:=(p9 h2.n ab).trans nn8
     have f9:∀j,h9.n≤j→h9.objs j=none:=fun j hj=>by
      rw[l8 j]
      split
      ·rfl
      ·exact g8.fresh j ab
     have g9:PgH x s1 T h9:=g8.at (fun j hj=>by
      have hj2:j<h.n:=by
       rcases Nat.lt_or_ge j h.n with e|e
       ·exact e
       ·exact absurd (dB g e) hj
      exact p9 j ab) ab f9 l7 ab
     refine an.evF (xAd nn9) ?_
     refine an.nil ?_
     have cA:∀j,j≠h2.n→(upd h9.objs h2.n (some (.cells [.bool false,.sl 1 (strs (ks.take (J - 1)++ks.drop (J - 1+1))) .any,.sl 1 [] (.exact 0),.sl 1 (ints (bR (wo us J))) .any])):Nat→Option Av.Obj) j=h9.objs j:=fun j hj=>by simp only[upd];rw[if_neg hj]
     have pA:∀j,j≠h2.n→j≠a0→j≠b0→(upd h9.objs h2.n (some (.cells [.bool false,.sl 1 (strs (ks.take (J - 1)++ks.drop (J - 1+1))) .any,.sl 1 [] (.exact 0),.sl 1 (ints (bR (wo us J))) .any])):Nat→Option Av.Obj) j=h4.objs j:=fun j e1 e2 e3=>(cA j e1).trans ((p9 j e3).trans ((c8 j e1).trans (p7 j e2)))
     refine ⟨(⟨upd h9.objs h2.n (some (.cells [.bool false,.sl 1 (strs (ks.take (J - 1)++ks.drop (J - 1+1))) .any,.sl 1 [] (.exact 0),.sl 1 (ints (bR (wo us J))) .any])),h9.n,h9.toks,h9.m⟩,.sl 1 (strs (ks.take (J - 1)++ks.drop (J - 1+1))) .any,.sl 1 (ints (bR (wo us J))) .any),⟨by simp[upd],rfl,rfl,by simp only[unT];exact av.refl _,by simp only[unT];exact av.refl _,?_,(pA tid ab ab ab).trans ht4,?_,?_,by show h2.n<h9.n;omega,by show h.n≤h9.n;omega⟩,aM.tm ?_⟩
     ·exact g9.other ab (by have:=tids h2.n ab;simp only[Tid,ne_eq,eq_comm] at this ⊢;exact this)
     ·exact fun j hj a1 a2 a3 a4 a5 a6=>(pA j ab ab ab).trans (sm5 j hj a1 a2 a3 a4 a5 a6)
     ·refine aq.trans (fun j hj=>?_) (aq.set nn9) (show h.n≤h9.n by omega) (Nat.le_refl _)
      rw[l8 j] at hj
      split at hj
      ·cases hj
      ·by_cases e2:j=h2.n
       ·exact .inr ⟨ab,ab⟩
       ·rw[c8 j e2,l4 j] at hj
        split at hj
        ·cases hj
        ·exact (no5 j hj).imp id fun z=>⟨z.1,ab⟩
     ·exact xSb
   ·rintro b s' nd le
    refine Wp.le le ?_
    have hdK:∀k,decide (h.n≤k∧k<h2.n)=true→h.n≤k∧k<h2.n:=fun k hk=>of_decide_eq_true hk
    have d1:decide (h.n≤tid∧tid<h2.n)=false:=decide_eq_false ab
    have d3:decide (h.n≤h2.n∧h2.n<h2.n)=false:=decide_eq_false ab
    obtain ⟨h8,le8,nn8,g8,ht8,sm8,no8,n8,k8⟩:=nd.go (l:=[(0,.ptr tid 0),(1,.int .i64 i),(9,.ptr h2.n 0)]) (t:=tm [(0,.ptr tid 0),(1,.int .i64 i),(9,.ptr h2.n 0)]) g hdK hlt ab (by
     simp only[bg,go_sem,reduceIte,Nat.reduceEqDiff,unT,d1,d3,Bool.false_eq_true,if_false]
     exact ⟨av.refl _,av.refl _,av.refl _,trivial⟩) (by
     exact xSb
     )
    refine Wp.le le8 ?_
    have nb:=nd.ln
    unfold aC at nn8
    refine rf0 nn8 ?_
    refine an.ba (vals:=[.ptr tid 0,.int .i64 (i:Int),aD (au L (dks ks J o) (dus us J o))]) ae xA4 (hov s1 o h8 hQ g8 ht8 hne hge) fun q h9 ⟨s2,k,hq,g9,sm9,no9,hQ2⟩ n9 _=>?_
    subst hq
    refine an.evF xAc ?_
    refine an.nil ?_
    refine Wp.ret ?_
    refine ⟨trivial,.int .i64 (k:Nat),?_,s1,o,hQ,sm8.trans sm9 ab,aq.trans no8 no9 ab n9,.inr (.inr ⟨hne,hge,s2,k,rfl,g9,hQ2⟩)⟩
    simp only[go_sem]
    exact rfl
end
def ol {L:Nat}:Option (Tr L)→List (Tr L)
 |none=>[]
 |some t=>[t]
def xf (L:Nat):Option (Tr L)→List Pr
 |none=>[]
 |some t=>aP L t
theorem qp {L:Nat} (us:List (Tr L)) (j:Nat) (o:Option (Tr L)):dus us j o=us.take j++(ol o++us.drop (j+1)):=by cases o<;>rfl
theorem ve {L:Nat} {α:Type} (f:Tr L→List α) (us:List (Tr L)) (j:Nat) (o:Option (Tr L)):((dus us j o).map f).flatten=((us.take j).map f).flatten++(((ol o).map f).flatten++((us.drop (j+1)).map f).flatten):=by
 rw[qp,List.map_append,List.flatten_append,List.map_append,List.flatten_append]
theorem CZ {L:Nat} (o:Option (Tr L)):((ol o).map (aW L)).flatten=fj L o:=by cases o<;>simp[ol,fj]
theorem C4 {L:Nat} (o:Option (Tr L)):((ol o).map (aP L)).flatten=xf L o:=by cases o<;>simp[ol,xf]
theorem xg {L:Nat} {lo:Bs} {hi:Option Bs} {ks:List Bs} {us:List (Tr L)} {j:Nat} {o:Option (Tr L)} (hw:bJ (WF L) lo hi ks us) (hr:right (au L ks us)=true) (hz:size (au L ks us)≤1024) (hj:j≤ks.length) (ho:∀t,o=some t→WF L (dQ lo ks j) (eV hi ks j) t) (hn:o=none→2≤us.length) (hp:∀u∈us,u.pg<16384) (hp2:∀u∈ol o,u.pg<16384):
  bJ (WF L) lo hi (dks ks j o) (dus us j o)∧right (au L (dks ks j o) (dus us j o))=true∧size (au L (dks ks j o) (dus us j o))≤1024:=by
 have hul:=hw.len
 cases o with
 |some t=>
  obtain ⟨c1,c2,c3,c4⟩:=nU (R:=(t,none)) hw hr hz hj (ho t rfl) hp (fun u hu=>hp2 u (by simpa [rt,ol] using hu))
  have e:nks ks j ((t,none):Res L)=ks:=by unfold nks rk;simp
  rw[e] at c1 c2 c4
  exact ⟨c1,c2,c4 rfl⟩
 |none=>
  have h2:=hn rfl
  have c:=hw.del (nice L) (j:=j) ab ab
  obtain ⟨r1,-⟩:=(cR (n:=au L ks us) rfl).1 hr
  have r1:mQ ks:=r1
  refine ⟨c,iz c (fun k hk=>r1.1 k ((fN ks (j - 1)).subset hk)) (fun v hv=>hp v ((fN us j).subset hv)),?_⟩
  have e0:size (au L ks us)=7+5*ks.length+tot ks:=rfl
  have e1:size (au L (dks ks j (none:Option (Tr L))) (dus us j none))=7+5*(ks.take (j - 1)++ks.drop (j - 1+1)).length+tot (ks.take (j - 1)++ks.drop (j - 1+1)):=rfl
  rw[e1]
  have s1:=tz (fN ks (j - 1))
  have s2:=(fN ks (j - 1)).length_le
  omega
theorem EE {α:Type} {us:List α} {u:α} (h:us.length=1) {j:Nat} (hu:us[j]? =some u):us.take j=[]∧us.drop (j+1)=[]:=by
 obtain ⟨hj,-⟩:=List.getElem?_eq_some_iff.1 hu
 obtain rfl:j=0:=by omega
 exact ⟨rfl,List.drop_eq_nil_of_le ab⟩
theorem vf {L:Nat} {ks ks':List Bs} {us:List (Tr L)} {i k j:Nat} {u:Tr L} {o:Option (Tr L)} (hu:us[j]? =some u) (h:∀t,o=some t→∀j,fh L j t≤fh L j u∧exT L j t≤exT L j u) (jj:Nat):
  fh (L+1) jj (mkT L k ks' (dus us j o))≤fh (L+1) jj (mkT L i ks us)∧exT (L+1) jj (mkT L k ks' (dus us j o))≤exT (L+1) jj (mkT L i ks us):=by
 obtain ⟨hj,-⟩:=List.getElem?_eq_some_iff.1 hu
 have hlen:(dus us j o).length≤us.length:=by
  rw[qp]
  cases o<;>simp[ol] <;>omega
 have key:∀f:Tr L→Nat,(∀t,o=some t→f t≤f u)→((dus us j o).map f).sum≤(us.map f).sum:=by
  intro f hf
  have:=CU f hu (ol o)
  rw[qp]
  have h2:((ol o).map f).sum≤f u:=by
   cases o with
   |none=>simp[ol]
   |some t=>simpa [ol] using hf t rfl
  omega
 rw[fp,fp,gu,gu]
 constructor
 ·split
  ·exact Nat.le_refl _
  ·exact key _ fun t e=>(h t e jj).1
 ·split
  ·show (dus us j o).length - 5≤us.length - 5
   omega
  ·exact key _ fun t e=>(h t e jj).2
section
variable {x:PgI} {T:List Nat}
def xh (x:PgI) (T:List Nat) (L:Nat) (t:Tr L) (lo:Bs) (hi:Option Bs) (s:PgS) (h:H) (tid d:Nat) (r:Int) (key:Bs):Prop:=
 PgH x s T h→cu s→h.objs tid=some (trO x r)→Tid x tid→Live s L lo hi t→inB lo hi key→(∃p∈aP L t,p.k=key)→d+L≤20→L+1≤free s→s.p.length+16*(L+1)<900000→
  aJ Tryz.prog 46 [.ptr tid 0,.int .i64 (t.pg:Nat),.int .i64 (d:Nat),.str key] h fun q h'=>∃s' o,q= .int .i64 (opg o)∧Stp x T s h (fun j=>j∈aW L t) (fun j=>j∈fj L o) (L+1) s' h'∧yu L lo hi t key s' o
theorem xi {L:Nat} {i:Nat} {ks:List Bs} {us:List (Tr L)} {lo:Bs} {hi:Option Bs} {s:PgS} {h:H} {tid d:Nat} {r:Int} {key:Bs} (ih:∀(u:Tr L) lo hi h,xh x T L u lo hi s h tid (d+1) r key):xh x T (L+1) (mkT L i ks us) lo hi s h tid d r key:=by
  intro g ok ht htx lv hb hex hd hf hp
  obtain ⟨hr,hz,hw⟩:=lv.wf
  have hw:bJ (WF L) lo hi ks us:=hw
  have hr:right (au L ks us)=true:=hr
  have hz:size (au L ks us)≤1024:=hz
  obtain ⟨hs,hi'⟩:=lv.st i (by show i∈i::bp (L+1) us;simp)
  obtain ⟨pa1,pa2,pa3⟩:=gC (key:=key) hr
  obtain ⟨u,hu,wu,-⟩:=hw.at pa3
  obtain ⟨cp1,cp2,cp3⟩:=iR hw hb _ pa3 pa1 pa2
  have hum:u∈us:=List.mem_of_getElem? hu
  have hpg:=gg (i:=i) (ks:=ks) hu
  have hnd:=lv.nd
  have hst:=lv.st
  rw[hpg] at hnd hst
  have hpr:aP (L+1) (mkT L i ks us)=((us.take (place (au L ks us) key)).map (aP L)).flatten++(aP L u++((us.drop (place (au L ks us) key+1)).map (aP L)).flatten):=ng (f:=aP L) hu
  have hexu:∃p∈aP L u,p.k=key:=by
   obtain ⟨p,hp,e⟩:=hex
   rw[hpr] at hp
   simp only[List.mem_append] at hp
   rcases hp with hp|hp|hp
   ·exact absurd e (ne_of_lt (cp1 p hp))
   ·exact ⟨p,hp,e⟩
   ·exact absurd e.symm (ne_of_lt (cp2 p hp))
  have hon:∀u∈us,On s L u:=dL.1 lv.on.2
  have lu:Live s L (dQ lo ks (place (au L ks us) key)) (eV hi ks (place (au L ks us) key)) u:=by
   refine ⟨hon u hum,wu,?_,fun j hj=>hst j (by simp[hj])⟩
   simp only[List.nodup_cons,List.nodup_append] at hnd
   exact hnd.2.2.1.1
  have hpA:∀v∈us,v.pg<16384:=fun v hv=>by
   have:=(lv.st v.pg (by
    show v.pg∈i::bp (L+1) us
    exact List.mem_cons_of_mem _ (gD hv _ (by simp[aW])))).2
   have:=ok.np1
   omega
  have hH:Has s i (au L ks us):=lv.on.1
  have prep:∀s1 (o:Option (Tr L)),Mv s s1 (fun j=>j∈aW L u) (fun j=>j∈fj L o)→yu L (dQ lo ks (place (au L ks us) key)) (eV hi ks (place (au L ks us) key)) u key s1 o→(o=none→2≤us.length)→
    bJ (WF L) lo hi (dks ks (place (au L ks us) key) o) (dus us (place (au L ks us) key) o)∧right (au L (dks ks (place (au L ks us) key) o) (dus us (place (au L ks us) key) o))=true∧size (au L (dks ks (place (au L ks us) key) o) (dus us (place (au L ks us) key) o))≤1024:=by
   intro s1 o o2 o5 hn
   have md:=nV o2 hnd o5.nd hst
   refine xg hw hr hz pa3 o5.wf hn hpA fun v hv=>?_
   cases o with
   |none=>simp[ol] at hv
   |some t=>
    simp only[ol,List.mem_singleton] at hv
    subst hv
    have:=(md.st v.pg (by simp[fj,aW])).2
    have:=ok.np1
    omega
  have W:=AM (Q:=fun s1 o=>cu s1∧Mv s s1 (fun j=>j∈aW L u) (fun j=>j∈fj L o)∧free s≤free s1+(L+1)∧s1.p.length≤s.p.length+8*(L+1)∧yu L (dQ lo ks (place (au L ks us) key)) (eV hi ks (place (au L ks us) key)) u key s1 o)
   (Q2:=fun s1 o s2 k=>cu s2∧Mv s1 s2 (fun j=>j=i) (fun j=>j=k)∧free s1≤free s2+1∧s2.p.length≤s1.p.length+8∧Has s2 k (au L (dks ks (place (au L ks us) key) o) (dus us (place (au L ks us) key) o)))
   (Q3:=fun s1 s2=>cu s2∧Mv s1 s2 (fun j=>j=i) (fun _=>False)∧free s1≤free s2∧s2.p.length≤s1.p.length) g ok ht htx hi' hs hH hr hz hu pa3 ab ab
   (fun h1 g1 ht1=>(ih u _ _ h1 g1 ok ht1 htx lu cp3 hexu ab ab ab).mono fun q h' ⟨s1,o,e,st,pr⟩=>⟨s1,o,e,st.pg,st.sm,st.no,st.ok,st.mv,st.fr,st.pl,pr⟩)
   (fun s1 o h1 ⟨o1,o2,o3,o4,o5⟩ g1 ht1 hne hge=>by
    have md:=nV o2 hnd o5.nd hst
    obtain ⟨c1,c2,c3⟩:=prep s1 o o2 o5 hge
    have e1:=(md.bt i (.inl rfl)).1
    have e2:=o2.np
    have sm:=cx (L:=L+1) (ks:=dks ks (place (au L ks us) key) o) (kids:=dus us (place (au L ks us) key) o) c2 (by show size (au L _ _)≤1355;omega)
    exact (tN g1 o1 ht1 htx sm.1 (mi c2 c3) ab ab ab ab).mono fun q h' ⟨s2,k,e,st,hh⟩=>⟨s2,k,e,st.pg,st.sm,st.no,st.ok,st.mv,st.fr,st.pl,hh⟩)
   (fun s1 h1 ⟨o1,o2,o3,o4,o5⟩ h1' g1=>by
    have md:=nV o2 hnd o5.nd hst
    have e1:=(md.bt i (.inl rfl)).1
    have e2:=o2.np
    exact (CY g1 o1 (i:=i) ab ab).mono fun q h' ⟨e,s2,st⟩=>⟨e,s2,st.pg,st.sm,st.no,st.ok,st.mv,st.fr,by have:=st.pl;omega⟩)
  obtain ⟨q,h',ca,n1,m1,s1,o,⟨o1,o2,o3,o4,o5⟩,sm,no,cs⟩:=W
  refine ⟨q,h',ca,n1,m1,?_⟩
  clear ca ih
  have md:=nV o2 hnd o5.nd hst
  have hpo:xf L o=eE (aP L u) key:=by
   have:=o5.ps
   cases o<;>exact this
  have hps:((dus us (place (au L ks us) key) o).map (aP L)).flatten=eE (aP (L+1) (mkT L i ks us)) key:=by
   rw[hpr,r7 cp1 cp2,ve,C4,hpo]
  have hkA:∀v∈dus us (place (au L ks us) key) o,On s1 L v:=by
   intro v hv
   rw[qp] at hv
   simp only[List.mem_append] at hv
   rcases hv with hv|hv|hv
   ·exact (hon v (List.mem_of_mem_take hv)).congr fun j hj=>(md.bt j (.inr (.inl (gD hv j hj)))).2
   ·cases o with
    |none=>simp[ol] at hv
    |some t=>simp only[ol,List.mem_singleton] at hv;subst hv;exact o5.on v rfl
   ·exact (hon v (List.mem_of_mem_drop hv)).congr fun j hj=>(md.bt j (.inr (.inr (gD hv j hj)))).2
  have hpn:bp (L+1) (dus us (place (au L ks us) key) o)=((us.take (place (au L ks us) key)).map (aW L)).flatten++(fj L o++((us.drop (place (au L ks us) key+1)).map (aW L)).flatten):=by
   rw[eW,ve,CZ]
  have prep2:=prep s1 o o2 o5
  clear prep
  generalize hJ:place (au L ks us) key=J at*
  rcases cs with ⟨rfl,⟨t',e1,e2⟩,gp⟩|⟨rfl,e1,e2,s2,gp,u1,u2,u3,u4⟩|⟨hne,hge,s2,k,rfl,gp,u1,u2,u3,u4,u5⟩
  ·subst e1
   obtain ⟨c1,c2,c3⟩:=prep2 (fun e=>by cases e)
   have hin:au L ks (dus us J (some t'))=au L ks us:=vd (R:=(t',none)) hu e2 rfl ks
   refine ⟨s1,some (mkT L i ks (dus us J (some t'))),rfl,⟨gp,o1,md.mv.congr (fun j=>by rw[hpg]) (fun j=>?_),ab,ab,sm,no,n1⟩,⟨fun t e=>?_,fun t e=>?_,?_,?_,fun t e j=>?_⟩⟩
   ·show j∈(i::bp (L+1) (dus us J (some t')))↔_
    rw[hpn]
   ·cases e
    refine ⟨?_,dL.2 hkA⟩
    show Has s1 i (au L ks (dus us J (some t')))
    rw[hin]
    exact hH.congr (md.bt i (.inl rfl)).2
   ·cases e
    exact ⟨c2,c3,c1⟩
   ·show ((dus us J (some t')).map (aP L)).flatten=_
    rw[hps]
   ·show (i::bp (L+1) (dus us J (some t'))).Nodup
    rw[hpn]
    exact md.nd
   ·cases e
    exact vf hu o5.cnt j
  ·subst e1
   obtain ⟨w1,w2⟩:=EE e2 hu
   have hq0:∀j,j∈bp (L+1) (dus us J none)→¬j=i:=by
    intro j hj e
    rw[hpn] at hj
    subst e
    exact (List.nodup_cons.1 md.nd).1 hj
   have m1':Mv s s1 (fun j=>j∈aW (L+1) (mkT L i ks us)) (fun j=>j=i):=md.mv.congr (fun j=>by rw[hpg]) (fun j=>by rw[w1,w2];simp[fj])
   refine ⟨s2,none,rfl,⟨gp,u1,(m1'.trans u2).congr (fun j=>Iff.rfl) (fun j=>by simp[fj]),ab,ab,sm,no,n1⟩,⟨fun t e=>(by cases e),fun t e=>(by cases e),?_,List.nodup_nil,fun t e=>(by cases e)⟩⟩
   show []=_
   rw[←hps,qp,w1,w2]
   simp[ol]
  ·obtain ⟨c1,c2,c3⟩:=prep2 hge
   have hq0:∀j,j∈bp (L+1) (dus us J o)→¬j=i:=by
    intro j hj e
    rw[hpn] at hj
    subst e
    exact (List.nodup_cons.1 md.nd).1 hj
   have hq1:∀j,j∈bp (L+1) (dus us J o)→stt s1 j≠0:=by
    intro j hj
    rw[hpn] at hj
    have:=(md.st j (List.mem_cons_of_mem _ hj)).1
    omega
   have ap:=u2.apart (Q:=fun j=>j∈bp (L+1) (dus us J o)) hq0 hq1
   have mm:=u2.ext (Q:=fun j=>j∈bp (L+1) (dus us J o)) hq0 hq1
   have m1':Mv s s1 (fun j=>j∈aW (L+1) (mkT L i ks us)) (fun j=>j=i∨j∈bp (L+1) (dus us J o)):=md.mv.congr (fun j=>by rw[hpg]) (fun j=>by rw[hpn];simp)
   have hnk:(bp (L+1) (dus us J o)).Nodup:=by rw[hpn];exact (List.nodup_cons.1 md.nd).2
   have hk2:∀v∈dus us J o,On s2 L v:=fun v hv=>(hkA v hv).congr fun j hj=>(ap j (by rw[eW];exact gD hv j hj)).2.2
   refine ⟨s2,some (mkT L k (dks ks J o) (dus us J o)),rfl,⟨gp,u1,(m1'.trans mm).congr (fun j=>Iff.rfl) (fun j=>?_),ab,ab,sm,no,n1⟩,⟨fun t e=>?_,fun t e=>?_,?_,?_,fun t e j=>?_⟩⟩
   ·show j∈(k::bp (L+1) (dus us J o))↔_
    simp
   ·cases e
    exact ⟨u5,dL.2 hk2⟩
   ·cases e
    exact ⟨c2,c3,c1⟩
   ·show ((dus us J o).map (aP L)).flatten=_
    rw[hps]
   ·show (k::bp (L+1) (dus us J o)).Nodup
    exact List.nodup_cons.2 ⟨fun hm=>(ap _ hm).1 rfl,hnk⟩
   ·cases e
    exact vf hu o5.cnt j
theorem C5:∀(L:Nat) (t:Tr L) (lo:Bs) (hi:Option Bs) (s:PgS) (h:H) (tid d:Nat) (r:Int) (key:Bs),xh x T L t lo hi s h tid d r key
 |0,t,lo,hi,s,h,tid,d,r,key=>fun g ok ht htx lv hb hex hd hf hp=>by
  obtain ⟨i,ks,vs⟩:=(t:Nd Bs)
  obtain ⟨h1,h2,h3,h4⟩:=lv.wf
  obtain ⟨hs,hi'⟩:=lv.st i (by simp[aW])
  refine (AK (lo:=lo) (hi:=hi) g ok ht htx hi' hs lv.on.1 h1 h2 h4 ((qn h1).2 hex) ab hf ab).mono ?_
  rintro q h' ⟨s',o,rfl,st,pr⟩
  exact ⟨s',o,rfl,⟨st.pg,st.ok,st.mv.congr (fun j=>by simp[aW,bp]) (fun j=>Iff.rfl),st.fr,st.pl,st.sm,st.no,st.ln⟩,pr⟩
 |L+1,t,lo,hi,s,h,tid,d,r,key=>xi (i:=t.pg) (ks:=t.ks) (us:=t.kids) fun u lo hi h=>C5 L u lo hi s h tid (d+1) r key
end
abbrev Rt:=Option ((L:Nat) × Tr L)
def rpg:Rt→Int
 |none=> -1
 |some ⟨_,t⟩=>(t.pg:Nat)
def bw:Rt→List Nat
 |none=>[]
 |some ⟨L,t⟩=>aW L t
def aG:Rt→List Pr
 |none=>[]
 |some ⟨L,t⟩=>aP L t
def Bnd (L:Nat) (t:Tr L) (B:Nat):Prop:=∃c:Nat→Nat,c 0≤B∧(∀j,j≤L→fh L j t≤c j)∧(∀j,j<L→2*c (j+1)+exT L (j+1) t≤c j)
def ROk (s:PgS) (B:Nat):Rt→Prop
 |none=>True
 |some ⟨L,t⟩=>Live s L [] none t∧Bnd L t B
theorem pc:∀(L:Nat) (t:Tr L),fh L L t=1
 |0,_=>rfl
 |L+1,t=>by rw[fp];simp
theorem yv {L:Nat} {t:Tr L} {B:Nat} (h:Bnd L t B):2^L≤B:=by
 obtain ⟨c,h0,h1,h2⟩:=h
 have key:∀k,k≤L→2^k≤c (L - k):=by
  intro k hk
  induction k with
  |zero=>
   have:=h1 L (Nat.le_refl _)
   rw[pc] at this
   simpa using this
  |succ k ih=>
   have a:=ih ab
   have b:=h2 (L - (k+1)) ab
   rw[show L - (k+1)+1=L - k by omega] at b
   rw[Nat.pow_succ]
   omega
 have:=key L (Nat.le_refl _)
 rw[Nat.sub_self] at this
 omega
def gE (f:Nat→Nat):Nat→Nat
 |0=>0
 |n+1=>gE f n+f n
theorem vg (f g:Nat→Nat):∀n,gE (fun j=>f j+g j) n=gE f n+gE g n
 |0=>rfl
 |n+1=>by simp only[gE,vg f g n];omega
theorem qq {f g:Nat→Nat}:∀n,(∀j,j<n→f j=g j)→gE f n=gE g n
 |0,_=>rfl
 |n+1,h=>by rw[gE,gE,qq n fun j hj=>h j ab,h n ab]
theorem sj:∀n,gE (fun _=>0) n=0
 |0=>rfl
 |n+1=>by simp[gE,sj n]
theorem sn {L:Nat} (n:Nat):∀us:List (Tr L),gE (fun j=>(us.map (fh L j)).sum) n=(us.map fun u=>gE (fun j=>fh L j u) n).sum
 |[]=>sj n
 |u::us=>by
  have:=sn n us
  simp only[List.map_cons,List.sum_cons]
  rw[vg,this]
theorem C6 {L:Nat} (ih:∀u:Tr L,(aW L u).length=gE (fun j=>fh L j u) (L+1)) (us:List (Tr L)):((us.map (aW L)).flatten).length=gE (fun j=>(us.map (fh L j)).sum) (L+1):=by
 rw[sn]
 induction us with
 |nil=>rfl
 |cons u us iv=>simp only[List.map_cons,List.flatten_cons,List.length_append,List.sum_cons,iv,ih u]
theorem so:∀(L:Nat) (t:Tr L),(aW L t).length=gE (fun j=>fh L j t) (L+1)
 |0,t=>by simp[aW,bp,gE,fh]
 |L+1,t=>by
  have e:=C6 (so L) t.kids
  have e2:(aW (L+1) t).length=(bp (L+1) t.kids).length+1:=rfl
  have e3:(bp (L+1) t.kids).length=gE (fun j=>((t.kids:List (Tr L)).map (fh L j)).sum) (L+1):=e
  rw[e2,e3]
  show _=gE (fun j=>fh (L+1) j t) (L+1)+fh (L+1) (L+1) t
  rw[pc]
  congr 1
  refine qq _ fun j hj=>?_
  rw[fp,if_neg ab]
theorem yw {c:Nat→Nat}:∀L,(∀j,j<L→2*c (j+1)≤c j)→gE c (L+1)+c L≤2*c 0
 |0,_=>by simp[gE];omega
 |L+1,h=>by
  have:=yw L fun j hj=>h j ab
  have h2:=h L ab
  rw[gE]
  omega
theorem yy {f g:Nat→Nat}:∀{n:Nat},(∀j,j<n→f j≤g j)→gE f n≤gE g n
 |0,_=>Nat.le_refl _
 |n+1,h=>by
  rw[gE,gE]
  have:=yy (n:=n) fun j hj=>h j ab
  have:=h n ab
  omega
theorem AN {L:Nat} {t:Tr L} {B:Nat} (h:Bnd L t B):(aW L t).length≤2*B:=by
 obtain ⟨c,h0,h1,h2⟩:=h
 rw[so]
 have a:=yy (f:=fun j=>fh L j t) (g:=c) (n:=L+1) fun j hj=>h1 j ab
 have b:=yw (c:=c) L fun j hj=>by have:=h2 j hj;omega
 omega
theorem EF {L:Nat} {t:Tr L} {B:Nat} (h:Bnd L t B) (hB:B≤121):L≤6:=by
 have:=yv h
 rcases Nat.lt_or_ge L 7 with e|e
 ·omega
 ·have:=Nat.pow_le_pow_right (n:=2) ah e
  omega
section
variable {x:PgI} {s:PgS} {T:List Nat} {h:H}
theorem sq {id g:Nat} {fn:Func} {caps:List AV} {Q:AV→H→Prop} (ho:oE h id) (hg:Tryz.prog.funcs[g]? =some fn) (hb:fn.body.isSome=true) (hn:fn.name≠ "runtime.NumGoroutine") (hc:aJ Tryz.prog g caps h Q):
  aJ Tryz.prog 34 [.ptr id 0,.clo (.func g) [] caps] h fun q h'=>q= .int .i64 0∧∃r,Q r h':=by
 obtain ⟨r,h',a,b,c,d⟩:=hc
 exact ⟨_,h',FP (first:=[]) ho hg hb hn a,b,c,rfl,r,d⟩
theorem C7 {id g:Nat} {fn:Func} {caps:List AV} {k:Int} {Q:H→Prop} (ho:oE h id) (hg:Tryz.prog.funcs[g]? =some fn) (hb:fn.body.isSome=true) (hn:fn.name≠ "runtime.NumGoroutine") (hc:∃h',eD Tryz.prog g caps h (ly k) h'∧h.n≤h'.n∧h.m≤h'.m∧Q h'):
  aJ Tryz.prog 34 [.ptr id 0,.clo (.func g) [] caps] h fun q h'=>q= .int .i64 k∧Q h':=by
 obtain ⟨h',a,b,c,d⟩:=hc
 exact ⟨_,h',Ei (first:=[]) ho hg hb hn a,b,c,rfl,d⟩
end
theorem C8 {L:Nat} {t:Tr L} {R0:Res L} {B:Nat} (hp:Pot L t R0) (hb:Bnd L t B) (hn:R0.2=none):Bnd L R0.1 (B+1):=by
 obtain ⟨e,p0,p1,p2,p3,p4⟩:=hp
 obtain ⟨c,h0,h1,h2⟩:=hb
 have hs:∀f:Tr L→Nat,iF f R0=f R0.1:=fun f=>by unfold iF;rw[hn];rfl
 refine ⟨fun j=>c j+e j,by have:=p0 0;simp only;omega,fun j hj=>?_,fun j hj=>?_⟩
 ·have a:=p3 j hj
  have b:=h1 j hj
  rw[hs] at a
  simp only;omega
 ·have a:=p4 j hj
  have b:=h2 j hj
  rw[hs] at a
  simp only;omega
theorem Da {L:Nat} {t:Tr L} {R0:Res L} {B k:Nat} {q:Bs × Tr L} (hp:Pot L t R0) (hb:Bnd L t B) (hn:R0.2=some q):Bnd (L+1) (mkT L k [q.1] [R0.1,q.2]) (B+1):=by
 obtain ⟨e,p0,p1,p2,p3,p4⟩:=hp
 obtain ⟨c,h0,h1,h2⟩:=hb
 have hs:∀f:Tr L→Nat,iF f R0=(([R0.1,q.2]:List (Tr L)).map f).sum:=fun f=>by unfold iF;rw[hn];simp
 refine ⟨fun j=>if j=L+1 then 1 else c j+e j,by have:=p0 0;simp;omega,fun j hj=>?_,fun j hj=>?_⟩
 ·by_cases ej:j=L+1
  ·subst ej
   rw[pc];simp
  ·simp only[ej,if_false]
   have a:=p3 j ab
   have b:=h1 j ab
   rw[hs] at a
   have e2:fh (L+1) j (mkT L k [q.1] [R0.1,q.2])=(([R0.1,q.2]:List (Tr L)).map (fh L j)).sum:=by rw[fp,if_neg ej];rfl
   rw[e2];omega
 ·have n1:¬(j=L+1):=by omega
  simp only[n1,if_false]
  by_cases ej:j+1=L+1
  ·obtain rfl:j=L:=by omega
   simp only[if_true]
   have e2:exT (j+1) (j+1) (mkT j k [q.1] [R0.1,q.2])=0:=by rw[gu,if_pos rfl];rfl
   have b:=h1 j (Nat.le_refl _)
   rw[pc] at b
   have:=p2 q hn
   omega
  ·simp only[ej,if_false]
   have a:=p4 j ab
   have b:=h2 j ab
   rw[hs] at a
   have e2:exT (L+1) (j+1) (mkT L k [q.1] [R0.1,q.2])=(([R0.1,q.2]:List (Tr L)).map (exT L (j+1))).sum:=by rw[gu,if_neg ej];rfl
   rw[e2];omega
structure Ts (x:PgI) (T:List Nat) (tid:Nat) (s:PgS) (R:Rt) (B:Nat) (h:H):Prop where
 pg:PgH x s T h
 ok:cu s
 ot:h.objs tid=some (trO x (rpg R))
 tx:Tid x tid
 rk:ROk s B R
def eX (x:PgI) (tid:Nat) (h h':H):Prop:=∀j,j<h.n→Tid x j→j≠tid→h'.objs j=h.objs j
theorem eX.of {x:PgI} {tid:Nat} {h h':H} (a:cI x h h'):eX x tid h h':=fun j hj a1 _=>cD a hj a1
theorem eX.trans {x:PgI} {tid:Nat} {h h1 h':H} (a:eX x tid h h1) (b:eX x tid h1 h') (n:h.n≤h1.n):eX x tid h h':=fun j hj a1 a2=>(b j ab a1 a2).trans (a j hj a1 a2)
theorem eX.set {x:PgI} {tid:Nat} {h:H} {o:Option Av.Obj}:eX x tid h {h with objs:=upd h.objs tid o}:=fun j _ _ a2=>by simp only[upd];rw[if_neg a2]
theorem Ts.lt {x:PgI} {T:List Nat} {tid:Nat} {s:PgS} {R:Rt} {B:Nat} {h:H} (g:Ts x T tid s R B h):tid<h.n:=by
 rcases Nat.lt_or_ge tid h.n with q|q
 ·exact q
 ·have:=g.pg.fresh _ q;rw[g.ot] at this;cases this
theorem PgH.qt {x:PgI} {s:PgS} {T:List Nat} {h:H} (g:PgH x s T h) {tid:Nat} (tx:Tid x tid) (hl:tid<h.n) (o:Av.Obj):PgH x s T {h with objs:=upd h.objs tid (some o)}:=
 g.other hl (by simp only[Tid,ne_eq,eq_comm] at tx ⊢;exact tx)
theorem PgH.ltn {x:PgI} {s:PgS} {T:List Nat} {h:H} (g:PgH x s T h) {j:Nat} (hj:(h.objs j).isSome=true):j<h.n:=by
 rcases Nat.lt_or_ge j h.n with q|q
 ·exact q
 ·rw[g.fresh _ q] at hj;cases hj
structure eL (x:PgI) (T:List Nat) (tid:Nat) (s:PgS) (R:Rt) (h:H) (B:Nat) (s':PgS) (R':Rt) (h':H):Prop where
 ts:Ts x T tid s' R' B h'
 mv:Mv s s' (fun j=>j∈bw R) (fun j=>j∈bw R')
 pl:s'.p.length≤s.p.length+200
 sm:eX x tid h h'
 no:aq h h'
 ln:h.n≤h'.n
section
variable {x:PgI} {s:PgS} {T:List Nat} {h:H}
set_option maxHeartbeats 2000000 in
theorem AP {tid b0 b1 b2 B:Nat} {key vl:Bs} (g:Ts x T tid s none B h) (h0:h.objs b0=some (.cells [.ptr tid 0])) (h1:h.objs b1=some (.cells [.str key])) (h2:h.objs b2=some (.cells [.str vl])) (t0:Tid x b0)
  (hk:key.length≤128) (hv:vl.length≤200) (hf:1≤free s) (hp:s.p.length+200<900000):
  aJ Tryz.prog 54 [.ptr b1 0,.ptr b2 0,.ptr b0 0] h fun q h'=>∃s' R',eL x T tid s none h (B+1) s' R' h'∧aG R'=gf [] key vl:=by
 refine f54.bC af ?_
 unfold c54 zz
 have d1:decide ((128:Int)<(key.length:Int))=false:=decide_eq_false ab
 have d2:decide ((200:Int)<(vl.length:Int))=false:=decide_eq_false ab
 have ot:h.objs tid=some (.cells [.ptr x.P 0,.int .i64 (-1)]):=g.ot
 have d3:decide ((-1:Int)<0)=true:=by decide
 have hr:right (aB [key] [vl])=true:=by
  refine (bD (n:=aB [key] [vl]) rfl).2 ⟨⟨fun k hk'=>?_,List.pairwise_singleton _ _⟩,rfl,rfl,fun v hv'=>?_⟩
  ·obtain rfl:=List.mem_singleton.1 hk';exact hk
  ·obtain rfl:=List.mem_singleton.1 hv';exact hv
 have hz:size (aB [key] [vl])≤1024:=by
  rw[size_leaf rfl]
  simp[aB,tot];omega
 have hsm:=cx (L:=0) (ks:=[key]) (kids:=[vl]) hr (by show size (aB [key] [vl])≤1355;omega)
 refine rf0 (cj7 h0 h1 h2 ot d1 d2 d3) ?_
 refine Wp.reg ?_
 refine ao.part 7 (xAd (cj5 h0 h1 h2 @and_self @decide_true)) ?_
 simp only[List.drop_succ_cons,List.drop_zero,List.drop_nil]
 have hc:=tM g.pg g.ok g.ot hsm.1 (mi hr hz) ab ab
 refine ao.FA (b:=b0) (vals:=[.ptr tid 0,aD (aB [key] [vl])]) ae (by
  simp only[go_sem,reduceIte,Nat.reduceEqDiff,List.map]
  exact ay.cons (av.refl _) (ay.cons (av.bF (ks:=[key]) (vs:=[vl]) (is:=[])) ay.nil)) (fun j hj=>g.pg.ltn hj) (g.pg.ltn (by rw[h0];rfl)) hc (fun r h' ⟨s',k,e,st,hh⟩=>⟨st.no,cD st.sm (g.pg.ltn (by rw[h0];rfl)) t0⟩) fun r h3 ⟨s',k,e,st,hh⟩ n3 m3=>?_
 subst e
 have ot3:h3.objs tid=some (.cells [.ptr x.P 0,.int .i64 (-1)]):=(cD st.sm g.lt g.tx).trans ot
 refine ao.part 3 (xAe ot3) ?_
 simp only[List.drop_succ_cons,List.drop_zero,List.drop_nil]
 refine ao.nil ⟨by simp[bf,aQ,apart,aX],?_⟩
 refine Wp.ret ?_
 have mk:=st.mv.new k rfl id
 refine ⟨trivial,.tup [],?_,s',some ⟨0,⟨k,[key],[vl]⟩⟩,⟨⟨st.pg.qt g.tx (by have:=g.lt;omega) _,st.ok,?_,g.tx,⟨⟨⟨hh,trivial⟩,⟨hr,hz,by show 0<1;decide,fun k' hk'=>?_⟩,by simp[aW,bp],fun j hj=>?_⟩,?_⟩⟩,st.mv.congr (fun j=>by simp[bw]) (fun j=>by simp[bw,aW,bp]),by have:=st.pl;omega,(eX.of st.sm).trans eX.set st.ln,aq.trans st.no (aq.set ot3) st.ln (Nat.le_refl _),st.ln⟩,?_⟩
 ·simp[dg,rvs]
 ·simp[upd,trO,rpg]
 ·obtain rfl:=List.mem_singleton.1 hk'
  exact ⟨dh _,fun _ e=>by cases e⟩
 ·have e:j=k:=by simpa [aW,bp] using hj
  subst e
  have:=st.mv.np
  exact ⟨.inr mk.2.1,ab⟩
 ·refine ⟨fun _=>1,by simp only;omega,fun j hj=>?_,fun j hj=>absurd hj (Nat.not_lt_zero _)⟩
  obtain rfl:j=0:=by omega
  exact Nat.le_refl _
 ·simp[aG,aP,mh,gf]
  rfl
end
section
variable {x:PgI} {s:PgS} {T:List Nat} {h:H}
theorem Db {L k:Nat} {t1 t2:Tr L} {key:Bs} (h:qo L [] none (t1,some (key,t2))) (hp1:t1.pg<16384) (hp2:t2.pg<16384):bJ (WF L) [] none [key] [t1,t2]∧right (au L [key] [t1,t2])=true∧size (au L [key] [t1,t2])≤1024:=by
 have c:bJ (WF L) [] none [key] [t1,t2]:=sf h
 have hl:key.length≤128:=h.2.2.2.2
 refine ⟨c,iz c (fun k hk=>?_) (fun u hu=>?_),?_⟩
 ·obtain rfl:=List.mem_singleton.1 hk;exact hl
 ·simp only[List.mem_cons,List.not_mem_nil,or_false] at hu
  rcases hu with rfl|rfl
  ·exact hp1
  ·exact hp2
 ·have e:size (au L [key] [t1,t2])=7+5*1+tot [key]:=rfl
  rw[e]
  simp[tot];omega
set_option maxHeartbeats 2000000 in
theorem AQ {L tid b0 b1 b2 B:Nat} {t:Tr L} {key vl:Bs} (g:Ts x T tid s (some ⟨L,t⟩) B h) (h0:h.objs b0=some (.cells [.ptr tid 0])) (h1:h.objs b1=some (.cells [.str key])) (h2:h.objs b2=some (.cells [.str vl])) (t0:Tid x b0) (n0:b0≠tid)
  (hk:key.length≤128) (hv:vl.length≤200) (hL:L≤6) (hf:2*L+3≤free s) (hp:s.p.length+200<900000):
  aJ Tryz.prog 54 [.ptr b1 0,.ptr b2 0,.ptr b0 0] h fun q h'=>∃s' R',eL x T tid s (some ⟨L,t⟩) h (B+1) s' R' h'∧aG R'=gf (aP L t) key vl:=by
 refine f54.bC af ?_
 unfold c54 zz
 have d1:decide ((128:Int)<(key.length:Int))=false:=decide_eq_false ab
 have d2:decide ((200:Int)<(vl.length:Int))=false:=decide_eq_false ab
 have ot:h.objs tid=some (.cells [.ptr x.P 0,.int .i64 ((t.pg:Nat):Int)]):=g.ot
 have d3:decide (((t.pg:Nat):Int)<0)=false:=decide_eq_false ab
 obtain ⟨lv,bd⟩:Live s L [] none t∧Bnd L t B:=g.rk
 refine rf0 (cj7 h0 h1 h2 ot d1 d2 d3) ?_
 refine Wp.reg ?_
 refine ao.part 7 (xAe (cj4 h0 h1 h2 ot)) ?_
 simp only[List.drop_succ_cons,List.drop_zero,List.drop_nil]
 have hc:=E9 (x:=x) (T:=T) L t [] none s h tid 1 ((t.pg:Nat):Int) key vl g.pg g.ok g.ot g.tx lv ⟨dh _,fun _ e=>by cases e⟩ hk hv ab ab ab
 refine ao.ba (vals:=[.ptr tid 0,.int .i64 (t.pg:Nat),.int .i64 ((1:Nat):Int),.str key,.str vl]) ae xA4 (fun j hj=>g.pg.ltn hj) hc (fun r h' ⟨s',R,e,st,hh⟩=>st.no) fun r h3 ⟨s1,R,e,st,pr⟩ n3 m3=>?_
 subst e
 have lt0:=g.pg.ltn (j:=b0) (by rw[h0];rfl)
 have lt1:=g.pg.ltn (j:=b1) (by rw[h1];rfl)
 have lt2:=g.pg.ltn (j:=b2) (by rw[h2];rfl)
 have ltt:=g.lt
 have ot3:h3.objs tid=some (.cells [.ptr x.P 0,.int .i64 ((t.pg:Nat):Int)]):=(cD st.sm g.lt g.tx).trans ot
 have h03:h3.objs b0=some (.cells [.ptr tid 0]):=(cD st.sm lt0 t0).trans h0
 unfold lH CP
 refine ao.part 6 xA1 ?_
 simp only[List.drop_succ_cons,List.drop_zero,List.drop_nil]
 rw[bB]
 refine ao.nil ⟨by simp[bf,aQ,apart,aX];exact ⟨ab,ab,ab,ab,fun id a=>by omega⟩,?_⟩
 obtain ⟨t1,o⟩:=R
 have g4:=st.pg.new (.cells [.str (spK o),.int .i64 (spP o)])
 have ln4:(H.new h3 (.cells [.str (spK o),.int .i64 (spP o)])).n=h3.n+1:=rfl
 have ot4:(H.new h3 (.cells [.str (spK o),.int .i64 (spP o)])).objs tid=_:=(aO ab).trans ot3
 have h04:(H.new h3 (.cells [.str (spK o),.int .i64 (spP o)])).objs b0=_:=(aO ab).trans h03
 have sm4:cI x h (H.new h3 (.cells [.str (spK o),.int .i64 (spP o)])):=st.sm.trans cS n3
 have no4:aq h (H.new h3 (.cells [.str (spK o),.int .i64 (spP o)])):=aq.trans st.no bP n3 (Nat.le_succ _)
 have nn4:=bZ (h:=h3) (o:= .cells [.str (spK o),.int .i64 (spP o)])
 refine Wp.le (s':=⟨tm [(2,.ptr b0 0),(3,.int .i64 (t1.pg:Nat)),(4,.ptr h3.n 0)],H.new h3 (.cells [.str (spK o),.int .i64 (spP o)])⟩) (aM.of (bA ?_) (OLe.refl _) (fun y hy=>hy) (Nat.le_refl _) (Nat.le_refl _)) ?_
 ·exact xSb
 generalize H.new h3 (.cells [.str (spK o),.int .i64 (spP o)])=h4 at*
 have hps:=pr.ps
 have hin:∀j∈cy L (t1,o),(stt s1 j=1∨stt s1 j=2)∧j<s1.np:=by
  intro j hj
  have hnp:=st.mv.np
  by_cases hjt:j∈aW L t
  ·have q:=st.mv.stay j hj hjt
   have:=lv.st j hjt
   omega
  ·have q:=st.mv.new j hj hjt
   omega
 cases o with
 |none=>
  have e3:decide (0≤spP (none:Option (Bs × Tr L)))=false:=decide_eq_false (by simp[spP])
  refine rf0 (cj4 nn4 e3 h04 ot4) ?_
  refine ⟨trivial,.tup [],by simp[dg,rvs],s1,some ⟨L,t1⟩,⟨⟨g4.qt g.tx ab _,st.ok,by simp[upd,trO,rpg],g.tx,⟨⟨pr.on,pr.wf,by have:=pr.nd;simpa [cy,more] using this,fun j hj=>hin j (by simpa [cy,more] using hj)⟩,C8 pr.pot bd rfl⟩⟩,st.mv.congr (fun j=>Iff.rfl) (fun j=>by simp[bw,cy,more]),by have:=st.pl;omega,(eX.of sm4).trans eX.set ab,aq.trans no4 (aq.set ot4) ab (Nat.le_refl _),by show h.n≤h4.n;omega⟩,?_⟩
  rw[←hps]
  simp[aG,kG,more]
 |some q=>
  have e3:decide (0≤spP (some q))=true:=decide_eq_true (by simp only[spP];omega)
  have np1:=st.ok.np1
  obtain ⟨c1,c2,c3⟩:=Db (k:=0) (t1:=t1) (t2:=q.2) (key:=q.1) pr.wf (by have:=(hin t1.pg (by simp[cy,aW])).2;omega) (by have:=(hin q.2.pg (by simp[cy,more,aW])).2;omega)
  have hsm:=cx (L:=L+1) (ks:=[q.1]) (kids:=([t1,q.2]:List (Tr L))) c2 (by show size (au L [q.1] [t1,q.2])≤1355;omega)
  have fr:=st.fr
  have pl:=st.pl
  refine rf0 (cj6 nn4 e3 h04 ot4 @and_self @decide_true) ?_
  have hcf:=tM (n:=au L [q.1] [t1,q.2]) g4 st.ok ot4 hsm.1 (mi c2 c3) ab ab
  refine an.ba (vals:=[.ptr tid 0,aD (au L [q.1] [t1,q.2])]) ae (by
   simp only[go_sem,reduceIte,Nat.reduceEqDiff,List.map]
   exact ay.cons (av.refl _) (ay.cons (av.bF (ks:=[q.1]) (vs:=[]) (is:=[((t1.pg:Nat):Int),((q.2.pg:Nat):Int)])) ay.nil)) hcf fun r h5 ⟨s2,k,e,st2,hh⟩ n5 m5=>?_
  subst e
  have ot5:h5.objs tid=some (.cells [.ptr x.P 0,.int .i64 ((t.pg:Nat):Int)]):=(cD st2.sm ab g.tx).trans ot4
  have h05:h5.objs b0=some (.cells [.ptr tid 0]):=(cD st2.sm ab t0).trans h04
  refine an.evF xAc ?_
  refine an.nil ?_
  refine rf0 (cj2 h05 ot5) ?_
  have mk:=st2.mv.new k rfl id
  have hq0:∀j,j∈cy L (t1,some q)→stt s1 j≠0:=fun j hj=>by have:=(hin j hj).1;omega
  have ap:=st2.mv.apart (Q:=fun j=>j∈cy L (t1,some q)) (fun _ _=>id) hq0
  have mm:=st.mv.trans ((st2.mv.ext (Q:=fun j=>j∈cy L (t1,some q)) (fun _ _=>id) hq0).congr (A:=fun j=>j∈cy L (t1,some q)) (A':=fun j=>j=k∨j∈cy L (t1,some q)) (fun j=>by simp) (fun j=>Iff.rfl))
  have hpg:aW (L+1) (mkT L k [q.1] [t1,q.2])=k::cy L (t1,some q):=by
   show k::(([t1,q.2]:List (Tr L)).map (aW L)).flatten=_
   simp[cy,more]
  have hun:∀u∈([t1,q.2]:List (Tr L)),On s2 L u:=fun u hu=>by
   simp only[List.mem_cons,List.not_mem_nil,or_false] at hu
   rcases hu with rfl|rfl
   ·exact pr.on.congr fun j hj=>(ap j (by simp[cy,hj])).2.2
   ·exact (pr.on2 q rfl).congr fun j hj=>(ap j (by simp[cy,more,hj])).2.2
  have hpl2:=st2.pl
  have hnp2:=st2.mv.np
  refine ⟨trivial,.tup [],by simp[dg,rvs],s2,some ⟨L+1,mkT L k [q.1] [t1,q.2]⟩,⟨⟨st2.pg.qt g.tx ab _,st2.ok,by simp[upd,trO,rpg,mkT],g.tx,⟨⟨⟨hh,(dL (us:=([t1,q.2]:List (Tr L)))).2 hun⟩,⟨c2,c3,c1⟩,?_,fun j hj=>?_⟩,Da pr.pot bd rfl⟩⟩,mm.congr (fun j=>Iff.rfl) (fun j=>?_),ab,(eX.of (sm4.trans st2.sm ab)).trans eX.set ab,aq.trans (aq.trans no4 st2.no ab ab) (aq.set ot5) ab (Nat.le_refl _),by show h.n≤h5.n;omega⟩,?_⟩
  ·rw[hpg]
   exact List.nodup_cons.2 ⟨fun hm=>(ap k hm).1 rfl,pr.nd⟩
  ·rw[hpg] at hj
   rcases List.mem_cons.1 hj with rfl|hj
   ·exact ⟨.inr mk.2.1,ab⟩
   ·have a:=ap j hj
    have b:=hin j hj
    omega
  ·show j∈aW (L+1) (mkT L k [q.1] [t1,q.2])↔_
   rw[hpg];simp
  ·rw[←hps]
   show (([t1,q.2]:List (Tr L)).map (aP L)).flatten=_
   simp[kG,more]
end
section
variable {x:PgI} {s:PgS} {T:List Nat} {h:H}
theorem Dc {b0 b1 b2:Nat} {key vl:Bs} (h1:h.objs b1=some (.cells [.str key])) (h2:h.objs b2=some (.cells [.str vl])) (hk:128<key.length∨200<vl.length):
  ∃h',eD Tryz.prog 54 [.ptr b1 0,.ptr b2 0,.ptr b0 0] h (ly 2) h'∧h.n≤h'.n∧h.m≤h'.m∧h'=h:=by
 obtain ⟨v,h',hc,⟨hn,hm⟩,rfl,rfl⟩:=aY.pO (Q:=fun v h'=>v=ly 2∧h'=h) (args:=[.ptr b1 0,.ptr b2 0,.ptr b0 0]) (h:=h) f54 af (by
  unfold c54 zz
  refine Wp.seq ?_
  by_cases ha:128<key.length
  ·have d1:decide ((128:Int)<(key.length:Int))=true:=decide_eq_true ab
   refine Wp.bu (by simp only[go_sem,reduceIte,Nat.reduceEqDiff,Nat.reduceAdd,bx,h1,h2,d1];exact rfl) ?_
   refine an.nil ?_
   refine Wp.cond_true (by simp only[go_sem,reduceIte,Nat.reduceEqDiff]) ?_
   refine Wp.vX (bT.eval (dK xA1) ?_)
   refine bT.here (R:=fun v h'=>∃v',aV.panic v= .panic v'∧v'=ly 2∧h'=h) (en:=aX) rfl (bV _) (fun ops i o ho hit=>fY ho hit rfl rfl rfl) (fun l hl=>by cases hl) ?_
   exact ⟨_,rfl,rfl,rfl⟩
  ·have d1:decide ((128:Int)<(key.length:Int))=false:=decide_eq_false ab
   have d2:decide ((200:Int)<(vl.length:Int))=true:=decide_eq_true ab
   refine Wp.bu (by simp only[go_sem,reduceIte,Nat.reduceEqDiff,Nat.reduceAdd,bx,h1,h2,d1,d2];exact rfl) ?_
   refine an.nil ?_
   refine Wp.cond_true (by simp only[go_sem,reduceIte,Nat.reduceEqDiff]) ?_
   refine Wp.vX (bT.eval (dK xA1) ?_)
   refine bT.here (R:=fun v h'=>∃v',aV.panic v= .panic v'∧v'=ly 2∧h'=h) (en:=aX) rfl (bV _) (fun ops i o ho hit=>fY ho hit rfl rfl rfl) (fun l hl=>by cases hl) ?_
   exact ⟨_,rfl,rfl,rfl⟩)
 exact ⟨_,hc,hn,hm,rfl⟩
theorem ROk.more {R:Rt} {B B':Nat} (h:ROk s B R) (hB:B≤B'):ROk s B' R:=by
 cases R with
 |none=>trivial
 |some r=>
  obtain ⟨L,t⟩:=r
  obtain ⟨lv,c,h0,h1,h2⟩:=h
  exact ⟨lv,c,ab,h1,h2⟩
theorem Ts.keep {tid:Nat} {R:Rt} {B B':Nat} {h':H} (g:Ts x T tid s R B h) (pg:PgH x s T h') (k:h'.objs tid=h.objs tid) (hB:B≤B'):Ts x T tid s R B' h':=⟨pg,g.ok,k.trans g.ot,g.tx,g.rk.more hB⟩
theorem eL.pre {tid:Nat} {R R':Rt} {B:Nat} {s':PgS} {h1 h':H} (m:eL x T tid s R h1 B s' R' h') (sm:eX x tid h h1) (no:aq h h1) (ln:h.n≤h1.n):eL x T tid s R h B s' R' h':=
 ⟨m.ts,m.mv,m.pl,sm.trans m.sm ln,aq.trans no m.no ln m.ln,Nat.le_trans ln m.ln⟩
theorem eL.none {tid:Nat} {R:Rt} {B:Nat} {h':H} (g:Ts x T tid s R B h') (sm:eX x tid h h') (no:aq h h') (ln:h.n≤h'.n):eL x T tid s R h B s R h':=
 ⟨g,Mv.same rfl rfl rfl rfl,ab,sm,no,ln⟩
theorem gh {tid:Nat} {R:Rt} {B:Nat} (g:Ts x T tid s R B h):oE h tid:=⟨_,_,_,g.ot⟩
structure fR (x:PgI) (T:List Nat) (tid:Nat) (s:PgS) (R:Rt) (B:Nat) (h h1:H):Prop where
 ts:Ts x T tid s R B h1
 sm:eX x tid h h1
 no:aq h h1
 ln:h.n≤h1.n
 kp:∀j,j<h.n→h1.objs j=h.objs j
theorem fR.refl {tid:Nat} {R:Rt} {B:Nat} (g:Ts x T tid s R B h):fR x T tid s R B h h:=⟨g,fun _ _ _ _=>rfl,aq.refl h,Nat.le_refl _,fun _ _=>rfl⟩
theorem fR.new {tid:Nat} {R:Rt} {B:Nat} {h1:H} (b:fR x T tid s R B h h1) (o:Av.Obj):fR x T tid s R B h (H.new h1 o):=
 ⟨b.ts.keep (b.ts.pg.new o) (aO b.ts.lt) (Nat.le_refl _),b.sm.trans (eX.of cS) b.ln,aq.trans b.no bP b.ln (Nat.le_succ _),Nat.le_succ_of_le b.ln,fun j hj=>(aO (Nat.lt_of_lt_of_le hj b.ln)).trans (b.kp j hj)⟩
set_option maxHeartbeats 1000000 in
theorem Fa {tid B:Nat} {R:Rt} {key vl:Bs} (g:Ts x T tid s R B h) (hL:∀L t,R=some ⟨L,t⟩→L≤6) (hf:1≤free s∧∀L t,R=some ⟨L,t⟩→2*L+3≤free s) (hp:s.p.length+200<900000):
  aJ Tryz.prog 24 [.ptr tid 0,.str key,.str vl] h fun q h'=>∃s' R',eL x T tid s R h (B+1) s' R' h'∧((key.length≤128∧vl.length≤200∧q= .int .i64 0∧aG R'=gf (aG R) key vl)∨((128<key.length∨200<vl.length)∧q= .int .i64 2∧R'=R∧s'=s)):=by
 refine f24.bC af ?_
 unfold c24 zz
 have bb:=(((fR.refl g).new (.cells [.ptr tid 0])).new (.cells [.str key])).new (.cells [.str vl])
 have lt:=g.lt
 have ln3:(H.new (H.new (H.new h (.cells [.ptr tid 0])) (.cells [.str key])) (.cells [.str vl])).n=h.n+1+1+1:=rfl
 have e0:(H.new (H.new (H.new h (.cells [.ptr tid 0])) (.cells [.str key])) (.cells [.str vl])).objs h.n=some (.cells [.ptr tid 0]):=(aO (Nat.lt_succ_of_lt (Nat.lt_succ_self _))).trans ((aO (Nat.lt_succ_self _)).trans bZ)
 have e1:(H.new (H.new (H.new h (.cells [.ptr tid 0])) (.cells [.str key])) (.cells [.str vl])).objs (h.n+1)=some (.cells [.str key]):=(aO (Nat.lt_succ_self _)).trans (bZ (h:=H.new h (.cells [.ptr tid 0])))
 have e2:(H.new (H.new (H.new h (.cells [.ptr tid 0])) (.cells [.str key])) (.cells [.str vl])).objs (h.n+1+1)=some (.cells [.str vl]):=bZ (h:=H.new (H.new h (.cells [.ptr tid 0])) (.cells [.str key]))
 refine Wp.bu (xAd @and_self) ?_
 refine an.nil ?_
 refine Wp.le (s':=⟨tm [(3,.ptr h.n 0),(4,.ptr (h.n+1) 0),(5,.ptr (h.n+1+1) 0)],H.new (H.new (H.new h (.cells [.ptr tid 0])) (.cells [.str key])) (.cells [.str vl])⟩) (aM.of (bA ?_) (OLe.refl _) (fun y hy=>hy) (Nat.le_refl _) (Nat.le_refl _)) ?_
 ·exact xSb
 generalize H.new (H.new (H.new h (.cells [.ptr tid 0])) (.cells [.str key])) (.cells [.str vl])=h3 at*
 have key2:aJ Tryz.prog 34 [.ptr tid 0,.clo (.func 54) [] [.ptr (h.n+1) 0,.ptr (h.n+1+1) 0,.ptr h.n 0]] h3 fun q h'=>∃s' R',eL x T tid s R h3 (B+1) s' R' h'∧((key.length≤128∧vl.length≤200∧q= .int .i64 0∧aG R'=gf (aG R) key vl)∨((128<key.length∨200<vl.length)∧q= .int .i64 2∧R'=R∧s'=s)):=by
  by_cases hs:key.length≤128∧vl.length≤200
  ·obtain ⟨hk,hv⟩:=hs
   have hc:aJ Tryz.prog 54 [.ptr (h.n+1) 0,.ptr (h.n+1+1) 0,.ptr h.n 0] h3 fun q h'=>∃s' R',eL x T tid s R h3 (B+1) s' R' h'∧aG R'=gf (aG R) key vl:=by
    cases R with
    |none=>exact AP bb.ts e0 e1 e2 (dB g.pg (Nat.le_refl _)) hk hv hf.1 hp
    |some r=>
     obtain ⟨L,t⟩:=r
     exact AQ bb.ts e0 e1 e2 (dB g.pg (Nat.le_refl _)) ab hk hv (hL L t rfl) (hf.2 L t rfl) hp
   refine (sq (gh bb.ts) Tryz.func54 rfl (of_decide_eq_true (by kernel_rfl)) hc).mono ?_
   rintro q h' ⟨rfl,r,s',R',m,e⟩
   exact ⟨s',R',m,.inl ⟨hk,hv,rfl,e⟩⟩
  ·have hs2:128<key.length∨200<vl.length:=by omega
   refine (C7 (Q:=fun h'=>h'=h3) (gh bb.ts) Tryz.func54 rfl (of_decide_eq_true (by kernel_rfl)) (Dc e1 e2 hs2)).mono ?_
   rintro q h' ⟨rfl,rfl⟩
   exact ⟨s,R,eL.none (bb.ts.keep bb.ts.pg rfl (Nat.le_succ _)) (fun _ _ _ _=>rfl) (aq.refl _) (Nat.le_refl _),.inr ⟨hs2,rfl,rfl,rfl⟩⟩
 refine rf0 e0 ?_
 refine an.ba (vals:=[.ptr tid 0,.clo (.func 54) [] [.ptr (h.n+1) 0,.ptr (h.n+1+1) 0,.ptr h.n 0]]) ae xA4 key2 fun q h4 ⟨s',R',m,cs⟩ n4 _=>?_
 refine an.evF xAc ?_
 refine an.nil ?_
 refine rf0 @and_self ?_
 refine Wp.ret ?_
 refine ⟨trivial,q,?_,s',R',m.pre bb.sm bb.no bb.ln,cs⟩
 simp only[go_sem]
 exact rfl
end
section
variable {x:PgI} {s:PgS} {T:List Nat}
def oH (x:PgI) (T:List Nat) (s:PgS) (f:FuncId) (args:List AV) (h:H) (k:Int):Prop:=∃h',eD Tryz.prog f args h (ly k) h'∧(h.n≤h'.n∧h.m≤h'.m)∧PgH x s T h'∧Kept h h'∧aq h h'
theorem xj {L:Nat} {ks:List Bs} {us:List (Tr L)} {key:Bs} (hr:right (au L ks us)=true) (hn:Nb (au L ks us)):
  bj Tryz.prog 42 [aD (au L ks us),.str key] (.tup [.int .i64 (place (au L ks us) key:Nat),.bool false]):=by
 have f:=nI (au L ks us) hn key
 have e1:dU (au L ks us) key=place (au L ks us) key:=by unfold dU;rw[if_pos hr]
 have e2:bI (au L ks us) key=false:=by unfold bI found;simp[au]
 rw[e1,e2] at f
 exact f
theorem vi:∀(L:Nat) (t:Tr L) (lo:Bs) (hi:Option Bs) (h:H) (tid d:Nat) (r:Int) (key:Bs),PgH x s T h→cu s→h.objs tid=some (trO x r)→Live s L lo hi t→inB lo hi key→(∀p∈aP L t,p.k≠key)→d+L≤20→s.p.length<900000→
  oH x T s 46 [.ptr tid 0,.int .i64 (t.pg:Nat),.int .i64 (d:Nat),.str key] h 7
 |0,t,lo,hi,h,tid,d,r,key,g,ok,ht,lv,hb,hno,hd,hp=>by
  obtain ⟨i,ks,vs⟩:=(t:Nd Bs)
  obtain ⟨hr,hz,h3,h4⟩:=lv.wf
  have hr:right (aB ks vs)=true:=hr
  have hz:size (aB ks vs)≤1024:=hz
  obtain ⟨hs,hi'⟩:=lv.st i (by simp[aW])
  have hH:Has s i (aB ks vs):=lv.on.1
  have hfo:bI (aB ks vs) key=false:=by
   cases e:bI (aB ks vs) key with
   |false=>rfl
   |true=>
    obtain ⟨p,hp,e2⟩:=(qn hr).1 e
    exact absurd e2 (hno p hp)
  have hsm:=cx (L:=0) hr (by show size (aB ks vs)≤1355;omega)
  have cp:=Cg (aB ks vs) hsm.1 hsm.2 key
  rw[hfo] at cp
  have e9:oB (aB ks vs) key=iu:=by unfold oB;rw[hfo];rfl
  rw[e9] at cp
  have hnd:=iY g ok ht hi' (by show stt s i≠0;omega) hp ab hH.1
  rw[hH.2] at hnd
  obtain ⟨v,h',hc,hn,rfl,hq⟩:=aY.pO (Q:=fun v h'=>v=ly 7∧PgH x s T h'∧Kept h h'∧aq h h') (args:=[.ptr tid 0,.int .i64 (i:Nat),.int .i64 (d:Nat),.str key]) (h:=h) f46 af (by
   unfold c46 zz
   refine rf0 @and_self ?_
   refine an.ba (vals:=[.ptr tid 0,.int .i64 (i:Int),.int .i64 (d:Int)]) ae xA4 hnd fun q h2 ⟨hq,g2,k2,no2⟩ n2 _=>?_
   subst hq
   have g3:=(g2.new (aC (aB ks vs))).new (aC iu)
   have k3:Kept h (H.new (H.new h2 (aC (aB ks vs))) (aC iu)):=fun j hj=>(aO (Nat.lt_succ_of_lt ab)).trans ((aO ab).trans (k2 j hj))
   have no3:aq h (H.new (H.new h2 (aC (aB ks vs))) (aC iu)):=aq.trans no2 (aq.trans bP bP (Nat.le_succ _) (Nat.le_succ _)) ab (Nat.le_add_right _ 2)
   unfold aD at cp
   unfold aD
   refine an.evF xAc ?_
   rw[bB]
   refine an.nil ?_
   have hlf:(aB ks vs).leaf=true:=rfl
   refine Wp.seq ?_
   refine Wp.bu (xAd hlf) ?_
   refine an.nil ?_
   refine Wp.cond_true (by simp only[go_sem,reduceIte,Nat.reduceEqDiff,Nat.reduceAdd,bx,hlf]) ?_
   refine Wp.bu (xAd @and_self) ?_
   refine an.cb ae xA4 cp ?_
   refine an.evF xAc ?_
   rw[bB]
   refine an.nil ?_
   refine Wp.le (s':=⟨tm [(11,.bool false)],H.new (H.new h2 (aC (aB ks vs))) (aC iu)⟩) (aM.of (bA ?_) (OLe.refl _) (fun y hy=>hy) (Nat.le_refl _) (Nat.le_refl _)) ?_
   ·exact xSb
   have ln3:(H.new (H.new h2 (aC (aB ks vs))) (aC iu)).n=h2.n+1+1:=rfl
   generalize H.new (H.new h2 (aC (aB ks vs))) (aC iu)=h3 at*
   refine Wp.seq (Wp.seq ?_)
   refine Wp.dd (xAd @Bool.not_false) ?_
   refine an.nil ?_
   refine Wp.cond_true (by simp only[go_sem,reduceIte,Nat.reduceEqDiff,Nat.reduceAdd,bx,Bool.not_false]) ?_
   refine Wp.vX (bT.eval (dK xA1) ?_)
   refine bT.here (R:=fun v h'=>∃v',aV.panic v= .panic v'∧v'=ly 7∧PgH x s T h'∧Kept h h'∧aq h h') (en:=aX) rfl (bV _) (fun ops i o ho hit=>fY ho hit rfl rfl rfl) (fun l hl=>by cases hl) ?_
   exact ⟨_,rfl,rfl,g3,k3,no3⟩)
  exact ⟨h',hc,hn,hq⟩
 |L+1,t,lo,hi,h,tid,d,r,key,g,ok,ht,lv,hb,hno,hd,hp=>by
  obtain ⟨i,ks,us'⟩:=t
  have key0:∀us:List (Tr L),Live s (L+1) lo hi (mkT L i ks us)→(∀p∈aP (L+1) (mkT L i ks us),p.k≠key)→oH x T s 46 [.ptr tid 0,.int .i64 (i:Nat),.int .i64 (d:Nat),.str key] h 7:=by
   intro us lv hno
   obtain ⟨hr,hz,hw⟩:=lv.wf
   have hw:bJ (WF L) lo hi ks us:=hw
   have hr:right (au L ks us)=true:=hr
   have hz:size (au L ks us)≤1024:=hz
   obtain ⟨hs,hi'⟩:=lv.st i (by show i∈i::bp (L+1) us;simp)
   obtain ⟨pa1,pa2,pa3⟩:=gC (key:=key) hr
   obtain ⟨u,hu,wu,-⟩:=hw.at pa3
   obtain ⟨cp1,cp2,cp3⟩:=iR hw hb _ pa3 pa1 pa2
   have hum:u∈us:=List.mem_of_getElem? hu
   have hpg:=gg (i:=i) (ks:=ks) hu
   have hnd:=lv.nd
   have hst:=lv.st
   rw[hpg] at hnd hst
   have hpr:aP (L+1) (mkT L i ks us)=((us.take (place (au L ks us) key)).map (aP L)).flatten++(aP L u++((us.drop (place (au L ks us) key+1)).map (aP L)).flatten):=ng (f:=aP L) hu
   have hnu:∀p∈aP L u,p.k≠key:=fun p hp=>hno p (by rw[hpr];simp[hp])
   have lu:Live s L (dQ lo ks (place (au L ks us) key)) (eV hi ks (place (au L ks us) key)) u:=by
    refine ⟨(dL.1 lv.on.2) u hum,wu,?_,fun j hj=>hst j (by simp[hj])⟩
    simp only[List.nodup_cons,List.nodup_append] at hnd
    exact hnd.2.2.1.1
   have hH:Has s i (au L ks us):=lv.on.1
   have hsm:=cx (L:=L+1) (ks:=ks) (kids:=us) hr (by show size (au L ks us)≤1355;omega)
   have cf:=xj (key:=key) hr hsm.1
   have hnd2:=iY (d:=d) g ok ht hi' (by show stt s i≠0;omega) hp ab hH.1
   rw[hH.2] at hnd2
   have hul:us.length=ks.length+1:=hw.len
   generalize hJ:place (au L ks us) key=J at*
   obtain ⟨v,h',hc,hn,rfl,hq⟩:=aY.pO (Q:=fun v h'=>v=ly 7∧PgH x s T h'∧Kept h h'∧aq h h') (args:=[.ptr tid 0,.int .i64 (i:Nat),.int .i64 (d:Nat),.str key]) (h:=h) f46 af (by
    unfold c46 zz
    have hlt:tid<h.n:=g.ltn (by rw[ht];rfl)
    have x1:(0:Int)≤(J:Int):=by omega
    have x2:(J:Int)<((au L ks us).kids.length:Int):=by simp[au];omega
    have wd:IntKind.i64.wrap ((d:Int)+1)=((d+1:Nat):Int):=by rw[IntWalk.i64_in _ ab];rfl
    have hgo:(ints (au L ks us).kids).getD J .any= .int .i64 (u.pg:Nat):=by
     have:(bR us)[J]? =some ((u.pg:Nat):Int):=by simp[bR,hu]
     show (ints (bR us)).getD J .any=_
     simp[ints,List.getD,this]
    refine rf0 @and_self ?_
    refine an.ba (vals:=[.ptr tid 0,.int .i64 (i:Int),.int .i64 (d:Int)]) ae xA4 hnd2 fun q h2 ⟨hq,g2,k2,no2⟩ n2 _=>?_
    subst hq
    have g3:=g2.new (aC (au L ks us))
    have k3:Kept h (H.new h2 (aC (au L ks us))):=fun j hj=>(aO ab).trans (k2 j hj)
    have no3:aq h (H.new h2 (aC (au L ks us))):=aq.trans no2 bP ab (Nat.le_succ _)
    have nn3:=bZ (h:=h2) (o:=aC (au L ks us))
    have ln3:(H.new h2 (aC (au L ks us))).n=h2.n+1:=rfl
    have ht3:(H.new h2 (aC (au L ks us))).objs tid=some (trO x r):=(k3 tid hlt).trans ht
    unfold aD at cf
    unfold aD
    refine an.evF xAc ?_
    rw[bB]
    refine an.nil ?_
    refine Wp.le (s':=⟨tm [(0,.ptr tid 0),(1,.int .i64 i),(2,.int .i64 d),(3,.str key),(9,.ptr h2.n 0)],H.new h2 (aC (au L ks us))⟩) (aM.of (bA ?_) (OLe.refl _) (fun y hy=>hy) (Nat.le_refl _) (Nat.le_refl _)) ?_
    ·exact xSb
    generalize H.new h2 (aC (au L ks us))=h3 at*
    obtain ⟨h4,hc4,hn4,g4,k4,no4⟩:=vi L u _ _ h3 tid (d+1) r key g3 ok ht3 lu cp3 hnu ab hp
    unfold aC at nn3
    have hlf:(au L ks us).leaf=false:=rfl
    rw[hlf] at nn3 cf
    refine Wp.seq ?_
    refine Wp.bu (by simp only[go_sem,reduceIte,Nat.reduceEqDiff,Nat.reduceAdd,bx,nn3];exact rfl) ?_
    refine an.nil ?_
    refine Wp.cond_false (by simp only[go_sem,reduceIte,Nat.reduceEqDiff]) ?_
    refine Wp.skip ?_
    refine Wp.bu (by simp only[go_sem,reduceIte,Nat.reduceEqDiff,Nat.reduceAdd,bx,nn3];exact rfl) ?_
    refine an.cb ae xA4 cf ?_
    refine an.evF xAc ?_
    refine an.nil ?_
    refine Wp.uE (by simp only[go_sem,reduceIte,Nat.reduceEqDiff,Nat.reduceAdd,bx,nn3,x1,x2,hgo,wd,and_self,if_true,Int.toNat_natCast];exact rfl) xA4 hn4 hc4 ?_
    exact ⟨_,rfl,rfl,g4,fun j hj=>(k4 j ab).trans (k3 j hj),aq.trans no3 no4 ab hn4.1⟩)
   exact ⟨h',hc,hn,hq⟩
  exact key0 us' lv hno
end
section
variable {x:PgI} {s:PgS} {T:List Nat} {h:H}
def lev:Rt→Nat
 |none=>0
 |some ⟨L,_⟩=>L
structure Dn (x:PgI) (T:List Nat) (tid:Nat) (s:PgS) (R0:Rt) (B:Nat) (h:H) (ps:List Pr) (R:Rt) (s1:PgS) (h1:H):Prop where
 pg:PgH x s1 T h1
 ok:cu s1
 ot:h1.objs tid=some (trO x (rpg R0))
 rk:ROk s1 B R
 ps:aG R=ps
 mv:Mv s s1 (fun j=>j∈bw R0) (fun j=>j∈bw R)
 pl:s1.p.length≤s.p.length+200
 sm:cI x h h1
 no:aq h h1
 ln:h.n≤h1.n
theorem EG {L:Nat} {B i:Nat} {ks:List Bs} {u:Tr L} (h:Bnd (L+1) (mkT L i ks [u]) B):Bnd L u B:=by
 obtain ⟨c,h0,h1,h2⟩:=h
 refine ⟨c,h0,fun j hj=>?_,fun j hj=>?_⟩
 ·have:=h1 j ab
  rw[fp,if_neg ab] at this
  have e:(((mkT L i ks [u]).kids:List (Tr L)).map (fh L j)).sum=fh L j u:=by
   show (([u]:List (Tr L)).map (fh L j)).sum=_
   simp
  omega
 ·have:=h2 j ab
  rw[gu,if_neg ab] at this
  have e:(((mkT L i ks [u]).kids:List (Tr L)).map (exT L (j+1))).sum=exT L (j+1) u:=by
   show (([u]:List (Tr L)).map (exT L (j+1))).sum=_
   simp
  omega
set_option maxHeartbeats 2000000 in
theorem xk {L tid b0 b1 B:Nat} {t:Tr L} {key:Bs} (g:Ts x T tid s (some ⟨L,t⟩) B h) (h0:h.objs b0=some (.cells [.ptr tid 0])) (h1:h.objs b1=some (.cells [.str key])) (t0:Tid x b0) (n0:b0≠tid)
  (hex:∃p∈aP L t,p.k=key) (hL:L≤6) (hf:L+1≤free s) (hp:s.p.length+200<900000):
  aJ Tryz.prog 45 [.ptr b0 0,.ptr b1 0] h fun q h'=>∃s' R',eL x T tid s (some ⟨L,t⟩) h B s' R' h'∧aG R'=eE (aP L t) key:=by
 refine f45.bC af ?_
 unfold c45 zz
 have ot:h.objs tid=some (.cells [.ptr x.P 0,.int .i64 ((t.pg:Nat):Int)]):=g.ot
 have d3:decide (((t.pg:Nat):Int)<0)=false:=decide_eq_false ab
 obtain ⟨lv,bd⟩:Live s L [] none t∧Bnd L t B:=g.rk
 have lt0:=g.pg.ltn (j:=b0) (by rw[h0];rfl)
 have ltt:=g.lt
 refine rf0 (cj4 h0 h1 ot d3) ?_
 refine Wp.reg ?_
 refine ao.part 6 (xAe (cj3 h0 h1 ot)) ?_
 simp only[List.drop_succ_cons,List.drop_zero,List.drop_nil]
 have hc:=C5 (x:=x) (T:=T) L t [] none s h tid 1 ((t.pg:Nat):Int) key g.pg g.ok g.ot g.tx lv ⟨dh _,fun _ e=>by cases e⟩ hex ab ab ab
 refine ao.ba (vals:=[.ptr tid 0,.int .i64 (t.pg:Nat),.int .i64 ((1:Nat):Int),.str key]) ae xA4 (fun j hj=>g.pg.ltn hj) hc (fun r h' ⟨s',R,e,st,hh⟩=>st.no) fun r h3 ⟨s1,o,e,st,pr⟩ n3 m3=>?_
 subst e
 refine ao.part 1 xA1 ?_
 simp only[List.drop_succ_cons,List.drop_zero,List.drop_nil]
 refine ao.nil ⟨by simp[bf,aQ,apart,aX],?_⟩
 have D0:∃R:Rt,rpg R=opg o∧lev R≤L∧Dn x T tid s (some ⟨L,t⟩) B h (eE (aP L t) key) R s1 h3:=by
  have hps:=pr.ps
  have hin:∀j∈fj L o,(stt s1 j=1∨stt s1 j=2)∧j<s1.np:=by
   intro j hj
   have hnp:=st.mv.np
   by_cases hjt:j∈aW L t
   ·have q:=st.mv.stay j hj hjt
    have:=lv.st j hjt
    omega
   ·have q:=st.mv.new j hj hjt
    omega
  cases o with
  |none=>exact ⟨none,rfl,Nat.zero_le _,st.pg,st.ok,(cD st.sm ltt g.tx).trans g.ot,trivial,hps,st.mv.congr (fun j=>Iff.rfl) (fun j=>by simp[bw,fj]),by have:=st.pl;omega,st.sm,st.no,st.ln⟩
  |some t'=>
   obtain ⟨c,c0,c1,c2⟩:=bd
   refine ⟨some ⟨L,t'⟩,rfl,Nat.le_refl _,st.pg,st.ok,(cD st.sm ltt g.tx).trans g.ot,⟨⟨pr.on t' rfl,pr.wf t' rfl,pr.nd,hin⟩,c,c0,fun j hj=>Nat.le_trans (pr.cnt t' rfl j).1 (c1 j hj),fun j hj=>?_⟩,hps,st.mv,by have:=st.pl;omega,st.sm,st.no,st.ln⟩
   have:=(pr.cnt t' rfl (j+1)).2
   have:=c2 j hj
   omega
 obtain ⟨R0,e0,hlev,D0⟩:=D0
 rw[←e0]
 clear hc e0 pr st
 refine Wp.seq (Wp.ex (β:=Rt × PgS × H) (fun b=>⟨tm [(0,.ptr b0 0),(2,.int .i64 (rpg b.1))],b.2.2⟩) (fun b=>Dn x T tid s (some ⟨L,t⟩) B h (eE (aP L t) key) b.1 b.2.1 b.2.2) ?_ ?_)
 ·refine rf0 @and_self ?_
  refine Wp.eI [0] xA7 (fun b:Nat × Rt × PgS × H=>[(2,.int .i64 (rpg b.2.1)),(3,.int .i64 (b.1:Int))]) (fun b=>b.2.2.2) (fun b=>b.1+lev b.2.1≤7∧Dn x T tid s (some ⟨L,t⟩) B h (eE (aP L t) key) b.2.1 b.2.2.1 b.2.2.2) (fun b=>lev b.2.1) (1,R0,s1,h3) ⟨by simp only;omega,D0⟩ rfl ?_ ?_
  ·exact xSb
  clear D0 hlev
  rintro ⟨d,R,s2,h4⟩ ⟨hd,D⟩
  simp only at hd D
  have h04:h4.objs b0=some (.cells [.ptr tid 0]):=(cD D.sm lt0 t0).trans h0
  cases R with
  |none=>
   have e1:decide ((0:Int)≤rpg none)=false:=decide_eq_false (by simp[rpg])
   refine rf0 e1 ?_
   refine ⟨(none,s2,h4),D,aM.tm ?_⟩
   exact xSb
  |some q=>
   obtain ⟨L',t'⟩:=q
   have e1:decide ((0:Int)≤rpg (some ⟨L',t'⟩))=true:=decide_eq_true (by simp only[rpg];omega)
   obtain ⟨lv',bd'⟩:Live s2 L' [] none t'∧Bnd L' t' B:=D.rk
   obtain ⟨hs',hi'⟩:=lv'.st t'.pg (by simp[aW])
   have pl:=D.pl
   have hd':d+L'≤7:=hd
   have hnd:=iY (tid:=tid) (i:=t'.pg) (d:=d) D.pg D.ok D.ot hi' (by show stt s2 t'.pg≠0;omega) ab ab lv'.on.1.1
   rw[lv'.on.1.2] at hnd
   refine rf0 (cj2 e1 h04) ?_
   refine an.ba (vals:=[.ptr tid 0,.int .i64 (t'.pg:Nat),.int .i64 (d:Int)]) ae xA4 hnd fun q h5 ⟨hq,g5,k5,no5⟩ n5 _=>?_
   subst hq
   unfold aD
   refine an.evF xAc ?_
   rw[bB]
   refine an.nil ?_
   have g6:=g5.new (aC (bF L' t'.ks t'.kids))
   have k6:Kept h4 (H.new h5 (aC (bF L' t'.ks t'.kids))):=fun j hj=>(aO ab).trans (k5 j hj)
   have no6:aq h4 (H.new h5 (aC (bF L' t'.ks t'.kids))):=aq.trans no5 bP n5 (Nat.le_succ _)
   have nn6:=bZ (h:=h5) (o:=aC (bF L' t'.ks t'.kids))
   have ln6:(H.new h5 (aC (bF L' t'.ks t'.kids))).n=h5.n+1:=rfl
   have ln4:=D.ln
   have D6:Dn x T tid s (some ⟨L,t⟩) B h (eE (aP L t) key) (some ⟨L',t'⟩) s2 (H.new h5 (aC (bF L' t'.ks t'.kids))):=
    ⟨g6,D.ok,(k6 tid (D.pg.ltn (by rw[D.ot];rfl))).trans D.ot,D.rk,D.ps,D.mv,D.pl,D.sm.trans (eB k6) ln4,aq.trans D.no no6 ln4 ab,ab⟩
   refine Wp.le (s':=⟨tm [(0,.ptr b0 0),(2,.int .i64 (t'.pg:Nat)),(3,.int .i64 (d:Int)),(4,.ptr h5.n 0)],H.new h5 (aC (bF L' t'.ks t'.kids))⟩) (aM.of (bA ?_) (OLe.refl _) (fun y hy=>hy) (Nat.le_refl _) (Nat.le_refl _)) ?_
   ·exact xSb
   clear D hnd
   generalize H.new h5 (aC (bF L' t'.ks t'.kids))=h6 at*
   have h06:h6.objs b0=some (.cells [.ptr tid 0]):=(cD D6.sm lt0 t0).trans h0
   cases L' with
   |zero=>
    have hlf:(bF 0 t'.ks t'.kids).leaf=true:=rfl
    unfold aC at nn6
    rw[hlf] at nn6
    refine rf0 nn6 ?_
    refine ⟨(some ⟨0,t'⟩,s2,h6),D6,aM.tm ?_⟩
    exact xSb
   |succ L'=>
    obtain ⟨i,ks,us'⟩:=t'
    obtain ⟨us,hus⟩:∃us:List (Tr L'),us=us':=⟨us',rfl⟩
    subst hus
    have D6:Dn x T tid s (some ⟨L,t⟩) B h (eE (aP L t) key) (some ⟨L'+1,mkT L' i ks us⟩) s2 h6:=D6
    have nn6:h6.objs h5.n=some (aC (au L' ks us)):=nn6
    have lv':Live s2 (L'+1) [] none (mkT L' i ks us):=lv'
    have bd':Bnd (L'+1) (mkT L' i ks us) B:=bd'
    have hs':stt s2 i=1∨stt s2 i=2:=hs'
    have hi':i<s2.np:=hi'
    obtain ⟨hr,hz,hw⟩:=lv'.wf
    have hw:bJ (WF L') [] none ks us:=hw
    have hul:=hw.len
    have hlf:(au L' ks us).leaf=false:=rfl
    have hkl:(ints (au L' ks us).kids).length=us.length:=by simp[ints,au]
    unfold aC at nn6
    rw[hlf] at nn6
    by_cases h1u:us.length=1
    ·obtain ⟨u,hu⟩:=List.length_eq_one_iff.1 h1u
     subst hu
     have hk0:ks=[]:=List.length_eq_zero_iff.1 (by simp only[List.length_singleton] at hul;omega)
     subst hk0
     have e2:decide ((1:Int)<((([u]:List (Tr L')).length:Nat):Int))=false:=by simp
     have hgo:(ints (au L' [] [u]).kids).getD 0 .any= .int .i64 (u.pg:Nat):=by simp[ints,au]
     have ot6:h6.objs tid=some (.cells [.ptr x.P 0,.int .i64 ((t.pg:Nat):Int)]):=D6.ot
     refine rf0 (cj5 nn6 hkl e2 h06 ot6) ?_
     refine an.ba (vals:=[.ptr x.P 0,.int .i64 (i:Int)]) ae xA4 (CY D6.pg D6.ok hi' hs') fun q h7 ⟨hq,s3,st⟩ n7 _=>?_
     subst hq
     refine an.cJ xA2 xAb (by exact ⟨Nat.le_refl _,Nat.le_refl _⟩) (fc) ?_
     refine an.nil ?_
     have nn7:=(cD st.sm ab (dB g.pg (j:=h5.n) ab)).trans nn6
     have e3:IntKind.i64.wrap ((d:Int)+1)=((d+1:Nat):Int):=by rw[IntWalk.i64_in _ ab];rfl
     have y0:(0:Int)≤(0:Int):=by omega
     have y1:(0:Int)<(((au L' [] [u]).kids.length:Nat):Int):=by simp[au]
     refine rf0 (cj7 nn7 hgo e3 y0 y1 @and_self Int.toNat_zero) ?_
     have hpu:aW (L'+1) (mkT L' i [] [u])=i::aW L' u:=by
      show i::(([u]:List (Tr L')).map (aW L')).flatten=_
      simp
     have hnd':=lv'.nd
     have hst':=lv'.st
     rw[hpu] at hnd' hst'
     have hq0:∀j,j∈aW L' u→¬j=i:=fun j hj e=>by subst e;exact (List.nodup_cons.1 hnd').1 hj
     have hq1:∀j,j∈aW L' u→stt s2 j≠0:=fun j hj=>by have:=(hst' j (List.mem_cons_of_mem _ hj)).1;omega
     have ap:=st.mv.apart (Q:=fun j=>j∈aW L' u) hq0 hq1
     have mm:=D6.mv.trans ((st.mv.ext (Q:=fun j=>j∈aW L' u) hq0 hq1).congr (A:=fun j=>j∈bw (some ⟨L'+1,mkT L' i [] [u]⟩)) (A':=fun j=>j∈aW L' u) (fun j=>by
      show j∈aW (L'+1) (mkT L' i [] [u])↔_
      rw[hpu];simp) (fun j=>by simp))
     have hps:=D6.ps
     have hpl:=D6.pl
     have hpl2:=st.pl
     have hnp:=st.mv.np
     have ln6:=D6.ln
     refine ⟨(d+1,some ⟨L',u⟩,s3,h7),⟨by show d+1+L'≤7;omega,⟨st.pg,st.ok,(cD st.sm ab g.tx).trans D6.ot,⟨⟨((dL (us:=([u]:List (Tr L')))).1 lv'.on.2 u af).congr fun j hj=>(ap j hj).2.2,hw,(List.nodup_cons.1 hnd').2,fun j hj=>?_⟩,EG bd'⟩,?_,mm,by show s3.p.length≤s.p.length+200;omega,D6.sm.trans st.sm ln6,aq.trans D6.no st.no ln6 n7,by show h.n≤h7.n;omega⟩⟩,by show L'<L'+1;omega,aM.tm ?_⟩
     ·have a:=ap j hj
      have b:=hst' j (List.mem_cons_of_mem _ hj)
      show (stt s3 j=1∨stt s3 j=2)∧j<s3.np
      omega
     ·rw[←hps]
      show aP L' u=(([u]:List (Tr L')).map (aP L')).flatten
      simp
     ·exact xSb
    ·have e2:decide ((1:Int)<((us.length:Nat):Int))=true:=decide_eq_true ab
     refine rf0 (cj3 nn6 hkl e2) ?_
     refine ⟨(some ⟨L'+1,mkT L' i ks us⟩,s2,h6),D6,aM.tm ?_⟩
     exact xSb
 ·rintro ⟨R,s2,h4⟩ s' D le
  refine Wp.le le ?_
  have D:Dn x T tid s (some ⟨L,t⟩) B h (eE (aP L t) key) R s2 h4:=D
  have h04:h4.objs b0=some (.cells [.ptr tid 0]):=(cD D.sm lt0 t0).trans h0
  have ot4:h4.objs tid=some (.cells [.ptr x.P 0,.int .i64 ((t.pg:Nat):Int)]):=D.ot
  have lt4:tid<h4.n:=D.pg.ltn (by rw[ot4];rfl)
  refine rf0 (cj2 h04 ot4) ?_
  refine ⟨trivial,.tup [],by simp[dg,rvs],s2,R,⟨⟨D.pg.qt g.tx lt4 _,D.ok,by simp[upd,trO],g.tx,D.rk⟩,D.mv,D.pl,(eX.of D.sm).trans eX.set D.ln,aq.trans D.no (aq.set ot4) D.ln (Nat.le_refl _),D.ln⟩,D.ps⟩
end
section
variable {x:PgI} {s:PgS} {T:List Nat} {h:H}
theorem xl {tid b0 b1:Nat} (g:PgH x s T h) (ot:h.objs tid=some (trO x (-1))) (h0:h.objs b0=some (.cells [.ptr tid 0])):
  oH x T s 45 [.ptr b0 0,.ptr b1 0] h 7:=by
 have ot:h.objs tid=some (.cells [.ptr x.P 0,.int .i64 (-1)]):=ot
 have d3:decide ((-1:Int)<0)=true:=by decide
 obtain ⟨v,h',hc,hn,rfl,rfl⟩:=aY.pO (Q:=fun v h'=>v=ly 7∧h'=h) (args:=[.ptr b0 0,.ptr b1 0]) (h:=h) f45 af (by
  unfold c45 zz
  refine Wp.seq (Wp.seq ?_)
  refine Wp.dd (xAd (cj3 h0 ot d3)) ?_
  refine an.nil ?_
  refine Wp.cond_true (by simp only[go_sem,reduceIte,Nat.reduceEqDiff,Nat.reduceAdd,bx,d3]) ?_
  refine Wp.vX (bT.eval (dK xA1) ?_)
  refine bT.here (R:=fun v h'=>∃v',aV.panic v= .panic v'∧v'=ly 7∧h'=h) (en:=aX) rfl (bV _) (fun ops i o ho hit=>fY ho hit rfl rfl rfl) (fun l hl=>by cases hl) ?_
  exact ⟨_,rfl,rfl,rfl⟩)
 exact ⟨_,hc,hn,g,fun _ _=>rfl,aq.refl _⟩
theorem AR {L tid b0 b1 B:Nat} {t:Tr L} {key:Bs} (g:Ts x T tid s (some ⟨L,t⟩) B h) (h0:h.objs b0=some (.cells [.ptr tid 0])) (h1:h.objs b1=some (.cells [.str key]))
  (hno:∀p∈aP L t,p.k≠key) (hL:L≤6) (hp:s.p.length<900000):
  oH x T s 45 [.ptr b0 0,.ptr b1 0] h 7:=by
 have ot:h.objs tid=some (.cells [.ptr x.P 0,.int .i64 ((t.pg:Nat):Int)]):=g.ot
 have d3:decide (((t.pg:Nat):Int)<0)=false:=decide_eq_false ab
 obtain ⟨lv,bd⟩:Live s L [] none t∧Bnd L t B:=g.rk
 obtain ⟨h2,hc2,hn2,g2,k2,no2⟩:=vi (x:=x) (s:=s) (T:=T) L t [] none h tid 1 ((t.pg:Nat):Int) key g.pg g.ok g.ot lv ⟨dh _,fun _ e=>by cases e⟩ hno ab hp
 obtain ⟨v,h',hc,hn,rfl,hq⟩:=aY.pO (Q:=fun v h'=>v=ly 7∧PgH x s T h'∧Kept h h'∧aq h h') (args:=[.ptr b0 0,.ptr b1 0]) (h:=h) f45 af (by
  unfold c45 zz
  refine Wp.seq (Wp.seq ?_)
  refine Wp.dd (xAd (cj3 h0 ot d3)) ?_
  refine an.nil ?_
  refine Wp.cond_false (by simp only[go_sem,reduceIte,Nat.reduceEqDiff,d3]) ?_
  refine Wp.skip ?_
  refine Wp.seq ?_
  refine Wp.vX ?_
  refine bT.eval (dK (by simp only[go_sem,reduceIte,Nat.reduceEqDiff,Nat.reduceAdd,bx,h0,h1,ot];exact rfl)) ?_
  refine bT.Fp (vals:=[.ptr tid 0,.int .i64 (t.pg:Nat),.int .i64 ((1:Nat):Int),.str key]) xA4 (fun j hj=>g.pg.ltn hj) hn2 hc2 no2 (by simp only[mF,BG,oT,cC,cg,tmpsOf,List.filterMap_cons,List.filterMap_nil,List.contains_cons,List.contains_nil,List.any_cons,List.any_nil,List.elem_cons,List.elem_nil,Option.toList_some,Option.toList_none,List.singleton_append,Prod.mk.injEq,Nat.reduceBEq,Bool.or_false,Bool.false_or,Bool.true_or,Bool.or_true,Bool.and_true,Bool.true_and,Bool.not_true,Bool.not_false,go_sem,reduceIte,Nat.reduceEqDiff,Nat.reduceAdd];exact rfl) (by simp[aQ,apart,aX]) (by simp[BH,sP,aX]) ?_
  exact ⟨_,rfl,rfl,g2,k2,no2⟩)
 exact ⟨_,hc,hn,hq⟩
theorem fR.Hk {tid B:Nat} {R:Rt} {h1 h':H} (b:fR x T tid s R B h h1) (g:PgH x s T h') (k:Kept h1 h') (no:aq h1 h') (ln:h1.n≤h'.n):eL x T tid s R h B s R h':=
 eL.none (b.ts.keep g (k tid b.ts.lt) (Nat.le_refl _)) (b.sm.trans (eX.of (eB k)) b.ln) (aq.trans b.no no b.ln ln) (Nat.le_trans b.ln ln)
set_option maxHeartbeats 1000000 in
theorem Dd {tid B:Nat} {R:Rt} {key:Bs} (g:Ts x T tid s R B h) (hL:∀L t,R=some ⟨L,t⟩→L≤6) (hf:∀L t,R=some ⟨L,t⟩→L+1≤free s) (hp:s.p.length+200<900000):
  aJ Tryz.prog 20 [.ptr tid 0,.str key] h fun q h'=>∃s' R',eL x T tid s R h B s' R' h'∧(((∃p∈aG R,p.k=key)∧q= .int .i64 0∧aG R'=eE (aG R) key)∨((∀p∈aG R,p.k≠key)∧q= .int .i64 7∧R'=R∧s'=s)):=by
 refine f20.bC af ?_
 unfold c20 zz
 have bb:=((fR.refl g).new (.cells [.ptr tid 0])).new (.cells [.str key])
 have lt:=g.lt
 have ln3:(H.new (H.new h (.cells [.ptr tid 0])) (.cells [.str key])).n=h.n+1+1:=rfl
 have e0:(H.new (H.new h (.cells [.ptr tid 0])) (.cells [.str key])).objs h.n=some (.cells [.ptr tid 0]):=(aO (Nat.lt_succ_self _)).trans bZ
 have e1:(H.new (H.new h (.cells [.ptr tid 0])) (.cells [.str key])).objs (h.n+1)=some (.cells [.str key]):=bZ (h:=H.new h (.cells [.ptr tid 0]))
 refine Wp.bu (xAd @and_self) ?_
 refine an.nil ?_
 refine Wp.le (s':=⟨tm [(2,.ptr h.n 0),(3,.ptr (h.n+1) 0)],H.new (H.new h (.cells [.ptr tid 0])) (.cells [.str key])⟩) (aM.of (bA ?_) (OLe.refl _) (fun y hy=>hy) (Nat.le_refl _) (Nat.le_refl _)) ?_
 ·exact xSb
 generalize H.new (H.new h (.cells [.ptr tid 0])) (.cells [.str key])=h3 at*
 have key2:aJ Tryz.prog 34 [.ptr tid 0,.clo (.func 45) [] [.ptr h.n 0,.ptr (h.n+1) 0]] h3 fun q h'=>∃s' R',eL x T tid s R h3 B s' R' h'∧(((∃p∈aG R,p.k=key)∧q= .int .i64 0∧aG R'=eE (aG R) key)∨((∀p∈aG R,p.k≠key)∧q= .int .i64 7∧R'=R∧s'=s)):=by
  have give:oH x T s 45 [.ptr h.n 0,.ptr (h.n+1) 0] h3 7→(∀p∈aG R,p.k≠key)→aJ Tryz.prog 34 [.ptr tid 0,.clo (.func 45) [] [.ptr h.n 0,.ptr (h.n+1) 0]] h3 fun q h'=>∃s' R',eL x T tid s R h3 B s' R' h'∧(((∃p∈aG R,p.k=key)∧q= .int .i64 0∧aG R'=eE (aG R) key)∨((∀p∈aG R,p.k≠key)∧q= .int .i64 7∧R'=R∧s'=s)):=by
   rintro ⟨h',hc,hn,g',k',no'⟩ hno
   refine (C7 (Q:=fun h'=>PgH x s T h'∧Kept h3 h'∧aq h3 h'∧h3.n≤h'.n) (gh bb.ts) Tryz.func45 rfl (of_decide_eq_true (by kernel_rfl)) ⟨h',hc,hn.1,hn.2,g',k',no',hn.1⟩).mono ?_
   rintro q h' ⟨rfl,g',k',no',ln'⟩
   exact ⟨s,R,(fR.refl bb.ts).Hk g' k' no' ln',.inr ⟨hno,rfl,rfl,rfl⟩⟩
  cases R with
  |none=>
   exact give (xl bb.ts.pg bb.ts.ot e0) (by simp[aG])
  |some r=>
   obtain ⟨L,t⟩:=r
   by_cases hex:∃p∈aP L t,p.k=key
   ·refine (sq (gh bb.ts) Tryz.func45 rfl (of_decide_eq_true (by kernel_rfl)) (xk bb.ts e0 e1 (dB g.pg (Nat.le_refl _)) ab hex (hL L t rfl) (hf L t rfl) hp)).mono ?_
    rintro q h' ⟨rfl,r,s',R',m,e⟩
    exact ⟨s',R',m,.inl ⟨hex,rfl,e⟩⟩
   ·have hno:∀p∈aP L t,p.k≠key:=fun p hp e=>hex ⟨p,hp,e⟩
    exact give (AR bb.ts e0 e1 hno (hL L t rfl) ab) hno
 refine rf0 e0 ?_
 refine an.ba (vals:=[.ptr tid 0,.clo (.func 45) [] [.ptr h.n 0,.ptr (h.n+1) 0]]) ae xA4 key2 fun q h4 ⟨s',R',m,cs⟩ n4 _=>?_
 refine an.evF xAc ?_
 refine an.nil ?_
 refine rf0 @and_self ?_
 refine Wp.ret ?_
 refine ⟨trivial,q,?_,s',R',m.pre bb.sm bb.no bb.ln,cs⟩
 simp only[go_sem]
 exact rfl
end
def tlC:AC→AC
 | .seq _ y=>y
 |c=>c
def fF (l:List Pr) (key:Bs):Option Pr:=l.find? fun p=>decide (p.k=key)
theorem qu {l:List Pr} {key:Bs} (h:∀p∈l,p.k≠key):fF l key=none:=by
 unfold fF
 rw[List.find?_eq_none]
 intro p hp
 simpa using h p hp
theorem sr {a b c:List Pr} {k:Bs} (ha:∀p∈a,Lt p.k k) (hc:∀p∈c,Lt k p.k):fF (a++(b++c)) k=fF b k:=by
 have h1:=qu fun p hp=>ne_of_lt (ha p hp)
 have h2:=qu fun p hp=>(ne_of_lt (hc p hp)).symm
 unfold fF at h1 h2 ⊢
 rw[List.find?_append,h1,List.find?_append,h2]
 simp
theorem ss {ks vs:List Bs} {key:Bs} (h:right (aB ks vs)=true):fF (List.zipWith Pr.mk ks vs) key=if bI (aB ks vs) key=true then some ⟨key,vs.getD (place (aB ks vs) key) []⟩ else none:=by
 split
 ·rename_i hf
  obtain ⟨r1,r2,-⟩:=(bD (n:=aB ks vs) rfl).1 h
  obtain ⟨p1,p2,p3⟩:=jx h key
  obtain ⟨-,-,f1,f2,f3⟩:=dZ hf
  have f1:place (aB ks vs) key<ks.length:=f1
  have f3:ks.getD (place (aB ks vs) key) []=key:=f3
  have r2:vs.length=ks.length:=r2
  have r1:mQ ks:=r1
  generalize place (aB ks vs) key=i at*
  have hkk:ks[i]=key:=by rw[←f3,bG f1]
  have hd:=nT r1.2 f1
  rw[hkk] at hd
  have e1:ks=ks.take i++key::ks.drop (i+1):=by rw[←hkk,←List.drop_eq_getElem_cons f1,List.take_append_drop]
  have e2:vs=vs.take i++vs[i]::vs.drop (i+1):=by rw[←List.drop_eq_getElem_cons,List.take_append_drop]
  have e3:List.zipWith Pr.mk ks vs=List.zipWith Pr.mk (ks.take i) (vs.take i)++([⟨key,vs[i]⟩]++List.zipWith Pr.mk (ks.drop (i+1)) (vs.drop (i+1))):=by
   conv=>lhs;rw[e1,e2]
   exact nh ak
  rw[e3,sr (fun p hp=>p1 _ (eK hp)) (fun p hp=>hd _ (eK hp)),bG ab]
  simp[fF]
 ·rename_i hf
  refine qu fun p hp e=>hf ((qn h).2 ⟨p,hp,e⟩)
section
variable {x:PgI} {s:PgS} {T:List Nat} {h:H}
set_option maxHeartbeats 2000000 in
theorem vj {L tid b0 b1 b2 B:Nat} {t:Tr L} {key:Bs} {Q:aV→St→Prop} (g:Ts x T tid s (some ⟨L,t⟩) B h) (h0:h.objs b0=some (.cells [.ptr tid 0])) (h1:h.objs b1=some (.cells [.str key])) (hL:L≤6) (hp:s.p.length<900000)
  (hK:∀(h':H) (nid i:Nat) (ks vs:List Bs),PgH x s T h'→Kept h h'→aq h h'→h.n≤h'.n→h'.objs nid=some (aC (aB ks vs))→right (aB ks vs)=true→size (aB ks vs)≤1024→fF (List.zipWith Pr.mk ks vs) key=fF (aP L t) key→h.n≤nid→Wp Tryz.prog 54 (tlC (tlC (tlC c40))) ⟨tm [(1,.ptr b1 0),(2,.ptr b2 0),(3,.ptr nid 0)],h'⟩ Q):
  Wp Tryz.prog 54 c40 ⟨gM [.ptr b0 0,.ptr b1 0,.ptr b2 0],h⟩ Q:=by
 unfold c40 at hK ⊢
 simp only[tlC] at hK
 have ot:h.objs tid=some (.cells [.ptr x.P 0,.int .i64 ((t.pg:Nat):Int)]):=g.ot
 have d3:decide (((t.pg:Nat):Int)<0)=false:=decide_eq_false ab
 obtain ⟨lv,bd⟩:Live s L [] none t∧Bnd L t B:=g.rk
 have lt0:=g.pg.ltn (j:=b0) (by rw[h0];rfl)
 have lt1:=g.pg.ltn (j:=b1) (by rw[h1];rfl)
 have ltt:=g.lt
 obtain ⟨hs,hi'⟩:=lv.st t.pg (by simp[aW])
 have hnd:=iY (tid:=tid) (i:=t.pg) (d:=1) g.pg g.ok g.ot hi' (by show stt s t.pg≠0;omega) ab ab lv.on.1.1
 rw[lv.on.1.2] at hnd
 refine Wp.seq (Wp.seq ?_)
 refine Wp.dd (xAd (cj3 h0 ot d3)) ?_
 refine an.nil ?_
 refine Wp.cond_false (by simp only[go_sem,reduceIte,Nat.reduceEqDiff,d3]) ?_
 refine Wp.skip ?_
 refine Wp.seq (Wp.reg ?_)
 refine ao.part 5 (xAe (cj2 h0 ot)) ?_
 simp only[List.drop_succ_cons,List.drop_zero,List.drop_nil]
 refine ao.ba (vals:=[.ptr tid 0,.int .i64 (t.pg:Nat),.int .i64 ((1:Nat):Int)]) ae xA4 (fun j hj=>g.pg.ltn hj) hnd (fun r h' ⟨e,g',k',no'⟩=>no') fun q h2 ⟨hq,g2,k2,no2⟩ n2 _=>?_
 subst hq
 unfold aD
 refine ao.part 2 xA1 ?_
 simp only[List.drop_succ_cons,List.drop_zero,List.drop_nil]
 rw[bB]
 refine ao.nil ⟨by simp[bf,aQ,apart,aX];exact ⟨ab,ab,fun id a=>by omega⟩,?_⟩
 have g3:=g2.new (aC (bF L t.ks t.kids))
 have k3:Kept h (H.new h2 (aC (bF L t.ks t.kids))):=fun j hj=>(aO ab).trans (k2 j hj)
 have no3:aq h (H.new h2 (aC (bF L t.ks t.kids))):=aq.trans no2 bP n2 (Nat.le_succ _)
 have nn3:=bZ (h:=h2) (o:=aC (bF L t.ks t.kids))
 have ln3:(H.new h2 (aC (bF L t.ks t.kids))).n=h2.n+1:=rfl
 refine Wp.le (s':=⟨tm [(0,.ptr b0 0),(1,.ptr b1 0),(2,.ptr b2 0),(3,.ptr h2.n 0)],H.new h2 (aC (bF L t.ks t.kids))⟩) (aM.of (bA ?_) (OLe.refl _) (fun y hy=>hy) (Nat.le_refl _) (Nat.le_refl _)) ?_
 ·exact xSb
 generalize H.new h2 (aC (bF L t.ks t.kids))=h3 at*
 generalize hnid:h2.n=nid at*
 clear hnd
 refine rf0 @and_self ?_
 refine Wp.eI [0,1,2,3] xA7 (fun b:Nat × ((L':Nat) × Tr L') × H=>[(4,.int .i64 (b.1:Int))]) (fun b=>b.2.2) (fun b=>b.1+b.2.1.1≤9∧(∃lo hi,Live s b.2.1.1 lo hi b.2.1.2∧inB lo hi key)∧fF (aP b.2.1.1 b.2.1.2) key=fF (aP L t) key∧PgH x s T b.2.2∧Kept h b.2.2∧aq h b.2.2∧h.n≤b.2.2.n∧nid<b.2.2.n∧b.2.2.objs nid=some (aC (bF b.2.1.1 b.2.1.2.ks b.2.1.2.kids))) (fun b=>b.2.1.1) (2,⟨L,t⟩,h3) ⟨by simp only;omega,⟨[],none,lv,dh _,fun _ e=>by cases e⟩,rfl,g3,k3,no3,by simp only;omega,by simp only;omega,nn3⟩ rfl ?_ ?_
 ·exact xSb
 clear g3 k3 no3 nn3
 rintro ⟨d,⟨L',t'⟩,h4⟩ ⟨hd,⟨lo,hi,lv',hb⟩,hf,g4,k4,no4,ln4,lnid,nn4⟩
 simp only at hd lv' hf g4 k4 no4 ln4 lnid nn4
 have h04:=(k4 b0 lt0).trans h0
 have h14:=(k4 b1 lt1).trans h1
 cases L' with
 |zero=>
  have hlf:(bF 0 t'.ks t'.kids).leaf=true:=rfl
  have nn5:=nn4
  unfold aC at nn4
  rw[hlf] at nn4
  refine Wp.seq (Wp.seq ?_)
  refine Wp.dd (xAd (cj2 nn4 @Bool.not_true)) ?_
  refine an.nil ?_
  refine Wp.cond_false (by simp only[go_sem,reduceIte,Nat.reduceEqDiff]) ?_
  refine Wp.exit ?_
  have W:=hK h4 nid t'.pg t'.ks t'.kids g4 k4 no4 ln4 nn5 lv'.wf.1 lv'.wf.2.1 hf ab
  refine Wp.le (aM.tm ?_) W
  exact xSb
 |succ L'=>
  obtain ⟨i,ks,us'⟩:=t'
  obtain ⟨us,hus⟩:∃us:List (Tr L'),us=us':=⟨us',rfl⟩
  subst hus
  have nn4:h4.objs nid=some (aC (au L' ks us)):=nn4
  have lv':Live s (L'+1) lo hi (mkT L' i ks us):=lv'
  obtain ⟨hr,hz,hw⟩:=lv'.wf
  have hw:bJ (WF L') lo hi ks us:=hw
  have hr:right (au L' ks us)=true:=hr
  have hz:size (au L' ks us)≤1024:=hz
  obtain ⟨pa1,pa2,pa3⟩:=gC (key:=key) hr
  obtain ⟨u,hu,wu,-⟩:=hw.at pa3
  obtain ⟨cp1,cp2,cp3⟩:=iR hw hb _ pa3 pa1 pa2
  have hum:u∈us:=List.mem_of_getElem? hu
  have hpg:=gg (i:=i) (ks:=ks) hu
  have hnd:=lv'.nd
  have hst:=lv'.st
  rw[hpg] at hnd hst
  have hpr:aP (L'+1) (mkT L' i ks us)=((us.take (place (au L' ks us) key)).map (aP L')).flatten++(aP L' u++((us.drop (place (au L' ks us) key+1)).map (aP L')).flatten):=ng (f:=aP L') hu
  have lu:Live s L' (dQ lo ks (place (au L' ks us) key)) (eV hi ks (place (au L' ks us) key)) u:=by
   refine ⟨(dL.1 lv'.on.2) u hum,wu,?_,fun j hj=>hst j (by simp[hj])⟩
   simp only[List.nodup_cons,List.nodup_append] at hnd
   exact hnd.2.2.1.1
  have hsm:=cx (L:=L'+1) (ks:=ks) (kids:=us) hr (by show size (au L' ks us)≤1355;omega)
  have cf:=xj (key:=key) hr hsm.1
  have hul:us.length=ks.length+1:=hw.len
  have hfu:fF (aP L' u) key=fF (aP L t) key:=by
   rw[←hf]
   show _=fF (aP (L'+1) (mkT L' i ks us)) key
   rw[hpr,sr cp1 cp2]
  obtain ⟨hs5,hi5⟩:=lu.st u.pg (by simp[aW])
  have ot4:=(k4 tid ltt).trans g.ot
  have hd:d+(L'+1)≤9:=hd
  have hn2:=iY (tid:=tid) (i:=u.pg) (d:=d) g4 g.ok ot4 hi5 (by show stt s u.pg≠0;omega) hp ab lu.on.1.1
  rw[lu.on.1.2] at hn2
  generalize hJ:place (au L' ks us) key=J at*
  have x1:(0:Int)≤(J:Int):=by omega
  have x2:(J:Int)<((au L' ks us).kids.length:Int):=by simp[au];omega
  have hgo:(ints (au L' ks us).kids).getD J .any= .int .i64 (u.pg:Nat):=by
   have:(bR us)[J]? =some ((u.pg:Nat):Int):=by simp[bR,hu]
   show (ints (bR us)).getD J .any=_
   simp[ints,List.getD,this]
  have e3:IntKind.i64.wrap ((d:Int)+1)=((d+1:Nat):Int):=by rw[IntWalk.i64_in _ ab];rfl
  have hlf:(au L' ks us).leaf=false:=rfl
  unfold aC at nn4
  unfold aD at cf
  rw[hlf] at nn4 cf
  refine rf1 (cj3 nn4 h14 @Bool.not_false) cf ?_
  refine Wp.reg ?_
  refine ao.part 7 (xAd (cj7 h04 nn4 hgo x1 x2 @and_self @Int.toNat_natCast)) ?_
  simp only[List.drop_succ_cons,List.drop_zero,List.drop_nil]
  refine ao.ba (vals:=[.ptr tid 0,.int .i64 (u.pg:Nat),.int .i64 (d:Int)]) ae xA4 (fun j hj=>g4.ltn hj) hn2 (fun r h' ⟨e,g',k',no'⟩=>no') fun q h5 ⟨hq,g5,k5,no5⟩ n5 _=>?_
  subst hq
  have nn5:=(k5 nid lnid).trans nn4
  unfold aD
  refine ao.part 1 (xAe nn5) ?_
  simp only[List.drop_succ_cons,List.drop_zero,List.drop_nil]
  refine ao.nil ⟨by simp[bf,aQ,apart,aX],?_⟩
  refine rf0 e3 ?_
  have q:∀j,j≠nid→(upd h5.objs nid (some (aC (bF L' u.ks u.kids))):Nat→Option Av.Obj) j=h5.objs j:=fun j hj=>by simp only[upd];rw[if_neg hj]
  refine ⟨(d+1,⟨L',u⟩,⟨upd h5.objs nid (some (aC (bF L' u.ks u.kids))),h5.n,h5.toks,h5.m⟩),⟨by simp only;omega,⟨_,_,lu,cp3⟩,hfu,?_,fun j hj=>(q j ab).trans ((k5 j ab).trans (k4 j hj)),aq.trans (aq.trans no4 no5 ln4 n5) (aq.set nn5) ab (Nat.le_refl _),by simp only;omega,by simp only;omega,by simp[upd]⟩,by show L'<L'+1;omega,aM.tm ?_⟩
  ·have:=dB g.pg (j:=nid) ab
   exact g5.qt this ab _
  ·exact xSb
end
section
variable {x:PgI} {s:PgS} {T:List Nat} {h:H}
theorem xm {ks vs:List Bs} {key:Bs} (hr:right (aB ks vs)=true) (hn:Nb (aB ks vs)):
  bj Tryz.prog 42 [aD (aB ks vs),.str key] (.tup [.int .i64 (place (aB ks vs) key:Nat),.bool (bI (aB ks vs) key)]):=by
 have f:=nI (aB ks vs) hn key
 have e1:dU (aB ks vs) key=place (aB ks vs) key:=by unfold dU;rw[if_pos hr]
 rw[e1] at f
 exact f
theorem AT {tid b0 b1 b2:Nat} (g:PgH x s T h) (ot:h.objs tid=some (trO x (-1))) (h0:h.objs b0=some (.cells [.ptr tid 0])):
  oH x T s 40 [.ptr b0 0,.ptr b1 0,.ptr b2 0] h 7:=by
 have ot:h.objs tid=some (.cells [.ptr x.P 0,.int .i64 (-1)]):=ot
 have d3:decide ((-1:Int)<0)=true:=by decide
 obtain ⟨v,h',hc,hn,rfl,rfl⟩:=aY.pO (Q:=fun v h'=>v=ly 7∧h'=h) (args:=[.ptr b0 0,.ptr b1 0,.ptr b2 0]) (h:=h) f40 af (by
  unfold c40 zz
  refine Wp.seq (Wp.seq ?_)
  refine Wp.dd (xAd (cj3 h0 ot d3)) ?_
  refine an.nil ?_
  refine Wp.cond_true (by simp only[go_sem,reduceIte,Nat.reduceEqDiff,Nat.reduceAdd,bx,d3]) ?_
  refine Wp.vX (bT.eval (dK xA1) ?_)
  refine bT.here (R:=fun v h'=>∃v',aV.panic v= .panic v'∧v'=ly 7∧h'=h) (en:=aX) rfl (bV _) (fun ops i o ho hit=>fY ho hit rfl rfl rfl) (fun l hl=>by cases hl) ?_
  exact ⟨_,rfl,rfl,rfl⟩)
 exact ⟨_,hc,hn,g,fun _ _=>rfl,aq.refl _⟩
theorem De {L tid b0 b1 b2 B:Nat} {t:Tr L} {key:Bs} (g:Ts x T tid s (some ⟨L,t⟩) B h) (h0:h.objs b0=some (.cells [.ptr tid 0])) (h1:h.objs b1=some (.cells [.str key])) (hL:L≤6) (hp:s.p.length<900000) (hf:fF (aP L t) key=none):
  oH x T s 40 [.ptr b0 0,.ptr b1 0,.ptr b2 0] h 7:=by
 have lt1:=g.pg.ltn (j:=b1) (by rw[h1];rfl)
 obtain ⟨v,h',hc,hn,rfl,hq⟩:=aY.pO (Q:=fun v h'=>v=ly 7∧PgH x s T h'∧Kept h h'∧aq h h') (args:=[.ptr b0 0,.ptr b1 0,.ptr b2 0]) (h:=h) f40 af (vj g h0 h1 hL hp fun h4 nid i ks vs g4 k4 no4 ln4 nn4 hr hz hfl hnid=>by
  unfold c40 zz
  simp only[tlC]
  have hof:bI (aB ks vs) key=false:=by
   rw[ss hr,hf] at hfl
   split at hfl
   ·cases hfl
   ·rename_i hh;simpa using hh
  have hsm:=cx (L:=0) hr (by show size (aB ks vs)≤1355;omega)
  have cf:=xm (key:=key) hr hsm.1
  rw[hof] at cf
  have h14:=(k4 b1 lt1).trans h1
  unfold aC at nn4
  unfold aD at cf
  refine Wp.bu (xAd (cj2 nn4 h14)) ?_
  refine an.cb ae xA4 cf ?_
  refine an.evF xAc ?_
  refine an.nil ?_
  refine Wp.seq (Wp.seq ?_)
  refine Wp.dd (xAd @Bool.not_false) ?_
  refine an.nil ?_
  refine Wp.cond_true (by simp only[go_sem,reduceIte,Nat.reduceEqDiff,Nat.reduceAdd,bx,Bool.not_false]) ?_
  refine Wp.vX (bT.eval (dK xA1) ?_)
  refine bT.here (R:=fun v h'=>∃v',aV.panic v= .panic v'∧v'=ly 7∧PgH x s T h'∧Kept h h'∧aq h h') (en:=aX) rfl (bV _) (fun ops i o ho hit=>fY ho hit rfl rfl rfl) (fun l hl=>by cases hl) ?_
  exact ⟨_,rfl,rfl,g4,k4,no4⟩)
 exact ⟨_,hc,hn,hq⟩
theorem AU {L tid b0 b1 b2 B:Nat} {t:Tr L} {key:Bs} {p:Pr} (g:Ts x T tid s (some ⟨L,t⟩) B h) (h0:h.objs b0=some (.cells [.ptr tid 0])) (h1:h.objs b1=some (.cells [.str key])) (h2:h.objs b2=some (.cells [.str []])) (t2:Tid x b2) (hL:L≤6) (hp:s.p.length<900000) (hf:fF (aP L t) key=some p):
  aJ Tryz.prog 40 [.ptr b0 0,.ptr b1 0,.ptr b2 0] h fun q h'=>PgH x s T h'∧(∀j,j<h.n→j≠b2→h'.objs j=h.objs j)∧aq h h'∧h'.objs b2=some (.cells [.str p.v])∧h.n≤h'.n:=by
 have lt1:=g.pg.ltn (j:=b1) (by rw[h1];rfl)
 have lt2:=g.pg.ltn (j:=b2) (by rw[h2];rfl)
 refine f40.bC af (vj g h0 h1 hL hp fun h4 nid i ks vs g4 k4 no4 ln4 nn4 hr hz hfl hnid=>?_)
 unfold c40 zz
 simp only[tlC]
 rw[ss hr,hf] at hfl
 have hof:bI (aB ks vs) key=true:=by
  cases e:bI (aB ks vs) key with
  |true=>rfl
  |false=>rw[e] at hfl;simp at hfl
 rw[if_pos hof] at hfl
 obtain ⟨-,-,f1,f2,f3⟩:=dZ hof
 have f1:place (aB ks vs) key<ks.length:=f1
 have f2:vs.length=ks.length:=f2
 have hsm:=cx (L:=0) hr (by show size (aB ks vs)≤1355;omega)
 have cf:=xm (key:=key) hr hsm.1
 rw[hof] at cf
 have h14:=(k4 b1 lt1).trans h1
 have h24:=(k4 b2 lt2).trans h2
 generalize place (aB ks vs) key=J at*
 have x1:(0:Int)≤(J:Int):=by omega
 have x2:(J:Int)<(((aB ks vs).vals.length:Nat):Int):=by simp[aB];omega
 have hgo:(strs (aB ks vs).vals).getD J .any= .str p.v:=by
  have e:p.v=vs.getD J []:=by rw[←Option.some.inj hfl]
  rw[e]
  show (strs vs).getD J .any=_
  simp[strs,List.getD,List.getElem?_eq_getElem (show J<vs.length by omega)]
 unfold aC at nn4
 unfold aD at cf
 refine rf1 (cj9 nn4 h14 h24 hgo x1 x2 @and_self @Bool.not_true @Int.toNat_natCast) cf ?_
 have q:∀j,j≠b2→(upd h4.objs b2 (some (.cells [.str p.v])):Nat→Option Av.Obj) j=h4.objs j:=fun j hj=>by simp only[upd];rw[if_neg hj]
 refine ⟨trivial,.tup [],by simp[dg,rvs],g4.qt t2 ab _,fun j hj hn=>(q j hn).trans (k4 j hj),aq.trans no4 (aq.set h24) ln4 (Nat.le_refl _),by simp[upd],ln4⟩
def Hl (x:PgI) (T:List Nat) (tid:Nat) (s:PgS) (R:Rt) (B:Nat) (h:H) (b:Nat) (key:Bs) (q:AV) (h':H):Prop:=fR x T tid s R B h h'∧∃v,h'.objs b=some (.cells [.str v])∧(match fF (aG R) key with|some p=>AV.tup [.str p.v,.int .i64 0]|none=> .tup [.str [],.int .i64 7])= .tup [.str v,q]∧aR q=true
set_option maxHeartbeats 1000000 in
theorem Hm {tid B:Nat} {R:Rt} {key:Bs} (g:Ts x T tid s R B h) (hL:∀L t,R=some ⟨L,t⟩→L≤6) (hp:s.p.length<900000):
  aJ Tryz.prog 14 [.ptr tid 0,.str key] h fun q h'=>fR x T tid s R B h h'∧q=(match fF (aG R) key with|some p=> .tup [.str p.v,.int .i64 0]|none=> .tup [.str [],.int .i64 7]):=by
 refine f14.bC af ?_
 unfold c14 zz
 have bb:=(((fR.refl g).new (.cells [.ptr tid 0])).new (.cells [.str key])).new (.cells [.str []])
 have lt:=g.lt
 have ln3:(H.new (H.new (H.new h (.cells [.ptr tid 0])) (.cells [.str key])) (.cells [.str []])).n=h.n+1+1+1:=rfl
 have e0:(H.new (H.new (H.new h (.cells [.ptr tid 0])) (.cells [.str key])) (.cells [.str []])).objs h.n=some (.cells [.ptr tid 0]):=(aO (Nat.lt_succ_of_lt (Nat.lt_succ_self _))).trans ((aO (Nat.lt_succ_self _)).trans bZ)
 have e1:(H.new (H.new (H.new h (.cells [.ptr tid 0])) (.cells [.str key])) (.cells [.str []])).objs (h.n+1)=some (.cells [.str key]):=(aO (Nat.lt_succ_self _)).trans (bZ (h:=H.new h (.cells [.ptr tid 0])))
 have e2:(H.new (H.new (H.new h (.cells [.ptr tid 0])) (.cells [.str key])) (.cells [.str []])).objs (h.n+1+1)=some (.cells [.str []]):=bZ (h:=H.new (H.new h (.cells [.ptr tid 0])) (.cells [.str key]))
 refine Wp.bu (xAd @and_self) ?_
 refine an.nil ?_
 refine Wp.bu (xAd @and_self) ?_
 refine an.nil ?_
 rw[bB]
 refine Wp.le (s':=⟨tm [(2,.ptr h.n 0),(3,.ptr (h.n+1) 0),(6,.ptr (h.n+1+1) 0)],H.new (H.new (H.new h (.cells [.ptr tid 0])) (.cells [.str key])) (.cells [.str []])⟩) (aM.of (bA ?_) (OLe.refl _) (fun y hy=>hy) (Nat.le_refl _) (Nat.le_refl _)) ?_
 ·exact xSb
 generalize H.new (H.new (H.new h (.cells [.ptr tid 0])) (.cells [.str key])) (.cells [.str []])=h3 at*
 have key2:aJ Tryz.prog 34 [.ptr tid 0,.clo (.func 40) [] [.ptr h.n 0,.ptr (h.n+1) 0,.ptr (h.n+1+1) 0]] h3 (Hl x T tid s R B h (h.n+1+1) key):=by
  have give:oH x T s 40 [.ptr h.n 0,.ptr (h.n+1) 0,.ptr (h.n+1+1) 0] h3 7→fF (aG R) key=none→aJ Tryz.prog 34 [.ptr tid 0,.clo (.func 40) [] [.ptr h.n 0,.ptr (h.n+1) 0,.ptr (h.n+1+1) 0]] h3 (Hl x T tid s R B h (h.n+1+1) key):=by
   rintro ⟨h',hc,hn,g',k',no'⟩ hno
   refine (C7 (Q:=fun h'=>PgH x s T h'∧Kept h3 h'∧aq h3 h'∧h3.n≤h'.n) (gh bb.ts) Tryz.func40 rfl (of_decide_eq_true (by kernel_rfl)) ⟨h',hc,hn.1,hn.2,g',k',no',hn.1⟩).mono ?_
   rintro q h' ⟨rfl,g',k',no',ln'⟩
   refine ⟨⟨bb.ts.keep g' (k' tid bb.ts.lt) (Nat.le_refl _),bb.sm.trans (eX.of (eB k')) bb.ln,aq.trans bb.no no' bb.ln ln',Nat.le_trans bb.ln ln',fun j hj=>(k' j ab).trans (bb.kp j hj)⟩,[],(k' _ ab).trans e2,?_,rfl⟩
   rw[hno]
  cases hR:fF (aG R) key with
  |none=>
   cases R with
   |none=>exact give (AT bb.ts.pg bb.ts.ot e0) rfl
   |some r=>
    obtain ⟨L,t⟩:=r
    exact give (De bb.ts e0 e1 (hL L t rfl) hp hR) hR
  |some p=>
   cases R with
   |none=>cases hR
   |some r=>
    obtain ⟨L,t⟩:=r
    refine (sq (gh bb.ts) Tryz.func40 rfl (of_decide_eq_true (by kernel_rfl)) (AU bb.ts e0 e1 e2 (dB g.pg ab) (hL L t rfl) hp hR)).mono ?_
    rintro q h' ⟨rfl,r,g',k',no',hb,ln'⟩
    refine ⟨⟨bb.ts.keep g' (k' tid bb.ts.lt ab) (Nat.le_refl _),fun j hj a1 a2=>(k' j ab ab).trans (bb.kp j hj),aq.trans bb.no no' bb.ln ln',Nat.le_trans bb.ln ln',fun j hj=>(k' j ab ab).trans (bb.kp j hj)⟩,p.v,hb,?_,rfl⟩
    rw[hR]
 refine rf0 e0 ?_
 refine an.ba (vals:=[.ptr tid 0,.clo (.func 40) [] [.ptr h.n 0,.ptr (h.n+1) 0,.ptr (h.n+1+1) 0]]) ae xA4 key2 fun q h4 ⟨b4,v,hv,e,hqc⟩ n4 _=>?_
 rw[e]
 refine an.evF xAc ?_
 refine an.nil ?_
 refine rf0 hv ?_
 refine Wp.ret ?_
 refine ⟨trivial,.tup [.str v,q],?_,b4,rfl⟩
 simp only[go_sem]
 exact rfl
end
end Go.Proofs.YtbgmofhgfnmaiaaGreat.Tree
end
section
set_option maxRecDepth 100000
namespace Go.Av
section
variable {P:Program} {N:Nat}
theorem ao.F4 {dst:Option Nat} {g:Option (Nat × Bool)} {f:FuncId} {fn:Func} {y:Opd} {l:List Opd} {its:List aT} {t:Tm} {h:H} {log:List Ent} {K:Tm→H→List Ent→Prop} {first caps vals:List AV} {Q:AV→H→Prop}
  (hg:guardOf t g=some true) (hy:ev t y= .clo (.func f) first caps) (hf:P.funcs[f]? =some fn) (hb:fn.body.isSome=true) (hn:fn.name≠ "runtime.NumGoroutine") (hs:ay (first++l.map (ev t)++caps) vals)
  (hl:∀j,(h.objs j).isSome=true→j<h.n) (hc:aJ P f vals h Q) (no:∀r h',Q r h'→aq h h')
  (rest:∀r h',Q r h'→h.n≤h'.n→h.m≤h'.m→ao P N its (bX t dst r) h' (⟨[],List.range h'.n,h.toks++h'.toks⟩::log) K):ao P N (⟨dst,g,.callv y l⟩::its) t h log K:=by
 obtain ⟨r,h',hc,n1,m1,hq⟩:=hc
 exact ao.step (gz hl n1 m1 (no r h' hq)) (fun ops i o ho hit=>iK ho hit hg rfl hy hf hb hn hs hc) (fun h=>by simp[cC] at h) (rest r h' hq n1 m1)
end
end Go.Av
namespace Go.Proofs.YtbgmofhgfnmaiaaGreat.Tree
open Go Go.Av Go.Proofs Go.Proofs.YtbgmofhgfnmaiaaGreat.C Go.Proofs.YtbgmofhgfnmaiaaGreat.Page
open Go.Proofs.YtbgmofhgfnmaiaaGreat.Batch (Bs Pr prs aZ)
def iA (to:Bs) (p:Pr):Bool:= !decide (to=[])&& !Op.bytesLess p.k to
def dX (to:Bs) (bq:Int):List Pr→List Pr→List Pr × Bool
 |[],acc=>(acc,true)
 |p::l,acc=>if iA to p=true then (acc,false) else if ((acc.length+1:Nat):Int)=bq then (acc++[p],false) else dX to bq l (acc++[p])
theorem qw (to:Bs) (bq:Int):∀(a b acc:List Pr),dX to bq (a++b) acc=if (dX to bq a acc).2=true then dX to bq b (dX to bq a acc).1 else dX to bq a acc
 |[],b,acc=>by simp[dX]
 |p::a,b,acc=>by
  simp only[List.cons_append,dX]
  split
  ·simp
  ·split
   ·simp
   ·exact qw to bq a b (acc++[p])
theorem qx (to:Bs) (bq:Int):∀(l acc:List Pr),(dX to bq l acc).1.length≤acc.length+l.length
 |[],acc=>by simp[dX]
 |p::l,acc=>by
  simp only[dX]
  split
  ·simp only[List.length_cons];omega
  ·split
   ·simp
   ·have:=qx to bq l (acc++[p])
    simp at this ⊢
    omega
structure Sc (x:PgI) (s:PgS) (T:List Nat) (h0:H) (bo:Nat) (acc:List Pr) (h:H):Prop where
 pg:∃tk,PgH x s (tkT tk T) h∧h.objs bo=some (.cells [.sl 2 (prs acc) (tkC tk)])∧(tk=none→acc=[])∧∀t,tk=some t→t∉T
 kp:∀j,j<h0.n→j≠bo→h.objs j=h0.objs j
 no:aq h0 h
 ln:h0.n≤h.n
theorem Sc.fresh {x:PgI} {s:PgS} {T:List Nat} {h0 h:H} {bo:Nat} {acc:List Pr} (g:Sc x s T h0 bo acc h):∀j,(h.objs j).isSome=true→j<h.n:=by
 obtain ⟨tk,g,-⟩:=g.pg
 exact fun j hj=>g.ltn hj
def lI (bo:Nat) (h h':H):Prop:=∀j,j<h.n→j≠bo→h'.objs j=h.objs j
theorem PgH.grow {x:PgI} {s:PgS} {T T1:List Nat} {h:H} (g:PgH x s T1 h) {bo:Nat} (tb:Tid x bo) (hb:bo<h.n) (hT:∀t∈T,t∈T1) (o:Av.Obj):PgH x s (h.m::T) ⟨upd h.objs bo (some o),h.n,tkT s.tk (h.m::T),h.m+1⟩:=by
 have g2:=g.qt tb hb o
 exact {
  oP:=g2.oP,oA:=g2.oA,oU:=g2.oU,oD:=g2.oD,oK:=g2.oK,oI:=g2.oI,lt:=g2.lt,ne:=g2.ne,fresh:=g2.fresh,toks:=rfl
  tm:=fun t ht=>by
   rcases List.mem_cons.1 ht with rfl|ht
   ·exact Nat.lt_succ_self _
   ·exact Nat.lt_succ_of_lt (g.tm t (hT t ht))
  tkm:=fun t e=>⟨Nat.lt_succ_of_lt (g.tkm t e).1,fun a=>by
   rcases List.mem_cons.1 a with rfl|a
   ·exact Nat.lt_irrefl _ (g.tkm _ e).1
   ·exact (g.tkm t e).2 (hT t a)⟩
  tk0:=g.tk0}
section
variable {x:PgI} {s:PgS} {T:List Nat} {h0 h:H}
set_option maxHeartbeats 1000000 in
theorem EH {bo bt bm:Nat} {acc:List Pr} {to:Bs} {bq:Int} {p:Pr} (g:Sc x s T h0 bo acc h) (tb:Tid x bo) (hbo:bo<h0.n) (ht:h0.objs bt=some (.cells [.str to])) (hm:h0.objs bm=some (.cells [.int .i64 bq])) (l1:bt<h0.n) (l2:bm<h0.n) (n1:bt≠bo) (n2:bm≠bo) (hl:acc.length≤1000000):
  aJ Tryz.prog 39 [aZ p,.ptr bt 0,.ptr bo 0,.ptr bm 0] h fun q h'=>q= .bool (dX to bq [p] acc).2∧Sc x s T h0 bo (dX to bq [p] acc).1 h'∧aq h h'∧lI bo h h':=by
 refine f39.bC af ?_
 unfold c39 zz
 obtain ⟨tk,pg,hb,hz,hT⟩:=g.pg
 have ht1:=(g.kp bt l1 n1).trans ht
 have hm1:=(g.kp bm l2 n2).trans hm
 have kp:=g.kp
 have no:=g.no
 have ln:=g.ln
 have hbl:bo<h.n:=by omega
 have nb:h.n≠bo:=by omega
 have e0:=bZ (h:=h) (o:= .cells [.str p.k,.str p.v])
 have pg1:=pg.new (.cells [.str p.k,.str p.v])
 have hb1:=(aO (h:=h) (o:= .cells [.str p.k,.str p.v]) hbl).trans hb
 have ht2:=(aO (h:=h) (o:= .cells [.str p.k,.str p.v]) (show bt<h.n by omega)).trans ht1
 have hm2:=(aO (h:=h) (o:= .cells [.str p.k,.str p.v]) (show bm<h.n by omega)).trans hm1
 have kp1:∀j,j<h0.n→j≠bo→(H.new h (.cells [.str p.k,.str p.v])).objs j=h0.objs j:=fun j a b=>(aO ab).trans (kp j a b)
 have no1:aq h0 (H.new h (.cells [.str p.k,.str p.v])):=aq.trans no bP ln (Nat.le_succ _)
 have no2:aq h (H.new h (.cells [.str p.k,.str p.v])):=bP
 have ln1:h0.n≤(H.new h (.cells [.str p.k,.str p.v])).n:=Nat.le_succ_of_le ln
 have hn1:(H.new h (.cells [.str p.k,.str p.v])).n=h.n+1:=rfl
 have kb1:lI bo h (H.new h (.cells [.str p.k,.str p.v])):=fun j a _=>aO a
 refine Wp.seq ?_
 refine Wp.dd (xAd @aZ.eq_1) ?_
 refine an.nil ?_
 refine Wp.le (s':=⟨tm [(1,.ptr bt 0),(2,.ptr bo 0),(3,.ptr bm 0),(4,.ptr h.n 0)],H.new h (.cells [.str p.k,.str p.v])⟩) (aM.of (bA ?_) (OLe.refl _) (fun y hy=>hy) (Nat.le_refl _) (Nat.le_refl _)) ?_
 ·exact xSb
 generalize H.new h (.cells [.str p.k,.str p.v])=h1 at*
 by_cases hs:iA to p=true
 ·have er:dX to bq [p] acc=(acc,false):=by simp only[dX];rw[if_pos hs]
  rw[er]
  have d1:decide (to=[])=false:=by
   simp only[iA,Bool.and_eq_true,Bool.not_eq_true'] at hs;exact hs.1
  have d2:Op.bytesLess p.k to=false:=by
   simp only[iA,Bool.and_eq_true,Bool.not_eq_true'] at hs;exact hs.2
  refine rf0 (cj5 ht2 e0 d1 d2 @Bool.not_false) ?_
  refine Wp.ret ⟨trivial,.bool false,?_,rfl,⟨⟨tk,pg1,hb1,hz,hT⟩,kp1,no1,ln1⟩,no2,kb1⟩
  simp only[go_sem]
  exact rfl
 ·have hs:iA to p=false:=by simpa using hs
  have er:dX to bq [p] acc=(acc++[p],decide (¬(((acc.length+1:Nat):Int)=bq))):=by
   simp only[dX,hs,Bool.false_eq_true,if_false]
   split<;>simp_all
  rw[er]
  refine Wp.uv [1,2,3,4] xA7 [] ?_ ?_
  ·show Wp _ _ _ _ _
   by_cases d:to=[]
   ·have d1:=decide_eq_true d
    refine rf0 (cj3 ht2 e0 d1) ?_
    refine aM.tm ?_
    exact xSb
   ·have d1:=decide_eq_false d
    have d2:Op.bytesLess p.k to=true:=by
     simp only[iA,d1,Bool.not_false,Bool.true_and,Bool.not_eq_false'] at hs;exact hs
    refine rf0 (cj5 ht2 e0 d1 d2 @Bool.not_true) ?_
    refine aM.tm ?_
    exact xSb
  have er2:prs (acc++[p])=prs acc++[.agg [.str p.k,.str p.v]]:=by simp[prs,aZ]
  have hll:(prs acc).length=acc.length:=by simp[prs]
  have r1:(acc.length+1)*32≤140737488355328:=by omega
  have r2:acc.length+1<4611686018427387904:=by omega
  cases tk with
  |none=>
   obtain rfl:=hz rfl
   replace hb1:h1.objs bo=some (.cells [.sl 2 [] (.exact 0)]):=hb1
   simp only[List.append_nil]
   have r4:(1:Nat)<4611686018427387904:=by decide
   refine rf0 (cL hb1 e0 r4 @true_or @or_true @and_self @List.nil_append.{0} @List.length_nil.{0} @List.length_cons.{0} @Nat.zero_add hm2 n2) ?_
   refine Wp.le (s':=⟨tm [(5,.bool (!decide (((0+1:Nat):Int)=bq)))],⟨upd h1.objs bo (some (.cells [.sl 2 [.agg [.str p.k,.str p.v]] (.own h1.m)])),h1.n,tkT s.tk (h1.m::T),h1.m+1⟩⟩) (aM.of (bA ?_) (OLe.refl _) (fun y hy=>?_) (Nat.le_refl _) (Nat.le_refl _)) ?_
   ·exact xSb
   ·simp only[pg1.toks]
    simp only[tkT] at hy ⊢
    cases hk:s.tk<;>rw[hk] at hy<;>simp only[List.mem_cons] at hy ⊢ <;>grind
   refine Wp.ret ⟨trivial,.bool (!decide (((0+1:Nat):Int)=bq)),?_,?_,⟨⟨some h1.m,pg1.grow tb ab (fun t h=>h) _,?_,fun e=>(by cases e),fun t e a=>?_⟩,fun j a b=>?_,?_,ln1⟩,?_,fun j a b=>?_⟩
   ·simp only[go_sem]
    exact rfl
   ·simp
   ·simp[upd,prs,aZ,tkC]
   ·cases e;exact absurd (pg1.tm _ a) (Nat.lt_irrefl _)
   ·simp only[upd];rw[if_neg b];exact kp1 j a b
   ·exact aq.trans no1 (aq.set hb1) ln1 (Nat.le_refl _)
   ·exact aq.trans no2 (aq.set hb1) ab (Nat.le_refl _)
   ·simp only[upd];rw[if_neg b];exact kb1 j a b
  |some t=>
   replace hb1:h1.objs bo=some (.cells [.sl 2 (prs acc) (.own t)]):=hb1
   have htok:=pg1.toks
   have hmem:t∈h1.toks:=by
    rw[htok]
    unfold tkT
    cases s.tk<;>simp
   simp only[List.append_nil]
   refine rf0 (cL hb1 e0 hmem hll r1 r2 @List.length_nil.{0} @List.length_cons.{0} @Nat.zero_add hm2 n2 @List.length_append.{0}) ?_
   refine Wp.le (s':=⟨tm [(5,.bool (!decide (((acc.length+1:Nat):Int)=bq)))],⟨upd h1.objs bo (some (.cells [.sl 2 (prs acc++[.agg [.str p.k,.str p.v]]) (.own h1.m)])),h1.n,tkT s.tk (h1.m::T),h1.m+1⟩⟩) (aM.of (bA ?_) (OLe.refl _) (fun y hy=>?_) (Nat.le_refl _) (Nat.le_refl _)) ?_
   ·exact xSb
   ·have hT:=hT t rfl
    have hk:=pg1.tkm
    simp only[pg1.toks]
    simp only[tkT] at hy hk ⊢
    cases hq:s.tk with
    |none=>
     rw[hq] at hy
     simp at hy ⊢
     rcases hy with rfl|hy
     ·exact .inl rfl
     ·right;grind
    |some k=>
     rw[hq] at hy
     have:=(hk k hq).2
     simp at hy this ⊢
     rcases hy with rfl|rfl|hy
     ·right;grind
     ·exact .inl rfl
     ·right;grind
   refine Wp.ret ⟨trivial,.bool (!decide (((acc.length+1:Nat):Int)=bq)),?_,?_,⟨⟨some h1.m,pg1.grow tb ab (fun t h=>List.mem_cons_of_mem _ h) _,?_,fun e=>(by cases e),fun t e a=>?_⟩,fun j a b=>?_,?_,ln1⟩,?_,fun j a b=>?_⟩
   ·simp only[go_sem]
    exact rfl
   ·simp
   ·simp[upd,prs,aZ,tkC]
   ·cases e;exact absurd (pg1.tm _ (List.mem_cons_of_mem _ a)) (Nat.lt_irrefl _)
   ·simp only[upd];rw[if_neg b];exact kp1 j a b
   ·exact aq.trans no1 (aq.set hb1) ln1 (Nat.le_refl _)
   ·exact aq.trans no2 (aq.set hb1) ab (Nat.le_refl _)
   ·simp only[upd];rw[if_neg b];exact kb1 j a b
end
end Go.Proofs.YtbgmofhgfnmaiaaGreat.Tree
end
section
set_option maxRecDepth 100000
namespace Go.Proofs.YtbgmofhgfnmaiaaGreat.Tree
open Go Go.Av Go.Proofs Go.Proofs.YtbgmofhgfnmaiaaGreat.C Go.Proofs.YtbgmofhgfnmaiaaGreat.Page
open Go.Proofs.YtbgmofhgfnmaiaaGreat.Batch (Bs Pr prs aZ)
structure gF (s:PgS) (L:Nat) (lo:Bs) (hi:Option Bs) (t:Tr L):Prop where
 on:On s L t
 wf:WF L lo hi t
 nd:(aW L t).Nodup
 st:∀j∈aW L t,stt s j≠0∧j<s.np
structure Ts0 (x:PgI) (T:List Nat) (tid:Nat) (s:PgS) (R:Rt) (h:H):Prop where
 pg:PgH x s T h
 ok:cu s
 ot:h.objs tid=some (trO x (rpg R))
 tx:Tid x tid
 rk:∀L t,R=some ⟨L,t⟩→gF s L [] none t
structure iB (x:PgI) (T:List Nat) (tid:Nat) (s:PgS) (R:Rt) (h h1:H):Prop where
 ts:Ts0 x T tid s R h1
 no:aq h h1
 ln:h.n≤h1.n
 kp:∀j,j<h.n→h1.objs j=h.objs j
section
variable {x:PgI} {s:PgS} {T:List Nat} {h h1:H} {tid B:Nat} {R:Rt}
theorem Ts.z (g:Ts x T tid s R B h):Ts0 x T tid s R h:=⟨g.pg,g.ok,g.ot,g.tx,fun L t e=>by
 subst e
 have k:=g.rk.1
 exact ⟨k.on,k.wf,k.nd,fun j hj=>⟨by have:=(k.st j hj).1;omega,(k.st j hj).2⟩⟩⟩
theorem Ts0.lt (g:Ts0 x T tid s R h):tid<h.n:=g.pg.ltn (by rw[g.ot];rfl)
theorem Ts0.keep (g:Ts0 x T tid s R h) (pg:PgH x s T h1) (k:h1.objs tid=h.objs tid):Ts0 x T tid s R h1:=⟨pg,g.ok,k.trans g.ot,g.tx,g.rk⟩
theorem Ts0.op (g:Ts0 x T tid s R h):oE h tid:=⟨_,_,_,g.ot⟩
theorem iB.refl (g:Ts0 x T tid s R h):iB x T tid s R h h:=⟨g,aq.refl h,Nat.le_refl _,fun _ _=>rfl⟩
theorem iB.new (b:iB x T tid s R h h1) (o:Av.Obj):iB x T tid s R h (H.new h1 o):=
 ⟨b.ts.keep (b.ts.pg.new o) (aO b.ts.lt),aq.trans b.no bP b.ln (Nat.le_succ _),Nat.le_succ_of_le b.ln,fun j hj=>(aO (Nat.lt_of_lt_of_le hj b.ln)).trans (b.kp j hj)⟩
theorem fR.of (g:Ts x T tid s R B h) (b:iB x T tid s R h h1):fR x T tid s R B h h1:=⟨g.keep b.ts.pg (b.kp tid g.lt) (Nat.le_refl _),fun j hj _ _=>b.kp j hj,b.no,b.ln,b.kp⟩
end
def dG (key:Bs) (l:List Pr):List Pr:=l.filter fun p=> !Op.bytesLess p.k key
theorem qy (key:Bs) (a b:List Pr):dG key (a++b)=dG key a++dG key b:=List.filter_append ..
theorem yz {key:Bs} {l:List Pr} (h:∀p∈l,Lt p.k key):dG key l=[]:=gT fun p hp=>by simp[h p hp]
theorem Df {key:Bs} {l:List Pr} (h:∀p∈l,Le key p.k):dG key l=l:=filter_all fun p hp=>by
 have:=h p hp
 simpa using this
theorem AW {ks vs:List Bs} {key:Bs} (h:right (aB ks vs)=true):dG key (List.zipWith Pr.mk ks vs)=(List.zipWith Pr.mk ks vs).drop (place (aB ks vs) key):=by
 obtain ⟨p1,p2,p3⟩:=jx h key
 generalize place (aB ks vs) key=i at*
 rw[ni ks vs i,qy,yz fun p hp=>p1 _ (eK hp),Df fun p hp=>p2 _ (eK hp),←ni ks vs i,List.drop_zipWith]
 rfl
theorem vk {L:Nat} {lo:Bs} {hi:Option Bs} {ks:List Bs} {us:List (Tr L)} {key:Bs} (h:bJ (WF L) lo hi ks us) (j:Nat) (hj:j≤ks.length) (h1:∀k∈ks.take j,Le k key):∀p∈((us.take j).map (aP L)).flatten,Lt p.k key:=by
 cases j with
 |zero=>simp
 |succ i=>
  have e:ks=ks.take i++ks[i]::ks.drop (i+1):=by rw[←List.drop_eq_getElem_cons ab,List.take_append_drop]
  have c:=h
  rw[e,←List.take_append_drop (i+1) us] at c
  have hl:=h.len
  obtain ⟨c1,-⟩:=c.cut ak
  intro p hp
  have q:=(kF (jv L) c1).1 p hp
  exact u6 (q.2 _ rfl) (h1 _ (o9 _ (Nat.lt_succ_self _)))
section
variable {x:PgI} {s:PgS} {T:List Nat} {h0 h:H} {bo:Nat} {acc:List Pr}
theorem Sc.new (g:Sc x s T h0 bo acc h) (hbo:bo<h0.n) (o:Av.Obj):Sc x s T h0 bo acc (H.new h o):=by
 obtain ⟨tk,pg,a,b,c⟩:=g.pg
 have ln:=g.ln
 exact ⟨⟨tk,pg.new o,(aO ab).trans a,b,c⟩,fun j hj hb=>(aO ab).trans (g.kp j hj hb),aq.trans g.no bP g.ln (Nat.le_succ _),Nat.le_succ_of_le g.ln⟩
theorem Dg {L tid d:Nat} {r:Int} {lo:Bs} {hi:Option Bs} {t:Tr L} (g:Sc x s T h0 bo acc h) (hbo:bo<h0.n) (ok:cu s) (ht:h0.objs tid=some (trO x r)) (l1:tid<h0.n) (n1:tid≠bo) (lv:gF s L lo hi t) (hp:s.p.length<900000) (hd:d≤20):
  aJ Tryz.prog 41 [.ptr tid 0,.int .i64 (t.pg:Nat),.int .i64 (d:Int)] h fun q h'=>q=aD (bF L t.ks t.kids)∧Sc x s T h0 bo acc h'∧Kept h h'∧aq h h'∧h.n≤h'.n:=by
 obtain ⟨tk,pg,a,b,c⟩:=g.pg
 obtain ⟨hs,hi'⟩:=lv.st t.pg (by simp[aW])
 have ln:=g.ln
 have hnd:=iY (tid:=tid) (i:=t.pg) (d:=d) pg ok ((g.kp tid l1 n1).trans ht) hi' (by show stt s t.pg≠0;omega) hp hd lv.on.1.1
 rw[lv.on.1.2] at hnd
 obtain ⟨q,h',hc,hn,hm,e,g',k',no'⟩:=hnd
 exact ⟨q,h',hc,hn,hm,e,⟨⟨tk,g',(k' bo ab).trans a,b,c⟩,fun j hj hb=>(k' j ab).trans (g.kp j hj hb),aq.trans g.no no' g.ln hn,ab⟩,k',no',hn⟩
def mj (bt bo bm:Nat):AV:= .clo (.func 39) [] [.ptr bt 0,.ptr bo 0,.ptr bm 0]
set_option maxHeartbeats 2000000 in
theorem AX {tid bt bm d:Nat} {r:Int} {lo key to:Bs} {hi:Option Bs} {bq:Int} {t:Tr 0} (g:Sc x s T h0 bo acc h) (ok:cu s) (tb:Tid x bo) (hbo:bo<h0.n) (hi':h0.objs tid=some (trO x r)) (l0:tid<h0.n) (n0:tid≠bo) (ht:h0.objs bt=some (.cells [.str to])) (hm:h0.objs bm=some (.cells [.int .i64 bq])) (l1:bt<h0.n) (l2:bm<h0.n) (n1:bt≠bo) (n2:bm≠bo)
  (lv:gF s 0 lo hi t) (hl:acc.length+(aP 0 t).length≤1000000) (hp:s.p.length<900000) (hd:d≤20):
  aJ Tryz.prog 38 [.ptr tid 0,.int .i64 (t.pg:Nat),.int .i64 (d:Int),.str key,mj bt bo bm] h fun q h'=>q= .bool (dX to bq (dG key (aP 0 t)) acc).2∧Sc x s T h0 bo (dX to bq (dG key (aP 0 t)) acc).1 h'∧aq h h'∧lI bo h h':=by
 have hnd:=Dg g hbo ok hi' l0 n0 lv hp hd
 obtain ⟨i,ks,vs'⟩:=t
 obtain ⟨vs,hvs⟩:∃vs:List Bs,vs=vs':=⟨vs',rfl⟩
 subst hvs
 obtain ⟨hr,hz,h3,h4⟩:=lv.wf
 have hr:right (aB ks vs)=true:=hr
 have hz:size (aB ks vs)≤1024:=hz
 have hnd:aJ Tryz.prog 41 [.ptr tid 0,.int .i64 (i:Nat),.int .i64 (d:Int)] h fun q h'=>q=aD (aB ks vs)∧Sc x s T h0 bo acc h'∧Kept h h'∧aq h h'∧h.n≤h'.n:=hnd
 have hsm:=cx (L:=0) hr (by show size (aB ks vs)≤1355;omega)
 have cf:=xm (key:=key) hr hsm.1
 have hpr:aP 0 (⟨i,ks,vs⟩:Nd Bs)=List.zipWith Pr.mk ks vs:=rfl
 obtain ⟨r1,r2,-⟩:=(bD (n:=aB ks vs) rfl).1 hr
 have r2:vs.length=ks.length:=r2
 have hfr:=AW (key:=key) hr
 obtain ⟨-,-,p3⟩:=jx hr key
 show aJ _ _ _ _ fun q h'=>q= .bool (dX to bq (dG key (List.zipWith Pr.mk ks vs)) acc).2∧Sc x s T h0 bo (dX to bq (dG key (List.zipWith Pr.mk ks vs)) acc).1 h'∧aq h h'∧lI bo h h'
 have hl:acc.length+(List.zipWith Pr.mk ks vs).length≤1000000:=hl
 have hzl:(List.zipWith Pr.mk ks vs).length=ks.length:=by simp[r2]
 rw[hfr]
 refine f38.bC af ?_
 unfold c38 zz
 obtain ⟨yf,hyf⟩:∃yf,yf=mj bt bo bm:=⟨_,rfl⟩
 rw[←hyf]
 refine rf0 @and_self ?_
 refine an.ba (vals:=[.ptr tid 0,.int .i64 (i:Int),.int .i64 (d:Int)]) ae xA4 hnd fun q h2 ⟨hq,g2,k2,no2,ln2⟩ nq _=>?_
 subst hq
 unfold aD
 refine an.evF xAc ?_
 rw[bB]
 refine an.nil ?_
 have g3:=g2.new hbo (aC (aB ks vs))
 have no3:aq h (H.new h2 (aC (aB ks vs))):=aq.trans no2 bP ln2 (Nat.le_succ _)
 have nn3:=bZ (h:=h2) (o:=aC (aB ks vs))
 have ln3:(H.new h2 (aC (aB ks vs))).n=h2.n+1:=rfl
 refine Wp.le (s':=⟨tm [(0,.ptr tid 0),(2,.int .i64 (d:Int)),(3,.str key),(4,yf),(11,.ptr h2.n 0)],H.new h2 (aC (aB ks vs))⟩) (aM.of (bA ?_) (OLe.refl _) (fun y hy=>hy) (Nat.le_refl _) (Nat.le_refl _)) ?_
 ·exact xSb
 have ko3:∀j,j<h2.n→(H.new h2 (aC (aB ks vs))).objs j=h2.objs j:=fun j hj=>aO hj
 generalize H.new h2 (aC (aB ks vs))=h3' at*
 have kb3:lI bo h h3':=fun j a b=>(ko3 j ab).trans (k2 j a)
 unfold aD at cf
 unfold aC at nn3
 refine rf1 nn3 cf ?_
 generalize hJ:place (aB ks vs) key=J at*
 have nnb:h2.n≠bo:=by have:=g.ln;omega
 generalize hnid:h2.n=nid at*
 clear cf hnd hfr
 obtain ⟨Z,hZ⟩:∃Z,Z=List.zipWith Pr.mk ks vs:=⟨_,rfl⟩
 rw[←hZ] at hl hzl ⊢
 refine Wp.eI [4,11] xA7 (fun b:Nat × List Pr × H=>[(16,.int .i64 (b.1:Int))]) (fun b=>b.2.2) (fun b=>b.1≤ks.length∧Sc x s T h0 bo b.2.1 b.2.2∧dX to bq (Z.drop b.1) b.2.1=dX to bq (Z.drop J) acc∧aq h b.2.2∧lI bo h b.2.2∧nid<b.2.2.n∧h.n≤b.2.2.n∧b.2.2.objs nid=some (aC (aB ks vs))∧b.2.1.length+(Z.drop b.1).length≤1000000) (fun b=>ks.length - b.1) (J,acc,h3') ⟨p3,g3,rfl,no3,kb3,by simp only;omega,by simp only;omega,nn3,by simp only[List.length_drop];omega⟩ rfl ?_ ?_
 ·exact xSb
 clear g3 no3 nn3 kb3 g2
 rintro ⟨k,ac,h4⟩ ⟨hk,g4,hrun,no4,kb4,ln4,lm4,nn4,ll4⟩
 simp only at hk g4 hrun no4 kb4 ln4 lm4 nn4 ll4
 have hkl:(strs (aB ks vs).keys).length=ks.length:=by simp[aB,strs]
 unfold aC at nn4
 by_cases hc:k<ks.length
 ·have x1:(0:Int)≤(k:Int):=by omega
  have x2:(k:Int)<(((aB ks vs).keys.length:Nat):Int):=by simp[aB];omega
  have x3:(k:Int)<(((aB ks vs).vals.length:Nat):Int):=by simp[aB];omega
  have dk:=decide_eq_true x2
  have hgk:(strs (aB ks vs).keys).getD k .any= .str ks[k]:=by
   show (strs ks).getD k .any=_
   simp[strs,List.getD,List.getElem?_eq_getElem hc]
  have hgv:(strs (aB ks vs).vals).getD k .any= .str (vs[k]'(by omega)):=by
   show (strs vs).getD k .any=_
   simp[strs,List.getD,List.getElem?_eq_getElem (show k<vs.length by omega)]
  have hZk:Z.drop k=⟨ks[k],vs[k]'(by omega)⟩::Z.drop (k+1):=by
   rw[List.drop_eq_getElem_cons ab]
   congr 1
   simp[hZ]
  generalize ks[k]=K0 at*
  generalize vs[k]'(by omega)=V0 at*
  rw[hZk] at hrun ll4
  simp only[List.length_cons] at ll4
  have hy:=EH (p:=⟨K0,V0⟩) g4 tb hbo ht hm l1 l2 n1 n2 ab
  have happ:=qw to bq [⟨K0,V0⟩] (Z.drop (k+1)) ac
  rw[List.singleton_append,hrun] at happ
  have hlen:=qx to bq [⟨K0,V0⟩] ac
  simp only[List.length_singleton] at hlen
  generalize dX to bq [⟨K0,V0⟩] ac=rs at*
  generalize hZ2:Z.drop (k+1)=Zk at*
  have nn5:=nn4
  refine rf0 (cj2 nn4 dk) ?_
  refine Wp.reg ?_
  refine ao.part 12 (xAd (cj8 nn4 hgk hgv x1 x2 x3 @and_self @Int.toNat_natCast)) ?_
  simp only[List.drop_succ_cons,List.drop_zero,List.drop_nil]
  refine ao.F4 (f:=39) (first:=[]) (caps:=[.ptr bt 0,.ptr bo 0,.ptr bm 0]) (vals:=[aZ ⟨K0,V0⟩,.ptr bt 0,.ptr bo 0,.ptr bm 0]) ae (by simp only[go_sem,reduceIte,Nat.reduceEqDiff,hyf,mj]) Tryz.func39 rfl (of_decide_eq_true (by kernel_rfl)) (by simp only[go_sem,reduceIte,Nat.reduceEqDiff,List.map,List.nil_append,List.cons_append];exact ay.refl _) g4.fresh hy (fun r h' ⟨e,g',no',kb'⟩=>no') fun q h5 ⟨e5,g5,no5,kb5⟩ n5 _=>?_
  subst e5
  have nn6:=(kb5 nid ln4 nnb).trans nn5
  refine ao.part 1 xA1 ?_
  simp only[List.drop_succ_cons,List.drop_zero,List.drop_nil]
  refine ao.nil ⟨by simp[bf,aQ,apart,aX],?_⟩
  cases hb:rs.2 with
  |false=>
   rw[hb] at happ
   simp only[Bool.false_eq_true,if_false] at happ
   refine rf0 @Bool.not_false ?_
   rw[happ]
   refine Wp.ret ⟨trivial,.bool false,?_,by rw[hb],g5,aq.trans no4 no5 ab ab,fun j a b=>(kb5 j ab b).trans (kb4 j a b)⟩
   simp only[go_sem]
   exact rfl
  |true=>
   rw[hb] at happ
   simp only[if_true] at happ
   have e3:IntKind.i64.wrap ((k:Int)+1)=((k+1:Nat):Int):=by rw[IntWalk.i64_in _ ab];rfl
   refine rf0 (cj2 @Bool.not_true e3) ?_
   refine ⟨(k+1,rs.1,h5),⟨by simp only;omega,g5,by simp only;rw[hZ2];exact happ.symm,aq.trans no4 no5 ab ab,fun j a b=>(kb5 j ab b).trans (kb4 j a b),by simp only;omega,by simp only;omega,nn6,by simp only;rw[hZ2];omega⟩,by simp only;omega,aM.tm ?_⟩
   exact xSb
 ·have dk:decide ((k:Int)<(((aB ks vs).keys.length:Nat):Int))=false:=decide_eq_false (by simp[aB];omega)
  have he:Z.drop k=[]:=List.drop_eq_nil_of_le ab
  rw[he] at hrun
  rw[←hrun]
  refine rf0 (cj2 nn4 dk) ?_
  refine Wp.ret ⟨trivial,.bool true,?_,rfl,g4,no4,kb4⟩
  simp only[go_sem]
  exact rfl
set_option maxHeartbeats 2000000 in
theorem Dh:∀(L:Nat) (t:Tr L) (lo:Bs) (hi:Option Bs) (h:H) (acc:List Pr) (d:Nat) {tid bt bm:Nat} {r:Int} {key to:Bs} {bq:Int},Sc x s T h0 bo acc h→cu s→Tid x bo→bo<h0.n→h0.objs tid=some (trO x r)→tid<h0.n→tid≠bo→h0.objs bt=some (.cells [.str to])→h0.objs bm=some (.cells [.int .i64 bq])→bt<h0.n→bm<h0.n→bt≠bo→bm≠bo→
  gF s L lo hi t→acc.length+(aP L t).length≤1000000→s.p.length<900000→d+L≤20→
  aJ Tryz.prog 38 [.ptr tid 0,.int .i64 (t.pg:Nat),.int .i64 (d:Int),.str key,mj bt bo bm] h fun q h'=>q= .bool (dX to bq (dG key (aP L t)) acc).2∧Sc x s T h0 bo (dX to bq (dG key (aP L t)) acc).1 h'∧aq h h'∧lI bo h h'
 |0,t,lo,hi,h,acc,d,tid,bt,bm,r,key,to,bq,g,ok,tb,hbo,hi',l0,n0,ht,hm,l1,l2,n1,n2,lv,hl,hp,hd=>AX g ok tb hbo hi' l0 n0 ht hm l1 l2 n1 n2 lv hl hp ab
 |L+1,t',lo,hi,h,acc,d,tid,bt,bm,r,key,to,bq,g,ok,tb,hbo,hi',l0,n0,ht,hm,l1,l2,n1,n2,lv',hl,hp,hd=>by
  have hnd:=Dg g hbo ok hi' l0 n0 lv' hp (show d≤20 by omega)
  obtain ⟨i,ks,us'⟩:=t'
  obtain ⟨us,hus⟩:∃us:List (Tr L),us=us':=⟨us',rfl⟩
  subst hus
  have hnd:aJ Tryz.prog 41 [.ptr tid 0,.int .i64 (i:Nat),.int .i64 (d:Int)] h fun q h'=>q=aD (au L ks us)∧Sc x s T h0 bo acc h'∧Kept h h'∧aq h h'∧h.n≤h'.n:=hnd
  have lv':gF s (L+1) lo hi (mkT L i ks us):=lv'
  obtain ⟨hr,hz,hw⟩:=lv'.wf
  have hw:bJ (WF L) lo hi ks us:=hw
  have hr:right (au L ks us)=true:=hr
  have hz:size (au L ks us)≤1024:=hz
  obtain ⟨pa1,pa2,pa3⟩:=gC (key:=key) hr
  have hbl:=vk hw _ pa3 pa1
  have hul:us.length=ks.length+1:=hw.len
  have hsm:=cx (L:=L+1) (ks:=ks) (kids:=us) hr (by show size (au L ks us)≤1355;omega)
  have cf:=xj (key:=key) hr hsm.1
  have hst:=lv'.st
  have hndp:=lv'.nd
  have lvu:∀k u,us[k]? =some u→∃lo' hi'',gF s L lo' hi'' u:=fun k u hu=>by
   have hum:u∈us:=List.mem_of_getElem? hu
   have hk:k<us.length:=(List.getElem?_eq_some_iff.1 hu).1
   obtain ⟨u',hu',wu,-⟩:=hw.at (j:=k) ab
   rw[hu] at hu'
   cases hu'
   have hpg:=gg (i:=i) (ks:=ks) hu
   have hnd:=hndp
   have hst:=hst
   rw[hpg] at hnd hst
   refine ⟨_,_,(dL.1 lv'.on.2) u hum,wu,?_,fun j hj=>hst j (by simp[hj])⟩
   simp only[List.nodup_cons,List.nodup_append] at hnd
   exact hnd.2.2.1.1
  have hpr:dG key (aP (L+1) (mkT L i ks us))=dG key (((us.drop (place (au L ks us) key)).map (aP L)).flatten):=by
   show dG key ((us.map (aP L)).flatten)=_
   conv=>lhs;rw[←List.take_append_drop (place (au L ks us) key) us]
   rw[List.map_append,List.flatten_append,qy,yz hbl]
   rfl
  have hlt:acc.length+(((us.drop (place (au L ks us) key)).map (aP L)).flatten).length≤1000000:=by
   have hl:acc.length+((us.map (aP L)).flatten).length≤1000000:=hl
   rw[←List.take_append_drop (place (au L ks us) key) us,List.map_append,List.flatten_append,List.length_append] at hl
   omega
  show aJ _ _ _ _ fun q h'=>q= .bool (dX to bq (dG key (aP (L+1) (mkT L i ks us))) acc).2∧Sc x s T h0 bo (dX to bq (dG key (aP (L+1) (mkT L i ks us))) acc).1 h'∧aq h h'∧lI bo h h'
  rw[hpr]
  refine f38.bC af ?_
  unfold c38 zz
  obtain ⟨yf,hyf⟩:∃yf,yf=mj bt bo bm:=⟨_,rfl⟩
  rw[←hyf]
  refine rf0 @and_self ?_
  refine an.ba (vals:=[.ptr tid 0,.int .i64 (i:Int),.int .i64 (d:Int)]) ae xA4 hnd fun q h2 ⟨hq,g2,k2,no2,ln2⟩ nq _=>?_
  subst hq
  unfold aD
  refine an.evF xAc ?_
  rw[bB]
  refine an.nil ?_
  have g3:=g2.new hbo (aC (au L ks us))
  have no3:aq h (H.new h2 (aC (au L ks us))):=aq.trans no2 bP ln2 (Nat.le_succ _)
  have nn3:=bZ (h:=h2) (o:=aC (au L ks us))
  have ln3:(H.new h2 (aC (au L ks us))).n=h2.n+1:=rfl
  refine Wp.le (s':=⟨tm [(0,.ptr tid 0),(2,.int .i64 (d:Int)),(3,.str key),(4,yf),(11,.ptr h2.n 0)],H.new h2 (aC (au L ks us))⟩) (aM.of (bA ?_) (OLe.refl _) (fun y hy=>hy) (Nat.le_refl _) (Nat.le_refl _)) ?_
  ·exact xSb
  have ko3:∀j,j<h2.n→(H.new h2 (aC (au L ks us))).objs j=h2.objs j:=fun j hj=>aO hj
  generalize H.new h2 (aC (au L ks us))=h3' at*
  have kb3:lI bo h h3':=fun j a b=>(ko3 j ab).trans (k2 j a)
  unfold aD at cf
  unfold aC at nn3
  generalize hJ:place (au L ks us) key=J at*
  have hkl:(au L ks us).kids.length=us.length:=by simp[au]
  have x1:(0:Int)≤(J:Int):=by omega
  have x2:(J:Int)≤(((au L ks us).kids.length:Nat):Int):=by omega
  have hlf:(au L ks us).leaf=false:=rfl
  rw[hlf] at nn3 cf
  refine rf1 (cj6 nn3 @Bool.not_false x1 x2 @and_self @Int.toNat_natCast) cf ?_
  have hW:List.drop J (List.take (au L ks us).kids.length (ints (au L ks us).kids))=(us.drop J).map (fun u=>AV.int .i64 ((u.pg:Nat):Int)):=by
   rw[List.take_of_length_le (by simp[ints])]
   simp[ints,au,List.map_drop]
   rfl
  rw[hW]
  clear hW
  obtain ⟨vs,hvs⟩:∃vs:List (Tr L),vs=us.drop J:=⟨_,rfl⟩
  have hvl:vs.length=us.length - J:=by rw[hvs];simp
  have lvv:∀k u,vs[k]? =some u→∃lo' hi'',gF s L lo' hi'' u:=fun k u hu=>by
   rw[hvs,List.getElem?_drop] at hu
   exact lvu _ _ hu
  rw[←hvs] at hlt ⊢
  obtain ⟨W,hW⟩:∃W,W=vs.map (fun u=>AV.int .i64 ((u.pg:Nat):Int)):=⟨_,rfl⟩
  have hWl:W.length=vs.length:=by rw[hW];simp
  rw[←hW]
  have hlz:us.length≤1000000:=by
   have e:size (au L ks us)=7+5*ks.length+tot ks:=by simp[size,au]
   have e2:(au L ks us).keys.length=ks.length:=rfl
   omega
  refine Wp.eI [0,2,3,4,33,34] xA7 (fun b:Nat × List Pr × H=>[(35,.int .i64 (b.1:Int))]) (fun b=>b.2.2) (fun b=>b.1≤vs.length∧Sc x s T h0 bo b.2.1 b.2.2∧dX to bq (dG key (((vs.drop b.1).map (aP L)).flatten)) b.2.1=dX to bq (dG key ((vs.map (aP L)).flatten)) acc∧aq h b.2.2∧lI bo h b.2.2∧h.n≤b.2.2.n∧b.2.1.length+(((vs.drop b.1).map (aP L)).flatten).length≤1000000) (fun b=>vs.length - b.1) (0,acc,h3') ⟨Nat.zero_le _,g3,rfl,no3,kb3,by simp only;omega,hlt⟩ rfl ?_ ?_
  ·exact xSb
  clear g3 no3 nn3 kb3 g2
  rintro ⟨k,ac,h4⟩ ⟨hk,g4,hrun,no4,kb4,lm4,ll4⟩
  simp only at hk g4 hrun no4 kb4 lm4 ll4
  by_cases hc:k<vs.length
  ·have x1:(0:Int)≤(k:Int):=by omega
   have x2:(k:Int)<((W.length:Nat):Int):=by omega
   have dk:=decide_eq_true x2
   obtain ⟨lo2,hi2,lu⟩:=lvv k vs[k] (List.getElem?_eq_getElem hc)
   have hgk:W.getD k .any= .int .i64 ((vs[k].pg:Nat):Int):=by
    rw[hW]
    simp[List.getD,List.getElem?_eq_getElem hc]
   have hdk:vs.drop k=vs[k]::vs.drop (k+1):=List.drop_eq_getElem_cons hc
   rw[hdk,List.map_cons,List.flatten_cons] at hrun ll4
   rw[qy] at hrun
   generalize vs[k]=u at*
   rw[List.length_append] at ll4
   have hy:=Dh L u lo2 hi2 h4 ac (d+1) (key:=key) g4 ok tb hbo hi' l0 n0 ht hm l1 l2 n1 n2 lu ab hp ab
   have happ:=qw to bq (dG key (aP L u)) (dG key (((vs.drop (k+1)).map (aP L)).flatten)) ac
   rw[hrun] at happ
   have hlen:=qx to bq (dG key (aP L u)) ac
   have hlen2:(dG key (aP L u)).length≤(aP L u).length:=List.length_filter_le _ _
   generalize dX to bq (dG key (aP L u)) ac=rs at*
   have e3:IntKind.i64.wrap ((d:Int)+1)=((d+1:Nat):Int):=by rw[IntWalk.i64_in _ ab];rfl
   rw[←hyf] at hy
   refine rf0 (cj7 dk hgk x1 x2 @and_self @Int.toNat_natCast e3) ?_
   refine an.ba (vals:=[.ptr tid 0,.int .i64 (u.pg:Nat),.int .i64 ((d+1:Nat):Int),.str key,yf]) ae xA4 hy fun q h5 ⟨e5,g5,no5,kb5⟩ n5 _=>?_
   subst e5
   refine an.evF xAc ?_
   refine an.nil ?_
   cases hb:rs.2 with
   |false=>
    rw[hb] at happ
    simp only[Bool.false_eq_true,if_false] at happ
    rw[happ]
    refine rf0 @Bool.not_false ?_
    refine Wp.ret ⟨trivial,.bool false,?_,by rw[hb],g5,aq.trans no4 no5 ab ab,fun j a b=>(kb5 j ab b).trans (kb4 j a b)⟩
    simp only[go_sem]
    exact rfl
   |true=>
    rw[hb] at happ
    simp only[if_true] at happ
    have e4:IntKind.i64.wrap ((k:Int)+1)=((k+1:Nat):Int):=by rw[IntWalk.i64_in _ ab];rfl
    refine rf0 (cj2 @Bool.not_true e4) ?_
    refine ⟨(k+1,rs.1,h5),⟨by simp only;omega,g5,happ.symm,aq.trans no4 no5 ab ab,fun j a b=>(kb5 j ab b).trans (kb4 j a b),by simp only;omega,by simp only;omega⟩,by simp only;omega,aM.tm ?_⟩
    exact xSb
  ·have dk:decide ((k:Int)<((W.length:Nat):Int))=false:=decide_eq_false ab
   have he:vs.drop k=[]:=List.drop_eq_nil_of_le ab
   rw[he] at hrun
   have hrun:(ac,true)=dX to bq (dG key ((vs.map (aP L)).flatten)) acc:=hrun
   rw[←hrun]
   refine rf0 dk ?_
   refine Wp.ret ⟨trivial,.bool true,?_,rfl,g4,no4,kb4⟩
   simp only[go_sem]
   exact rfl
end
def jy (l:List Pr) (key to:Bs) (bq:Int):List Pr:=if bq=0 then [] else (dX to bq (dG key l) []).1
section
variable {x:PgI} {s:PgS} {T:List Nat} {h:H}
set_option maxHeartbeats 1000000 in
theorem Hn {tid b0 b1 b2 b3 b4:Nat} {R:Rt} {key to:Bs} {bq:Int} (g:Ts0 x T tid s R h) (h0:h.objs b0=some (.cells [.ptr tid 0])) (h1:h.objs b1=some (.cells [.int .i64 bq])) (h2:h.objs b2=some (.cells [.str key])) (h3:h.objs b3=some (.cells [.str to])) (h4:h.objs b4=some (.cells [.sl 2 [] (.exact 0)])) (t4:Tid x b4) (n3:b3≠b4) (n1:b1≠b4) (nt:tid≠b4)
  (hL:∀L t,R=some ⟨L,t⟩→L≤6) (hp:s.p.length<900000) (hl:(aG R).length≤1000000):
  aJ Tryz.prog 37 [.ptr b0 0,.ptr b1 0,.ptr b2 0,.ptr b3 0,.ptr b4 0] h fun q h'=>Sc x s T h b4 (jy (aG R) key to bq) h':=by
 have l1:=g.pg.ltn (j:=b1) (by rw[h1];rfl)
 have l3:=g.pg.ltn (j:=b3) (by rw[h3];rfl)
 have l4:=g.pg.ltn (j:=b4) (by rw[h4];rfl)
 have lt:=g.lt
 have sc0:Sc x s T h b4 [] h:=⟨⟨none,g.pg,h4,fun _=>rfl,fun t e=>by cases e⟩,fun _ _ _=>rfl,aq.refl h,Nat.le_refl _⟩
 refine f37.bC af ?_
 unfold c37 zz
 have ot:h.objs tid=some (.cells [.ptr x.P 0,.int .i64 (rpg R)]):=g.ot
 have stop:jy (aG R) key to bq=[]→Sc x s T h b4 (jy (aG R) key to bq) h:=fun e=>e▸sc0
 cases R with
 |none=>
  have ot:h.objs tid=some (.cells [.ptr x.P 0,.int .i64 (-1)]):=ot
  have d3:decide ((-1:Int)<0)=true:=by decide
  refine rf0 (cj5 h0 h1 h2 ot d3) ?_
  refine Wp.ret ⟨trivial,.tup [],by simp[dg,rvs],stop (by unfold jy aG dG dX;simp)⟩
 |some r=>
  obtain ⟨L,t⟩:=r
  have ot:h.objs tid=some (.cells [.ptr x.P 0,.int .i64 ((t.pg:Nat):Int)]):=ot
  have d3:decide (((t.pg:Nat):Int)<0)=false:=decide_eq_false ab
  by_cases hm:bq=0
  ·have d4:=decide_eq_true hm
   refine rf0 (cj6 h0 h1 h2 ot d3 d4) ?_
   refine Wp.ret ⟨trivial,.tup [],by simp[dg,rvs],stop (by unfold jy;rw[if_pos hm])⟩
  ·have d4:=decide_eq_false hm
   have lv:=g.rk L t rfl
   have hw:=Dh L t [] none h [] 1 (key:=key) sc0 g.ok t4 l4 g.ot lt nt h3 h1 l3 l1 n3 n1 lv (by simpa [aG] using hl) hp (by have:=hL L t rfl;omega)
   refine rf0 (cj6 h0 h1 h2 ot d3 d4) ?_
   refine Wp.reg ?_
   refine ao.part 7 (xAe (cj4 h0 h1 h2 ot)) ?_
   simp only[List.drop_succ_cons,List.drop_zero,List.drop_nil]
   refine ao.ba (vals:=[.ptr tid 0,.int .i64 (t.pg:Nat),.int .i64 ((1:Nat):Int),.str key,mj b3 b4 b1]) ae (by simp only[go_sem,reduceIte,Nat.reduceEqDiff,List.map,mj];exact ay.refl _) (fun j hj=>g.pg.ltn hj) hw (fun r h' ⟨e,g',no',kb'⟩=>no') fun q h2 ⟨hq,g2,no2,kb2⟩ nq _=>?_
   refine ao.nil ⟨by simp[bf,aQ,apart,aX],?_⟩
   refine ⟨trivial,.tup [],by simp[dg,rvs],?_⟩
   unfold jy
   rw[if_neg hm]
   exact g2
theorem PgH.Di {tk:Option Nat} (g:PgH x s (tkT tk T) h):PgH x s T {h with toks:=tkT s.tk T} where
 oP:=g.oP
 oA:=g.oA
 oU:=g.oU
 oD:=g.oD
 oK:=g.oK
 oI:=g.oI
 lt:=g.lt
 ne:=g.ne
 fresh:=g.fresh
 toks:=rfl
 tm t ht:=g.tm t (by cases tk<;>simp[tkT,ht])
 tkm t e:=⟨(g.tkm t e).1,fun a=>(g.tkm t e).2 (by cases tk<;>simp[tkT,a])⟩
 tk0:=g.tk0
theorem EI {tk sk:Option Nat} {T:List Nat}:∀y∈tkT sk T,y∈tkT sk (tkT tk T):=fun y hy=>by
 cases sk<;>cases tk<;>simp[tkT] at hy ⊢
 ·exact hy
 ·exact .inr hy
 ·exact hy
 ·rcases hy with a|a
  ·exact .inl a
  ·exact .inr (.inr a)
set_option maxHeartbeats 1000000 in
theorem F5 {tid:Nat} {R:Rt} {key to:Bs} {bq:Int} (g:Ts0 x T tid s R h) (hL:∀L t,R=some ⟨L,t⟩→L≤6) (hp:s.p.length<900000) (hl:(aG R).length≤1000000):
  aJ Tryz.prog 13 [.ptr tid 0,.str key,.str to,.int .i64 bq] h fun q h'=>iB x T tid s R h h'∧q= .tup [.sl 2 (prs (jy (aG R) key to bq)) .any,.int .i64 0]:=by
 refine f13.bC af ?_
 unfold c13 zz
 have b1:=(iB.refl g).new (.cells [.ptr tid 0])
 have b2:=b1.new (.cells [.str key])
 have b3:=b2.new (.cells [.str to])
 have b4:=b3.new (.cells [.int .i64 bq])
 have bb:=b4.new (.cells [.sl 2 [] (.exact 0)])
 have lt:=g.lt
 obtain ⟨h5,hh⟩:∃h5,h5=H.new (H.new (H.new (H.new (H.new h (.cells [.ptr tid 0])) (.cells [.str key])) (.cells [.str to])) (.cells [.int .i64 bq])) (.cells [.sl 2 [] (.exact 0)]):=⟨_,rfl⟩
 have e0:h5.objs h.n=some (.cells [.ptr tid 0]):=by rw[hh];simp only[H.new,upd];(repeat rw[if_neg ab]);simp
 have e1:h5.objs (h.n+1)=some (.cells [.str key]):=by rw[hh];simp[H.new,upd]
 have e2:h5.objs (h.n+1+1)=some (.cells [.str to]):=by rw[hh];simp[H.new,upd]
 have e3:h5.objs (h.n+1+1+1)=some (.cells [.int .i64 bq]):=by rw[hh];simp[H.new,upd]
 have e4:h5.objs (h.n+1+1+1+1)=some (.cells [.sl 2 [] (.exact 0)]):=by rw[hh];simp[H.new,upd]
 have ln5:h5.n=h.n+1+1+1+1+1:=by rw[hh];rfl
 rw[←hh] at bb
 refine Wp.bu (xAd @and_self) ?_
 refine an.nil ?_
 refine Wp.bu (xAd @and_self) ?_
 refine an.nil ?_
 refine Wp.le (s':=⟨tm [(4,.ptr h.n 0),(5,.ptr (h.n+1) 0),(6,.ptr (h.n+1+1) 0),(7,.ptr (h.n+1+1+1) 0),(10,.ptr (h.n+1+1+1+1) 0)],h5⟩) (aM.of (bA ?_) (by rw[hh];exact OLe.refl _) (fun y hy=>by rw[hh] at hy;exact hy) (by rw[hh];exact Nat.le_refl _) (by rw[hh];exact Nat.le_refl _)) ?_
 ·exact xSb
 clear hh b1 b2 b3 b4
 have key2:aJ Tryz.prog 34 [.ptr tid 0,.clo (.func 37) [] [.ptr h.n 0,.ptr (h.n+1+1+1) 0,.ptr (h.n+1) 0,.ptr (h.n+1+1) 0,.ptr (h.n+1+1+1+1) 0]] h5 fun q h'=>q= .int .i64 0∧Sc x s T h5 (h.n+1+1+1+1) (jy (aG R) key to bq) h':=by
  refine (sq bb.ts.op Tryz.func37 rfl (of_decide_eq_true (by kernel_rfl)) (Hn bb.ts e0 e3 e1 e2 e4 (dB g.pg ab) ab ab ab hL hp hl)).mono ?_
  rintro q h' ⟨rfl,r,sc⟩
  exact ⟨rfl,sc⟩
 refine rf0 e0 ?_
 refine an.ba (vals:=[.ptr tid 0,.clo (.func 37) [] [.ptr h.n 0,.ptr (h.n+1+1+1) 0,.ptr (h.n+1) 0,.ptr (h.n+1+1) 0,.ptr (h.n+1+1+1+1) 0]]) ae xA4 key2 fun q h6 ⟨hq,sc⟩ n6 _=>?_
 subst hq
 obtain ⟨⟨tk,pg,hb,hz,hT⟩,kp,no,ln⟩:=sc
 generalize jy (aG R) key to bq=out at*
 refine an.evF xAc ?_
 refine an.nil ?_
 have d0:decide ((0:Int)=0)=true:=by decide
 refine rf0 (cj3 hb d0 @Bool.not_true) ?_
 refine Wp.le (s':=⟨tm [(8,.sl 2 (prs out) .any),(9,.int .i64 0)],{h6 with toks:=tkT s.tk T}⟩) (aM.of (bA ?_) (OLe.refl _) (fun y hy=>?_) (Nat.le_refl _) (Nat.le_refl _)) ?_
 ·simp only[bg,go_sem,reduceIte,Nat.reduceEqDiff,Nat.reduceAdd,bx];and_intros<;>first|exact trivial|exact av.refl _|exact av.any _|exact av.cap|(refine av.int ?_;omega)
 ·rw[pg.toks];exact EI y hy
 refine Wp.ret ⟨trivial,.tup [.sl 2 (prs out) .any,.int .i64 0],?_,⟨bb.ts.keep pg.Di (kp tid (by have:=bb.ts.lt;omega) ab),aq.trans bb.no no bb.ln ln,Nat.le_trans bb.ln ln,fun j hj=>(kp j ab ab).trans (bb.kp j hj)⟩,rfl⟩
 simp only[go_sem]
 exact rfl
theorem F6 {tid B:Nat} {R:Rt} {key to:Bs} {bq:Int} (g:Ts x T tid s R B h) (hL:∀L t,R=some ⟨L,t⟩→L≤6) (hp:s.p.length<900000) (hl:(aG R).length≤1000000):
  aJ Tryz.prog 13 [.ptr tid 0,.str key,.str to,.int .i64 bq] h fun q h'=>fR x T tid s R B h h'∧q= .tup [.sl 2 (prs (jy (aG R) key to bq)) .any,.int .i64 0]:=
 (F5 g.z hL hp hl).mono fun q h' ⟨b,e⟩=>⟨.of g b,e⟩
end
def fO (lo:Bs) (hi:Option Bs):List AV:=[.str lo,.str (hi.getD []),.bool hi.isNone]
theorem Dl {lo key:Bs} {hi:Option Bs} (hb:inB lo hi key):bj Tryz.prog 70 [.agg (fO lo hi),.str key] (.bool true):=by
 refine f70.cV af (by simp[aU,bn,cF,fO]) (by simp[bn,cF]) ?_
 unfold c70 zz
 have d1:Op.bytesLess key lo=false:=hb.1
 unfold fO
 cases hi with
 |none=>
  simp only[Option.getD_none,Option.isNone_none]
  refine an0 (cj2 d1 @Bool.not_false) ?_
  refine Wp.ret ⟨trivial,.bool true,?_,av.refl _⟩
  simp only[go_sem]
  exact rfl
 |some b=>
  have d2:Op.bytesLess key b=true:=hb.2 b rfl
  simp only[Option.getD_some,Option.isNone_some]
  refine an0 (cj3 d1 d2 @Bool.not_false) ?_
  refine Wp.ret ⟨trivial,.bool true,?_,av.refl _⟩
  simp only[go_sem]
  exact rfl
section
variable {x:PgI} {s:PgS} {T:List Nat} {h:H}
theorem F7 {L tid d:Nat} {r:Int} {lo:Bs} {hi:Option Bs} {t:Tr L} (g:PgH x s T h) (ok:cu s) (ht:h.objs tid=some (trO x r)) (lv:gF s L lo hi t) (hp:s.p.length<900000) (hd:d≤20):
  aJ Tryz.prog 41 [.ptr tid 0,.int .i64 (t.pg:Nat),.int .i64 (d:Int)] h fun q h'=>q=aD (bF L t.ks t.kids)∧PgH x s T h'∧Kept h h'∧aq h h':=by
 obtain ⟨hs,hi'⟩:=lv.st t.pg (by simp[aW])
 have hnd:=iY (tid:=tid) (i:=t.pg) (d:=d) g ok ht hi' (by show stt s t.pg≠0;omega) hp hd lv.on.1.1
 rw[lv.on.1.2] at hnd
 exact hnd
set_option maxHeartbeats 2000000 in
theorem qz {L tid d:Nat} {r:Int} {lo:Bs} {hi:Option Bs} {t:Tr L} {Q:aV→St→Prop} (g:PgH x s T h) (ok:cu s) (ht:h.objs tid=some (trO x r)) (lv:gF s L lo hi t) (hp:s.p.length<900000) (hd:d≤20) (hkb:∀k∈t.ks,inB lo hi k) (hkl:t.ks.length≤1000000)
  (hK:∀(h':H) (bb nid:Nat),PgH x s T h'→Kept h h'→aq h h'→h.n≤h'.n→bb<h'.n→nid<h'.n→h.n≤nid→h.n≤bb→h'.objs bb=some (.cells (fO lo hi))→h'.objs nid=some (aC (bF L t.ks t.kids))→Wp Tryz.prog 100 (tlC (tlC (tlC c36))) ⟨tm [(0,.ptr tid 0),(2,.int .i64 (d:Int)),(7,.ptr bb 0),(8,.int .i64 0),(9,.int .i64 0),(10,.ptr nid 0)],h'⟩ Q):
  Wp Tryz.prog 100 c36 ⟨gM [.ptr tid 0,.int .i64 (t.pg:Nat),.int .i64 (d:Int),.agg (fO lo hi)],h⟩ Q:=by
 unfold c36 at hK ⊢
 simp only[tlC] at hK
 have hnk:∀k,(strs (bF L t.ks t.kids).keys).getD k .any=(strs t.ks).getD k .any:=fun k=>by cases L<;>rfl
 have hnl:(bF L t.ks t.kids).keys.length=t.ks.length:=by cases L<;>rfl
 have lt:=g.ltn (j:=tid) (by rw[ht];rfl)
 obtain ⟨h1,hh1⟩:∃h1,h1=H.new h (.cells (fO lo hi)):=⟨_,rfl⟩
 have g1:PgH x s T h1:=hh1▸g.new _
 have hb1:h1.objs h.n=some (.cells (fO lo hi)):=hh1▸bZ
 have k1:Kept h h1:=fun j hj=>hh1▸aO hj
 have no1:aq h h1:=hh1▸bP
 have ln1:h1.n=h.n+1:=hh1▸rfl
 have hnd:=F7 (d:=d) g1 ok ((k1 tid lt).trans ht) lv hp hd
 refine Wp.seq ?_
 unfold fO at hh1
 refine Wp.dd (xAd @fO.eq_1) ?_
 refine an.nil ?_
 refine Wp.le (s':=⟨tm [(0,.ptr tid 0),(1,.int .i64 (t.pg:Nat)),(2,.int .i64 (d:Int)),(7,.ptr h.n 0),(8,.int .i64 0),(9,.int .i64 0)],h1⟩) (aM.of (bA ?_) (by rw[hh1];exact OLe.refl _) (fun y hy=>by rw[hh1] at hy;exact hy) (by rw[hh1];exact Nat.le_refl _) (by rw[hh1];exact Nat.le_refl _)) ?_
 ·exact xSb
 clear hh1
 refine rf0 @and_self ?_
 refine an.ba (vals:=[.ptr tid 0,.int .i64 (t.pg:Nat),.int .i64 (d:Int)]) ae xA4 hnd fun q h2 ⟨hq,g2,k2,no2⟩ nq _=>?_
 subst hq
 unfold aD
 refine an.evF xAc ?_
 rw[bB]
 refine an.nil ?_
 obtain ⟨h3,hh3⟩:∃h3,h3=H.new h2 (aC (bF L t.ks t.kids)):=⟨_,rfl⟩
 have g3:PgH x s T h3:=hh3▸g2.new _
 have k3:Kept h1 h3:=fun j hj=>hh3▸(aO ab).trans (k2 j hj)
 have no3:aq h h3:=aq.trans no1 (hh3▸aq.trans no2 bP nq (Nat.le_succ _)) ab (by rw[hh3];exact Nat.le_succ_of_le nq)
 have nn3:h3.objs h2.n=some (aC (bF L t.ks t.kids)):=hh3▸bZ
 have ln3:h3.n=h2.n+1:=hh3▸rfl
 refine Wp.le (s':=⟨tm [(0,.ptr tid 0),(2,.int .i64 (d:Int)),(7,.ptr h.n 0),(8,.int .i64 0),(9,.int .i64 0),(10,.ptr h2.n 0)],h3⟩) (aM.of (bA ?_) (by rw[hh3];exact OLe.refl _) (fun y hy=>by rw[hh3] at hy;exact hy) (by rw[hh3];exact Nat.le_refl _) (by rw[hh3];exact Nat.le_refl _)) ?_
 ·exact xSb
 clear hh3
 have hb3:=(k3 h.n ab).trans hb1
 have W:=hK h3 h.n h2.n g3 (fun j hj=>(k3 j ab).trans (k1 j hj)) no3 ab ab ab ab ab hb3 nn3
 refine Wp.jK _ ?_ W
 clear W hK
 generalize h.n=bb at*
 generalize h2.n=nid at*
 obtain ⟨KL,hKL⟩:∃KL,KL=strs (bF L t.ks t.kids).keys:=⟨_,rfl⟩
 have hKl:KL.length=t.ks.length:=by rw[hKL];simp[strs,hnl]
 unfold aC at nn3
 rw[←hKL] at nn3
 refine rf0 nn3 ?_
 refine Wp.eI [0,2,7,8,9,10,23,24] xA7 (fun k:Nat=>[(25,.int .i64 (k:Int))]) (fun _=>h3) (fun k=>k≤t.ks.length) (fun k=>t.ks.length - k) 0 (Nat.zero_le _) rfl ?_ ?_
 ·exact xSb
 intro k hk
 by_cases hc:k<t.ks.length
 ·have x1:(0:Int)≤(k:Int):=by omega
  have x2:(k:Int)<((KL.length:Nat):Int):=by omega
  have dk:=decide_eq_true x2
  have hgk:KL.getD k .any= .str t.ks[k]:=by
   rw[hKL,hnk]
   simp[strs,List.getD,List.getElem?_eq_getElem hc]
  have cw:=Dl (hkb t.ks[k] (List.getElem_mem hc))
  generalize t.ks[k]=K0 at*
  have e4:IntKind.i64.wrap ((k:Int)+1)=((k+1:Nat):Int):=by rw[IntWalk.i64_in _ ab];rfl
  unfold fO at hb3 cw
  refine rf1 (cj9 dk hgk x1 x2 @and_self @Int.toNat_natCast e4 hb3 @Bool.not_true) cw ?_
  refine ⟨k+1,ab,ab,aM.tm ?_⟩
  exact xSb
 ·have dk:decide ((k:Int)<((KL.length:Nat):Int))=false:=decide_eq_false ab
  refine rf0 dk ?_
  exact aM.tm (by
   exact xSb
   )
def tO (x:PgI) (s:PgS) (T:List Nat) (h:H) (tid:Nat) (L:Nat) (lo:Bs) (hi:Option Bs) (t:Tr L) (d:Nat):Prop:=aJ Tryz.prog 36 [.ptr tid 0,.int .i64 (t.pg:Nat),.int .i64 (d:Int),.agg (fO lo hi)] h fun q h'=>q= .tup [.int .i64 ((aP L t).length:Nat),.int .i64 ((d+L:Nat):Int)]∧PgH x s T h'∧Kept h h'∧aq h h'
theorem xn {tid d:Nat} {r:Int} {lo:Bs} {hi:Option Bs} {t:Tr 0} (g:PgH x s T h) (ok:cu s) (ht:h.objs tid=some (trO x r)) (lv:gF s 0 lo hi t) (hp:s.p.length<900000) (hd:d≤20) (hl:(aP 0 t).length≤1000000):tO x s T h tid 0 lo hi t d:=by
 obtain ⟨i,ks,vs'⟩:=t
 obtain ⟨vs,hvs⟩:∃vs:List Bs,vs=vs':=⟨vs',rfl⟩
 subst hvs
 obtain ⟨hr,hz,h3,h4⟩:=lv.wf
 have hr:right (aB ks vs)=true:=hr
 have h3:0<ks.length:=h3
 obtain ⟨r1,r2,-⟩:=(bD (n:=aB ks vs) rfl).1 hr
 have r2:vs.length=ks.length:=r2
 have hpl:(aP 0 (⟨i,ks,vs⟩:Nd Bs)).length=ks.length:=by
  show (List.zipWith Pr.mk ks vs).length=_
  simp[r2]
 have hl:ks.length≤1000000:=hpl▸hl
 have h4:∀k∈ks,inB lo hi k:=h4
 show aJ _ _ _ _ fun q h'=>q= .tup [.int .i64 ((aP 0 (⟨i,ks,vs⟩:Nd Bs)).length:Nat),.int .i64 ((d+0:Nat):Int)]∧_
 rw[hpl]
 refine f36.bC af (qz (L:=0) g ok ht lv hp hd h4 hl fun h' bb nid g' k' no' ln' lb ln l1 l2 hb hn=>?_)
 have hn:h'.objs nid=some (aC (aB ks vs)):=hn
 unfold c36 zz
 simp only[tlC]
 have hlf:(aB ks vs).leaf=true:=rfl
 have hkl:(aB ks vs).keys.length=ks.length:=rfl
 have d0:decide (((ks.length:Nat):Int)=0)=false:=decide_eq_false ab
 unfold aC at hn
 rw[hlf] at hn
 refine rf0 (cj3 hn hkl d0) ?_
 refine Wp.ret ⟨trivial,.tup [.int .i64 (ks.length:Nat),.int .i64 ((d+0:Nat):Int)],?_,rfl,g',k',no'⟩
 simp only[go_sem]
 exact rfl
end
section
variable {x:PgI} {s:PgS} {T:List Nat}
theorem cK {f:Nat→Option Av.Obj} {i:Nat} {a b:Option Av.Obj}:upd (upd f i a) i b=upd f i b:=by
 funext j;simp only[upd];split<;>rfl
set_option maxHeartbeats 4000000 in
theorem yA:∀(L:Nat) (t:Tr L) (lo:Bs) (hi:Option Bs) (h:H) (d:Nat) {tid:Nat} {r:Int},PgH x s T h→cu s→h.objs tid=some (trO x r)→gF s L lo hi t→(aP L t).length≤1000000→s.p.length<900000→d+L≤20→tO x s T h tid L lo hi t d
 |0,t,lo,hi,h,d,tid,r,g,ok,ht,lv,hl,hp,hd=>xn g ok ht lv hp ab hl
 |L+1,t',lo,hi,h,d,tid,r,g,ok,ht,lv',hl,hp,hd=>by
  obtain ⟨i,ks,us'⟩:=t'
  obtain ⟨us,hus⟩:∃us:List (Tr L),us=us':=⟨us',rfl⟩
  subst hus
  have lv':gF s (L+1) lo hi (mkT L i ks us):=lv'
  obtain ⟨hr,hz,hw⟩:=lv'.wf
  have hw:bJ (WF L) lo hi ks us:=hw
  have hr:right (au L ks us)=true:=hr
  have hz:size (au L ks us)≤1024:=hz
  have hul:us.length=ks.length+1:=hw.len
  have hst:=lv'.st
  have hndp:=lv'.nd
  have lvu:∀k u,us[k]? =some u→gF s L (dQ lo ks k) (eV hi ks k) u:=fun k u hu=>by
   have hum:u∈us:=List.mem_of_getElem? hu
   have hk:k<us.length:=(List.getElem?_eq_some_iff.1 hu).1
   obtain ⟨u',hu',wu,-⟩:=hw.at (j:=k) ab
   rw[hu] at hu'
   cases hu'
   have hpg:=gg (i:=i) (ks:=ks) hu
   have hnd:=hndp
   have hst:=hst
   rw[hpg] at hnd hst
   refine ⟨(dL.1 lv'.on.2) u hum,wu,?_,fun j hj=>hst j (by simp[hj])⟩
   simp only[List.nodup_cons,List.nodup_append] at hnd
   exact hnd.2.2.1.1
  have hkb:∀k∈ks,inB lo hi k:=fun k hk=>by
   obtain ⟨⟨-,q⟩,-⟩:=bJ.keys (nice L) hw
   exact ⟨lG (q k hk).1,(q k hk).2⟩
  have hsz:size (au L ks us)=7+5*ks.length+tot ks:=by simp[size,au]
  have hl:((us.map (aP L)).flatten).length≤1000000:=hl
  show aJ _ _ _ _ fun q h'=>q= .tup [.int .i64 (((us.map (aP L)).flatten).length:Nat),.int .i64 ((d+(L+1):Nat):Int)]∧_
  refine f36.bC af (qz (L:=L+1) (t:=mkT L i ks us) g ok ht lv' hp ab hkb (by show ks.length≤_;omega) fun h1 bb nid g1 k1 no1 ln1 lb ln l1 l2 hb hn=>?_)
  have hn:h1.objs nid=some (aC (au L ks us)):=hn
  unfold c36 zz
  simp only[tlC]
  have hlf:(au L ks us).leaf=false:=rfl
  have hkl:(au L ks us).keys.length=ks.length:=rfl
  have hil:(au L ks us).kids.length=us.length:=by simp[au]
  have lt:=g.ltn (j:=tid) (by rw[ht];rfl)
  unfold aC at hn
  rw[hlf] at hn
  refine rf0 (cj2 hn hil) ?_
  obtain ⟨W,hW⟩:∃W,W=ints (au L ks us).kids:=⟨_,rfl⟩
  have hWl:W.length=us.length:=by rw[hW];simp[ints,au]
  rw[←hW] at hn ⊢
  obtain ⟨KL,hKL⟩:∃KL,KL=strs (au L ks us).keys:=⟨_,rfl⟩
  have hKl:KL.length=ks.length:=by rw[hKL];simp[strs,au]
  rw[←hKL] at hn
  refine Wp.eI [0,2,7,10,47,48] xA7 (fun b:Nat × H=>[(49,.int .i64 (b.1:Int)),(8,.int .i64 ((((us.take b.1).map (aP L)).flatten).length:Nat)),(9,.int .i64 ((if b.1=0 then 0 else d+(L+1):Nat):Int))]) (fun b=>b.2) (fun b=>b.1≤us.length∧PgH x s T b.2∧Kept h1 b.2∧aq h1 b.2∧h1.n≤b.2.n) (fun b=>us.length - b.1) (0,h1) ⟨Nat.zero_le _,g1,fun _ _=>rfl,aq.refl _,Nat.le_refl _⟩ rfl ?_ ?_
  ·exact xSb
  rintro ⟨k,h4⟩ ⟨hk,g4,k4,no4,ln4⟩
  simp only at hk g4 k4 no4 ln4
  by_cases hc:k<us.length
  ·have x1:(0:Int)≤(k:Int):=by omega
   have x2:(k:Int)<((W.length:Nat):Int):=by omega
   have dk:decide ((k:Int)<((us.length:Nat):Int))=true:=decide_eq_true ab
   have hgk:W.getD k .any= .int .i64 ((us[k].pg:Nat):Int):=by
    rw[hW]
    simp[ints,au,List.getD,List.getElem?_eq_getElem hc]
   have lu:=lvu k us[k] (List.getElem?_eq_getElem hc)
   have htk:us.take (k+1)=us.take k++[us[k]]:=List.take_succ_eq_append_getElem hc
   have hP:(((us.take (k+1)).map (aP L)).flatten).length=(((us.take k).map (aP L)).flatten).length+(aP L us[k]).length:=by rw[htk,List.map_append,List.flatten_append,List.length_append,List.map_singleton,List.flatten_singleton]
   have hPl:(((us.take (k+1)).map (aP L)).flatten).length≤1000000:=by
    have e:=hl
    rw[←List.take_append_drop (k+1) us,List.map_append,List.flatten_append,List.length_append] at e
    omega
   generalize us[k]=u at*
   have hn4:=(k4 nid ln).trans hn
   have hb4:=(k4 bb lb).trans hb
   have ht4:=(k4 tid ab).trans ((k1 tid lt).trans ht)
   generalize hp0:(((us.take k).map (aP L)).flatten).length=p0 at*
   generalize hp1:(((us.take (k+1)).map (aP L)).flatten).length=p1 at*
   obtain ⟨A0,hA0⟩:∃A0,A0=fO lo hi:=⟨_,rfl⟩
   have hKk:∀j,(hj:j<ks.length)→KL.getD j .any= .str ks[j]:=fun j hj=>by
    rw[hKL]
    simp[strs,au,List.getD,List.getElem?_eq_getElem hj]
   unfold fO at hb4
   refine Wp.bu (xAd dk) ?_
   refine an.nil ?_
   refine Wp.seq ?_
   refine Wp.cond_true (by simp only[go_sem,reduceIte,Nat.reduceEqDiff,Nat.reduceAdd,bx,dk]) ?_
   refine Wp.skip ?_
   refine Wp.seq (Wp.block ?_)
   refine Wp.bu (xAd (cj5 hgk x1 x2 @and_self @Int.toNat_natCast)) ?_
   refine an.nil ?_
   refine Wp.bu (xAd hb4) ?_
   rw[bB]
   refine an.nil ?_
   obtain ⟨h5,hh5⟩:∃h5,h5=H.new h4 (.cells [.str lo,.str (hi.getD []),.bool hi.isNone]):=⟨_,rfl⟩
   refine Wp.le (s':=⟨tm [(0,.ptr tid 0),(2,.int .i64 (d:Int)),(7,.ptr bb 0),(8,.int .i64 (p0:Int)),(9,.int .i64 ((if k=0 then 0 else d+(L+1):Nat):Int)),(10,.ptr nid 0),(13,.int .i64 (k:Int)),(14,.int .i64 (u.pg:Nat)),(15,.ptr h4.n 0),(47,.sl 1 W .any),(48,.int .i64 (us.length:Nat)),(49,.int .i64 (k:Int))],h5⟩) (aM.of (bA ?_) (by rw[hh5];exact OLe.refl _) (fun y hy=>by rw[hh5] at hy;exact hy) (by rw[hh5];exact Nat.le_refl _) (by rw[hh5];exact Nat.le_refl _)) ?_
   ·exact xSb
   obtain ⟨TT,hTT⟩:∃TT:List (Nat × AV),TT=[(0,.ptr tid 0),(2,.int .i64 (d:Int)),(7,.ptr bb 0),(8,.int .i64 (p0:Int)),(9,.int .i64 ((if k=0 then 0 else d+(L+1):Nat):Int)),(10,.ptr nid 0),(13,.int .i64 (k:Int)),(14,.int .i64 (u.pg:Nat)),(15,.ptr h4.n 0),(47,.sl 1 W .any),(48,.int .i64 (us.length:Nat)),(49,.int .i64 (k:Int))]:=⟨_,rfl⟩
   have hnn:nid≠h4.n:=by omega
   have hn5:∀o,(H.new h4 o).objs nid=some (.cells [.bool false,.sl 1 KL .any,.sl 1 (strs (au L ks us).vals) .any,.sl 1 W .any]):=fun o=>(aO ab).trans hn4
   have hi5:∀o,(H.new h4 o).objs h4.n=some o:=fun o=>bZ
   refine Wp.jK ⟨tm TT,H.new h4 (.cells [.str (dQ lo ks k),.str (hi.getD []),.bool hi.isNone])⟩ ?_ ?_
   ·by_cases hk0:k=0
    ·have d5:decide ((0:Int)<(k:Int))=false:=decide_eq_false ab
     have e:dQ lo ks k=lo:=by unfold dQ;rw[if_pos hk0]
     rw[e,←hh5,hTT]
     refine rf0 d5 ?_
     refine aM.tm ?_
     exact xSb
    ·have d5:decide ((0:Int)<(k:Int))=true:=decide_eq_true ab
     have e:KL.getD (k - 1) .any= .str (dQ lo ks k):=by
      rw[hKk (k - 1) ab]
      unfold dQ
      rw[if_neg hk0,List.getD_eq_getElem?_getD,List.getElem?_eq_getElem ab]
      rfl
     have e6:IntKind.i64.wrap ((k:Int) - 1)=((k - 1:Nat):Int):=by rw[IntWalk.i64_in _ ab];omega
     have y1:(0:Int)≤((k - 1:Nat):Int):=by omega
     have y2:((k - 1:Nat):Int)<((KL.length:Nat):Int):=by omega
     have hn6:=hn5 (.cells [.str lo,.str (hi.getD []),.bool hi.isNone])
     have hi6:=hi5 (.cells [.str lo,.str (hi.getD []),.bool hi.isNone])
     rw[←hh5] at hn6 hi6
     refine rf0 (cj9 d5 hn6 hi6 e6 y1 y2 @and_self @Int.toNat_natCast e) ?_
     rw[hTT]
     refine aM.of (bA ?_) (by rw[hh5];simp only[H.new,cK];exact OLe.refl _) (fun y hy=>by rw[hh5];exact hy) (by rw[hh5];exact Nat.le_refl _) (by rw[hh5];exact Nat.le_refl _)
     exact xSb
   clear hh5 h5
   refine Wp.jK ⟨tm TT,H.new h4 (.cells (fO (dQ lo ks k) (eV hi ks k)))⟩ ?_ ?_
   ·rw[hTT]
    have hn6:=hn5 (.cells [.str (dQ lo ks k),.str (hi.getD []),.bool hi.isNone])
    have hi6:=hi5 (.cells [.str (dQ lo ks k),.str (hi.getD []),.bool hi.isNone])
    obtain ⟨h6,hh6⟩:∃h6,h6=H.new h4 (.cells [.str (dQ lo ks k),.str (hi.getD []),.bool hi.isNone]):=⟨_,rfl⟩
    rw[←hh6] at hn6 hi6 ⊢
    by_cases hk0:k<ks.length
    ·have d5:decide ((k:Int)<((KL.length:Nat):Int))=true:=decide_eq_true ab
     have y2:(k:Int)<((KL.length:Nat):Int):=by omega
     have e:=hKk k hk0
     have e9:fO (dQ lo ks k) (eV hi ks k)=[.str (dQ lo ks k),.str ks[k],.bool false]:=by
      unfold fO eV
      rw[if_pos hk0,List.getD_eq_getElem?_getD,List.getElem?_eq_getElem hk0]
      rfl
     rw[e9]
     refine rf0 (cj8 d5 hn6 hi6 x1 y2 @and_self @Int.toNat_natCast e) ?_
     refine aM.of (bA ?_) (by rw[hh6];simp only[H.new,cK];exact OLe.refl _) (fun y hy=>by rw[hh6];exact hy) (by rw[hh6];exact Nat.le_refl _) (by rw[hh6];exact Nat.le_refl _)
     exact xSb
    ·have d5:decide ((k:Int)<((KL.length:Nat):Int))=false:=decide_eq_false ab
     have e9:fO (dQ lo ks k) (eV hi ks k)=[.str (dQ lo ks k),.str (hi.getD []),.bool hi.isNone]:=by
      unfold fO eV
      rw[if_neg hk0]
     rw[e9,←hh6]
     refine rf0 (cj2 d5 hn6) ?_
     refine aM.tm ?_
     exact xSb
   have hi7:=hi5 (.cells (fO (dQ lo ks k) (eV hi ks k)))
   have g7:=g4.new (.cells (fO (dQ lo ks k) (eV hi ks k)))
   have k7:Kept h1 (H.new h4 (.cells (fO (dQ lo ks k) (eV hi ks k)))):=fun j hj=>(aO ab).trans (k4 j hj)
   have no7:aq h1 (H.new h4 (.cells (fO (dQ lo ks k) (eV hi ks k)))):=aq.trans no4 bP ln4 (Nat.le_succ _)
   have ht7:(H.new h4 (.cells (fO (dQ lo ks k) (eV hi ks k)))).objs tid=some (trO x r):=(aO ab).trans ht4
   have ln7:(H.new h4 (.cells (fO (dQ lo ks k) (eV hi ks k)))).n=h4.n+1:=rfl
   generalize H.new h4 (.cells (fO (dQ lo ks k) (eV hi ks k)))=h7 at*
   have hc:=yA L u (dQ lo ks k) (eV hi ks k) h7 (d+1) g7 ok ht7 lu ab hp ab
   unfold tO at hc
   rw[hTT]
   have e3:IntKind.i64.wrap ((d:Int)+1)=((d+1:Nat):Int):=by rw[IntWalk.i64_in _ ab];rfl
   unfold fO at hi7 hc
   generalize h4.n=nb at*
   refine rf0 (cj2 hi7 e3) ?_
   refine an.ba (vals:=[.ptr tid 0,.int .i64 (u.pg:Nat),.int .i64 ((d+1:Nat):Int),.agg (fO (dQ lo ks k) (eV hi ks k))]) ae xA4 hc fun q h8 ⟨hq,g8,k8,no8⟩ nq _=>?_
   subst hq
   refine an.evF xAc ?_
   refine an.nil ?_
   have e4:IntKind.i64.wrap ((k:Int)+1)=((k+1:Nat):Int):=by rw[IntWalk.i64_in _ ab];rfl
   have e5:IntKind.i64.wrap ((p0:Int)+(((aP L u).length:Nat):Int))=((p1:Nat):Int):=by rw[IntWalk.i64_in _ ab,hP];rfl
   have inv:∀st:Tm,bg st [(0,.ptr tid 0),(2,.int .i64 (d:Int)),(7,.ptr bb 0),(10,.ptr nid 0),(47,.sl 1 W .any),(48,.int .i64 (us.length:Nat)),(49,.int .i64 ((k+1:Nat):Int)),(8,.int .i64 (p1:Int)),(9,.int .i64 ((d+1+L:Nat):Int))]→∃b':Nat × H,(b'.1≤us.length∧PgH x s T b'.2∧Kept h1 b'.2∧aq h1 b'.2∧h1.n≤b'.2.n)∧us.length - b'.1<us.length - k∧aM ⟨st,h8⟩ ⟨tm ([(0,.ptr tid 0),(2,.int .i64 (d:Int)),(7,.ptr bb 0),(10,.ptr nid 0),(47,.sl 1 W .any),(48,.int .i64 (us.length:Nat))]++[(49,.int .i64 (b'.1:Int)),(8,.int .i64 ((((us.take b'.1).map (aP L)).flatten).length:Nat)),(9,.int .i64 ((if b'.1=0 then 0 else d+(L+1):Nat):Int))]),b'.2⟩:=fun st hs=>by
    refine ⟨(k+1,h8),⟨by simp only;omega,g8,fun j hj=>(k8 j ab).trans (k7 j hj),aq.trans no7 no8 ab ab,by simp only;omega⟩,by simp only;omega,aM.tm ?_⟩
    simp only
    rw[hp1,if_neg ab,show d+(L+1)=d+1+L by omega]
    exact hs
   by_cases hk0:k=0
   ·have d5:decide ((0:Int)<(k:Int))=false:=decide_eq_false ab
    refine rf0 (cj3 d5 e4 e5) ?_
    refine inv _ ?_
    exact xSb
   ·have d5:decide ((0:Int)<(k:Int))=true:=decide_eq_true ab
    have d6:decide (((d+1+L:Nat):Int)=((if k=0 then 0 else d+(L+1):Nat):Int))=true:=decide_eq_true (by rw[if_neg hk0];omega)
    refine rf0 (cj5 d5 d6 e4 e5 @Bool.not_true) ?_
    refine inv _ ?_
    exact xSb
  ·have dk:decide ((k:Int)<((us.length:Nat):Int))=false:=decide_eq_false ab
   have hz:us.take k=us:=List.take_of_length_le ab
   have hk0:¬(k=0):=by omega
   refine rf0 dk ?_
   refine Wp.ret ⟨trivial,.tup [.int .i64 (((us.map (aP L)).flatten).length:Nat),.int .i64 ((d+(L+1):Nat):Int)],?_,rfl,g4,fun j hj=>(k4 j ab).trans (k1 j hj),aq.trans no1 no4 ab ab⟩
   rw[hz,if_neg hk0]
   simp only[go_sem]
   exact rfl
end
section
variable {x:PgI} {s:PgS} {T:List Nat} {h:H}
set_option maxHeartbeats 1000000 in
theorem F8 {tid b0 b1:Nat} {R:Rt} (g:Ts0 x T tid s R h) (h0:h.objs b0=some (.cells [.ptr tid 0])) (h1:h.objs b1=some (.cells [.int .i64 0])) (t1:Tid x b1)
  (hL:∀L t,R=some ⟨L,t⟩→L≤6) (hp:s.p.length<900000) (hl:(aG R).length≤1000000):
  aJ Tryz.prog 35 [.ptr b0 0,.ptr b1 0] h fun q h'=>PgH x s T h'∧(∀j,j<h.n→j≠b1→h'.objs j=h.objs j)∧aq h h'∧h'.objs b1=some (.cells [.int .i64 ((aG R).length:Nat)])∧h.n≤h'.n:=by
 have lt1:=g.pg.ltn (j:=b1) (by rw[h1];rfl)
 refine f35.bC af ?_
 unfold c35 zz
 have ot:h.objs tid=some (.cells [.ptr x.P 0,.int .i64 (rpg R)]):=g.ot
 cases R with
 |none=>
  have ot:h.objs tid=some (.cells [.ptr x.P 0,.int .i64 (-1)]):=ot
  have d3:decide ((0:Int)≤(-1:Int))=false:=by decide
  refine rf0 (cj4 h0 h1 ot d3) ?_
  refine ⟨trivial,.tup [],by simp[dg,rvs],g.pg,fun _ _ _=>rfl,aq.refl _,h1,Nat.le_refl _⟩
 |some r=>
  obtain ⟨L,t⟩:=r
  have ot:h.objs tid=some (.cells [.ptr x.P 0,.int .i64 ((t.pg:Nat):Int)]):=ot
  have d3:decide ((0:Int)≤((t.pg:Nat):Int))=true:=decide_eq_true ab
  have lv:=g.rk L t rfl
  have hL':=hL L t rfl
  have hw:=yA L t [] none h 1 g.pg g.ok g.ot lv hl hp ab
  unfold tO at hw
  refine rf0 (cj4 h0 h1 ot d3) ?_
  refine Wp.reg ?_
  refine ao.part 6 (xAe (cj2 h0 ot)) ?_
  simp only[List.drop_succ_cons,List.drop_zero,List.drop_nil]
  refine ao.ba (vals:=[.ptr tid 0,.int .i64 (t.pg:Nat),.int .i64 ((1:Nat):Int),.agg (fO [] none)]) ae xA4 (fun j hj=>g.pg.ltn hj) hw (fun r h' ⟨e,g',k',no'⟩=>no') fun q h2 ⟨hq,g2,k2,no2⟩ nq _=>?_
  subst hq
  have h12:=(k2 b1 lt1).trans h1
  refine ao.part 4 (xAe h12) ?_
  simp only[List.drop_succ_cons,List.drop_zero,List.drop_nil]
  refine ao.nil ⟨by simp[bf,aQ,apart,aX],?_⟩
  refine ⟨trivial,.tup [],by simp[dg,rvs],g2.qt t1 ab _,fun j a b=>?_,aq.trans no2 (aq.set h12) nq (Nat.le_refl _),by simp[upd,aG],nq⟩
  simp only[upd];rw[if_neg b];exact k2 j a
set_option maxHeartbeats 1000000 in
theorem EJ {tid:Nat} {R:Rt} (g:Ts0 x T tid s R h) (hL:∀L t,R=some ⟨L,t⟩→L≤6) (hp:s.p.length<900000) (hl:(aG R).length≤1000000):
  aJ Tryz.prog 12 [.ptr tid 0] h fun q h'=>iB x T tid s R h h'∧q= .tup [.int .i64 ((aG R).length:Nat),.int .i64 0]:=by
 refine f12.bC af ?_
 unfold c12 zz
 have bb:=((iB.refl g).new (.cells [.ptr tid 0])).new (.cells [.int .i64 0])
 have lt:=g.lt
 obtain ⟨h5,hh⟩:∃h5,h5=H.new (H.new h (.cells [.ptr tid 0])) (.cells [.int .i64 0]):=⟨_,rfl⟩
 have e0:h5.objs h.n=some (.cells [.ptr tid 0]):=by rw[hh];simp[H.new,upd]
 have e1:h5.objs (h.n+1)=some (.cells [.int .i64 0]):=by rw[hh];simp[H.new,upd]
 have ln5:h5.n=h.n+1+1:=by rw[hh];rfl
 rw[←hh] at bb
 refine Wp.bu (xAd @and_self) ?_
 refine an.nil ?_
 refine Wp.bu (xAd @and_self) ?_
 rw[bB]
 refine an.nil ?_
 refine Wp.le (s':=⟨tm [(1,.ptr h.n 0),(4,.ptr (h.n+1) 0)],h5⟩) (aM.of (bA ?_) (by rw[hh];exact OLe.refl _) (fun y hy=>by rw[hh] at hy;exact hy) (by rw[hh];exact Nat.le_refl _) (by rw[hh];exact Nat.le_refl _)) ?_
 ·exact xSb
 clear hh
 have key2:aJ Tryz.prog 34 [.ptr tid 0,.clo (.func 35) [] [.ptr h.n 0,.ptr (h.n+1) 0]] h5 fun q h'=>q= .int .i64 0∧PgH x s T h'∧(∀j,j<h5.n→j≠h.n+1→h'.objs j=h5.objs j)∧aq h5 h'∧h'.objs (h.n+1)=some (.cells [.int .i64 ((aG R).length:Nat)])∧h5.n≤h'.n:=by
  refine (sq bb.ts.op Tryz.func35 rfl (of_decide_eq_true (by kernel_rfl)) (F8 bb.ts e0 e1 (dB g.pg ab) hL hp hl)).mono ?_
  rintro q h' ⟨rfl,r,sc⟩
  exact ⟨rfl,sc⟩
 refine rf0 e0 ?_
 refine an.ba (vals:=[.ptr tid 0,.clo (.func 35) [] [.ptr h.n 0,.ptr (h.n+1) 0]]) ae xA4 key2 fun q h6 ⟨hq,g6,k6,no6,hb,n6⟩ _ _=>?_
 subst hq
 refine an.evF xAc ?_
 refine an.nil ?_
 have d0:decide ((0:Int)=0)=true:=by decide
 refine rf0 (cj3 hb d0 @Bool.not_true) ?_
 refine Wp.ret ⟨trivial,.tup [.int .i64 ((aG R).length:Nat),.int .i64 0],?_,⟨bb.ts.keep g6 (k6 tid (by have:=bb.ts.lt;omega) ab),aq.trans bb.no no6 bb.ln n6,Nat.le_trans bb.ln n6,fun j hj=>(k6 j ab ab).trans (bb.kp j hj)⟩,rfl⟩
 simp only[go_sem]
 exact rfl
theorem EL {tid B:Nat} {R:Rt} (g:Ts x T tid s R B h) (hL:∀L t,R=some ⟨L,t⟩→L≤6) (hp:s.p.length<900000) (hl:(aG R).length≤1000000):
  aJ Tryz.prog 12 [.ptr tid 0] h fun q h'=>fR x T tid s R B h h'∧q= .tup [.int .i64 ((aG R).length:Nat),.int .i64 0]:=
 (EJ g.z hL hp hl).mono fun q h' ⟨b,e⟩=>⟨.of g b,e⟩
theorem F9 {tid B:Nat} {R:Rt} (g:Ts x T tid s R B h):aK Tryz.prog 18 [.ptr tid 0] h (.int .i64 (rpg R)) h:=by
 have ot:h.objs tid=some (.cells [.ptr x.P 0,.int .i64 (rpg R)]):=g.ot
 have co:=uW (gh g)
 refine f18.cd af ?_
 unfold c18 zz
 refine rg1 (cj2 ot @Bool.not_true) co ?_
 refine Wp.ret ⟨trivial,_,?_,av.refl _,rfl⟩
 simp only[go_sem]
 exact rfl
end
section
variable {x:PgI} {s:PgS} {T:List Nat} {h0 h:H} {o:Nat} {l:List Nat}
def dY (l:List Nat):List Int:=l.map fun j=>((j:Nat):Int)
theorem kH (a:List Nat):(dY a).length=a.length:=by simp[dY]
theorem PgH.row (g:PgH x s T h) (to:Tid x o) (c:Av.Obj):PgH x s T ⟨upd (fun j=>if j=o then none else h.objs j) h.n (some c),h.n+1,h.toks,h.m⟩:=by
 have q:∀j,j<h.n→j≠o→upd (fun j=>if j=o then none else h.objs j) h.n (some c) j=h.objs j:=fun j a b=>by
  simp only[upd];rw[if_neg ab,if_neg b]
 have lt:=g.lt
 exact {
  oP:=(q _ lt.1 to.1.symm).trans g.oP
  oA:=(q _ lt.2.1 to.2.1.symm).trans g.oA
  oU:=(q _ lt.2.2.1 to.2.2.1.symm).trans g.oU
  oD:=(q _ lt.2.2.2.1 to.2.2.2.1.symm).trans g.oD
  oK:=(q _ lt.2.2.2.2.1 to.2.2.2.2.1.symm).trans g.oK
  oI:=(q _ lt.2.2.2.2.2 to.2.2.2.2.2.symm).trans g.oI
  lt:=⟨Nat.lt_succ_of_lt lt.1,Nat.lt_succ_of_lt lt.2.1,Nat.lt_succ_of_lt lt.2.2.1,Nat.lt_succ_of_lt lt.2.2.2.1,Nat.lt_succ_of_lt lt.2.2.2.2.1,Nat.lt_succ_of_lt lt.2.2.2.2.2⟩
  ne:=g.ne
  fresh:=fun j hj=>by
   have hj:h.n+1≤j:=hj
   simp only[upd]
   rw[if_neg ab]
   split
   ·rfl
   ·exact g.fresh j ab
  toks:=g.toks
  tm:=g.tm
  tkm:=g.tkm
  tk0:=g.tk0}
structure kJ (x:PgI) (s:PgS) (T:List Nat) (h0:H) (o:Nat) (l:List Nat) (h:H):Prop where
 pg:PgH x s T h
 ro:h.objs o=some (.cells (ints (dY l)))
 n0:h0.n≤o
 kp:∀j,j<h0.n→h.objs j=h0.objs j
 no:aq h0 h
 ln:h0.n≤h.n
theorem kJ.lt (g:kJ x s T h0 o l h):o<h.n:=g.pg.ltn (by rw[g.ro];rfl)
theorem kJ.HP {h':H} (g:kJ x s T h0 o l h) (pg:PgH x s T h') (k:Kept h h') (no:aq h h') (ln:h.n≤h'.n):kJ x s T h0 o l h':=
 ⟨pg,(k o g.lt).trans g.ro,g.n0,fun j hj=>(k j (by have:=g.ln;omega)).trans (g.kp j hj),aq.trans g.no no g.ln ln,Nat.le_trans g.ln ln⟩
def Ho (x:PgI) (s:PgS) (T:List Nat) (h0:H) (l:List Nat) (q:AV) (h:H):Prop:=(h=h0∧l=[]∧q= .sl 1 [] (.exact 0))∨∃o,q= .tsl 1 o 0 l.length none∧kJ x s T h0 o l h
def EM (x:PgI) (s:PgS) (T:List Nat) (h0:H) (l:List Nat) (q:AV) (h:H):Prop:=∃o,q= .tsl 1 o 0 l.length none∧kJ x s T h0 o l h
set_option maxHeartbeats 2000000 in
theorem qA {tid i d m:Nat} {r:Int} {acc:List Nat} {nd:Page.Node} {kdv:Nat→Nat} {A:Nat→List Nat} {q:AV} (g0:PgH x s T h0) (ok:cu s) (ht:h0.objs tid=some (trO x r))
  (hnd:∀h',PgH x s T h'→h'.objs tid=some (trO x r)→aJ Tryz.prog 41 [.ptr tid 0,.int .i64 (i:Nat),.int .i64 (d:Int)] h' fun q h''=>q=aD nd∧PgH x s T h''∧Kept h' h''∧aq h' h'')
  (hm:nd.kids.length=m) (hmb:m≤1000000) (hk:∀k,k<m→(ints nd.kids).getD k .any= .int .i64 ((kdv k:Nat):Int)) (hd:d≤20) (hA:A 0=acc++[i]) (hl0:acc.length<1000000)
  (rec:∀k,k<m→∀h o,kJ x s T h0 o (A k) h→aJ Tryz.prog 62 [.ptr tid 0,.int .i64 (kdv k:Nat),.int .i64 ((d+1:Nat):Int),.tsl 1 o 0 (A k).length none] h (EM x s T h0 (A (k+1))))
  (hq:Ho x s T h0 acc q h):aJ Tryz.prog 62 [.ptr tid 0,.int .i64 (i:Nat),.int .i64 (d:Int),q] h (EM x s T h0 (A m)):=by
 have lt0:=g0.ltn (j:=tid) (by rw[ht];rfl)
 refine f62.bC af ?_
 unfold c62 zz
 refine Wp.seq ?_
 refine Wp.dd (xAd @and_self) ?_
 refine an.nil ?_
 refine Wp.seq (Wp.ex (β:=Nat × H) (fun b=>⟨tm [(0,.ptr tid 0),(1,.int .i64 (i:Nat)),(2,.int .i64 (d:Int)),(3,.tsl 1 b.1 0 (acc++[i]).length none)],b.2⟩) (fun b=>kJ x s T h0 b.1 (acc++[i]) b.2∧h.n≤b.2.n) ?_ ?_)
 ·rcases hq with ⟨rfl,rfl,rfl⟩|⟨o,rfl,g⟩
  ·refine Wp.zU ?_
   refine an.op1 ae xAc ?_
   simp only[bX]
   refine an.op1 ae xAc ?_
   simp only[bX]
   refine an.op1 ae xAc ?_
   simp only[bX]
   refine an.opT ae (by simp only[gJ,go_sem,reduceIte,Nat.reduceEqDiff,Nat.reduceAdd,bx,List.all_cons,List.all_nil,List.length_cons,List.length_nil,Nat.reduceMul,Nat.reduceLeDiff,Nat.reduceLT,Nat.zero_lt_succ,and_self,if_true,decide_true,Bool.and_self];exact rfl) ?_
   simp only[bX]
   refine an.evF xAc ?_
   refine an.nil ?_
   refine ⟨(h.n,_),⟨⟨g0.new (.cells (ints (dY [i]))),bZ,Nat.le_refl _,fun j hj=>aO hj,bP,Nat.le_succ _⟩,Nat.le_succ _⟩,aM.tm ?_⟩
   exact xSb
  ·have hacl:(ints (dY acc)).length=acc.length:=by simp[ints,dY]
   have r1:(acc.length+1)*8≤140737488355328:=by omega
   have r2:acc.length+1<4611686018427387904:=by omega
   have hro:=g.ro
   refine Wp.zU ?_
   refine an.op1 ae xAc ?_
   simp only[bX]
   refine an.op1 ae xAc ?_
   simp only[bX]
   refine an.op1 ae xAc ?_
   simp only[bX]
   refine an.opK ae (by simp only[lq,go_sem,reduceIte,Nat.reduceEqDiff,Nat.reduceAdd,bx,List.all_cons,List.all_nil,List.length_cons,List.length_nil,hro,hacl,Nat.mul_one,r1,r2,and_self,if_true,if_false,decide_true,Bool.and_self];exact rfl) ?_
   simp only[bX]
   refine an.evF xAc ?_
   refine an.nil ?_
   have to:Tid x o:=dB g0 g.n0
   have hpr:=g.pg.row to (.cells (ints (dY (acc++[i]))))
   have e:ints (dY acc)++List.flatMap cellsOf [AV.int IntKind.i64 ((i:Nat):Int)]=ints (dY (acc++[i])):=by simp[ints,dY,cellsOf]
   rw[e]
   refine ⟨(h.n,_),⟨⟨hpr,by simp only[upd,if_true],g.ln,fun j hj=>?_,?_,Nat.le_succ_of_le g.ln⟩,Nat.le_succ _⟩,aM.tm ?_⟩
   ·have:=g.ln
    have:=g.n0
    simp only[upd]
    rw[if_neg ab,if_neg ab]
    exact g.kp j hj
   ·refine aq.trans g.no (fun j hj=>?_) g.ln (Nat.le_succ _)
    simp only[upd] at hj
    by_cases e1:j=h.n
    ·exact .inr ⟨ab,by show j<h.n+1;omega⟩
    ·rw[if_neg e1] at hj
     split at hj
     ·cases hj
     ·exact .inl hj
   ·rw[show (acc++[i]).length=acc.length+1 by simp]
    exact xSb
 ·rintro ⟨o1,h1⟩ s' ⟨g1,n1⟩ hs
  simp only at g1 n1 hs
  refine Wp.le hs ?_
  clear hq hs
  have c1:=hnd h1 g1.pg ((g1.kp tid lt0).trans ht)
  obtain ⟨W,hW⟩:∃W,W=ints nd.kids:=⟨_,rfl⟩
  have hWl:W.length=m:=by rw[hW];simp[ints,hm]
  rw[←hW] at hk
  refine rf0 @and_self ?_
  refine an.ba (vals:=[.ptr tid 0,.int .i64 (i:Nat),.int .i64 (d:Int)]) ae xA4 c1 fun q2 h2 ⟨hq2,g2,k2,no2⟩ n2 _=>?_
  subst hq2
  unfold aD
  rw[←hW]
  have g3:=g1.HP g2 k2 no2 n2
  refine an.evF (xAd hWl) ?_
  refine an.nil ?_
  rw[show acc.length+1=(A 0).length by rw[hA];simp]
  refine Wp.block ?_
  refine Wp.eI [0,2,19,20] xA7 (fun b:Nat × Nat × H=>[(21,.int .i64 (b.1:Int)),(3,.tsl 1 b.2.1 0 (A b.1).length none)]) (fun b=>b.2.2) (fun b=>b.1≤m∧kJ x s T h0 b.2.1 (A b.1) b.2.2) (fun b=>m - b.1) (0,o1,h2) ⟨Nat.zero_le _,by rw[hA];exact g3⟩ rfl ?_ ?_
  ·exact xSb
  clear g3 g1 c1 k2 no2 g2
  rintro ⟨k,o4,h4⟩ ⟨hkm,g4⟩
  simp only at hkm g4
  by_cases hc:k<m
  ·have x1:(0:Int)≤(k:Int):=by omega
   have x2:(k:Int)<((W.length:Nat):Int):=by omega
   have dk:decide ((k:Int)<((m:Nat):Int))=true:=decide_eq_true ab
   have hgk:=hk k hc
   have e3:IntKind.i64.wrap ((d:Int)+1)=((d+1:Nat):Int):=by rw[IntWalk.i64_in _ ab];rfl
   have e4:IntKind.i64.wrap ((k:Int)+1)=((k+1:Nat):Int):=by rw[IntWalk.i64_in _ ab];rfl
   have hr:=rec k hc h4 o4 g4
   refine rf0 (cj7 dk hgk x1 x2 @and_self @Int.toNat_natCast e3) ?_
   refine an.ba (vals:=[.ptr tid 0,.int .i64 (kdv k:Nat),.int .i64 ((d+1:Nat):Int),.tsl 1 o4 0 (A k).length none]) ae xA4 hr fun q5 h5 ⟨o5,hq5,g5⟩ n5 _=>?_
   subst hq5
   refine an.evF xAc ?_
   refine an.nil ?_
   refine rf0 e4 ?_
   refine ⟨(k+1,o5,h5),⟨by simp only;omega,g5⟩,by simp only;omega,aM.tm ?_⟩
   exact xSb
  ·obtain rfl:k=m:=by omega
   have dk:decide ((k:Int)<((k:Nat):Int))=false:=decide_eq_false ab
   refine rf0 dk ?_
   refine Wp.ret ⟨trivial,.tsl 1 o4 0 (A k).length none,?_,o4,rfl,g4⟩
   simp only[go_sem]
   exact rfl
end
end Go.Proofs.YtbgmofhgfnmaiaaGreat.Tree
end
section
set_option maxRecDepth 100000
namespace Go.Proofs.YtbgmofhgfnmaiaaGreat.R10
open Go Go.Av Go.Proofs Go.Proofs.YtbgmofhgfnmaiaaGreat.C Go.Proofs.YtbgmofhgfnmaiaaGreat.Batch
theorem iC (l:List Pr) (c:Pr):prs l++[.agg [.str c.k,.str c.v]]=prs (l++[c]):=by simp[prs,aZ]
theorem Dm {α:Type} [Inhabited α] {l:List α} {i:Nat} (h:i<l.length):l.getD i default=l[i]:=by
 rw[List.getD_eq_getElem?_getD,List.getElem?_eq_getElem h];rfl
def ml (k:Bs) (p:Pr):Bool:=decide (p.k=k)
def AY (l:List Pr) (k:Bs):Bs:=match l.find? (ml k) with|some p=>p.v|none=>[]
def mn (l:List Pr) (k:Bs):Nat:=match l.find? (ml k) with|some _=>0|none=>7
theorem EN {l:List Pr} {k:Bs} {j:Nat} (hj:j<l.length) (h:∀i,i<j→¬(l.getD i default).k=k) (hk:(l.getD j default).k=k):l.find? (ml k)=some (l.getD j default):=by
 rw[Dm hj] at hk ⊢
 rw[List.find?_eq_some_iff_getElem]
 refine ⟨by simp[ml,hk],j,hj,rfl,fun i hi=>?_⟩
 have:=h i hi
 rw[Dm ab] at this
 simp[ml,this]
theorem EO {l:List Pr} {k:Bs} (h:∀i,i<l.length→¬(l.getD i default).k=k):l.find? (ml k)=none:=by
 rw[List.find?_eq_none]
 intro x hx
 obtain ⟨i,hi,rfl⟩:=List.getElem_of_mem hx
 have:=h i hi
 rw[Dm hi] at this
 simp[ml,this]
theorem Dp (l:List Pr) (hl:l.length≤4611686018427387904) (k:Bs):bj Tryz.prog 15 [.sl 2 (prs l) .any,.str k] (.tup [.str (AY l k),.int .i64 (mn l k)]):=by
 refine f15.cV af (by simp[aU,bn,cF,js]) (by simp[bn,aU]) ?_
 unfold c15 zz
 refine GW ?_
 refine Wp.ko [0,1] xA6 (fun j:Nat=>[(6,.int .i64 j)]) (fun j=>j≤l.length∧∀i,i<j→¬(l.getD i default).k=k) (fun j=>l.length - j) 0 ⟨Nat.zero_le _,fun i h=>absurd h ab⟩ ?_ ?_
 ·exact xSb
 ·rintro j ⟨hj,hr⟩
  by_cases hc:j<l.length
  ·have d1:decide ((j:Int)<(l.length:Int))=true:=decide_eq_true ab
   have h2:(0:Int)≤(j:Int):=by omega
   have h3:(j:Int)<(l.length:Int):=by omega
   have e1:IntKind.i64.wrap ((j:Int)+1)=((j+1:Nat):Int):=by rw[IntWalk.i64_in _ ab];omega
   by_cases hk:(l.getD j default).k=k
   ·have d2:decide ((l.getD j default).k=k)=true:=decide_eq_true hk
    have hf:=EN hc hr hk
    refine an0 (cj8 @cH d1 d2 h2 h3 @Int.toNat_natCast (fun d=>fo _ _ d hc) @aZ.eq_1) ?_
    refine cN ?_
    exact av.of_eq (by simp only[AY,mn,hf];rfl)
   ·have d2:decide ((l.getD j default).k=k)=false:=decide_eq_false hk
    refine an0 (cj9 @cH d1 d2 h2 h3 e1 @Int.toNat_natCast (fun d=>fo _ _ d hc) @aZ.eq_1) ?_
    refine ⟨j+1,⟨ab,fun i hi=>?_⟩,ab,?_⟩
    ·by_cases he:i=j
     ·subst he;exact hk
     ·exact hr i ab
    ·exact xSu
  ·obtain rfl:j=l.length:=by omega
   have d1:decide ((l.length:Int)<(l.length:Int))=false:=decide_eq_false ab
   have hf:=EO hr
   refine an0 (cj2 @cH d1) ?_
   refine cN ?_
   exact av.of_eq (by simp only[AY,mn,hf];rfl)
def rest (k:Bs) (l:List Pr):List Pr:=l.filter fun p=> !ml k p
theorem AZ (k:Bs) (p:Pr) (l:List Pr):rest k (p::l)=(if p.k=k then [] else [p])++rest k l:=by
 simp only[rest,List.filter_cons,ml]
 by_cases h:p.k=k<;>simp[h]
def fq (l:List Pr) (k:Bs):List Pr:=if mn l k=0 then rest k l else l
def jz (l:List Pr) (k:Bs):Nat:=mn l k
theorem xo (l:List Pr) (k:Bs):mn l k=0∨mn l k=7:=by
 unfold mn;split<;>simp
set_option maxHeartbeats 2000000 in
theorem yB (l:List Pr) (hl:l.length≤1000000) (k:Bs):bj Tryz.prog 19 [.sl 2 (prs l) .any,.str k] (.tup [.sl 2 (prs (fq l k)) .any,.int .i64 (jz l k)]):=by
 refine f19.cV af (by simp[aU,bn,cF,js]) (by simp[bn,aU,cF,js]) ?_
 unfold c19 zz
 have hg:=Dp l ab k
 rcases xo l k with h0|h7
 ·have hd:fq l k=rest k l:=by rw[fq,if_pos h0]
  have he:jz l k=0:=h0
  rw[hd,he]
  rw[h0] at hg
  have z:decide (((0:Nat):Int)=0)=true:=by decide
  refine an1 z hg ?_
  refine Wp.le (aM.tok _ _) ?_
  refine Wp.sN [0,1] xA7 (fun (j:Nat × List Pr) tk=>[(8,.sl 2 (prs j.2) (.own tk)),(9,.int .i64 j.1)]) (fun j=>j.1≤l.length∧j.2++rest k (l.drop j.1)=rest k l∧j.2.length≤j.1) (fun j=>l.length - j.1) (0,[]) _ ⟨Nat.zero_le _,by simp,Nat.le_refl _⟩ rfl ?_ ?_
  ·simp only[bg,go_sem,reduceIte,Nat.reduceEqDiff,Nat.reduceAdd,bx];and_intros<;>first|exact trivial|exact av.refl _|exact av.any _|exact av.lV rfl|(refine av.int ?_;omega)
  ·rintro ⟨j,o⟩ tk m ⟨hj,ho,hol⟩
   simp only at hj ho hol
   by_cases hc:j<l.length
   ·have d1:decide ((j:Int)<(l.length:Int))=true:=decide_eq_true ab
    have h2:(0:Int)≤(j:Int):=by omega
    have h3:(j:Int)<(l.length:Int):=by omega
    have e1:IntKind.i64.wrap ((j:Int)+1)=((j+1:Nat):Int):=by rw[IntWalk.i64_in _ ab];omega
    rw[x8 hc,AZ] at ho
    have g0:(o.length+1)*32≤140737488355328:=by omega
    have g0':o.length+1<4611686018427387904:=by omega
    by_cases hk:(l.getD j default).k=k
    ·have d2:decide ((l.getD j default).k=k)=true:=decide_eq_true hk
     rw[if_pos hk,List.nil_append] at ho
     refine an0 (cj9 @cH d1 d2 h2 h3 e1 @Int.toNat_natCast (fun d=>fo _ _ d hc) @aZ.eq_1) ?_
     refine ⟨(j+1,o),tk,m,⟨by simp only;omega,ho,by simp only;omega⟩,by simp only;omega,?_⟩
     exact xSu
    ·have d2:decide ((l.getD j default).k=k)=false:=decide_eq_false hk
     rw[if_neg hk] at ho
     refine an0 (cL @cH d1 d2 h2 h3 e1 @Int.toNat_natCast (fun d=>fo _ _ d hc) @aZ.eq_1 @List.length_cons.{0} @List.length_nil.{0} (cj3 @Nat.zero_add g0 g0')) ?_
     refine ⟨(j+1,o++[l.getD j default]),m,m+1,⟨by simp only;omega,by rw[←ho];simp,by simp;omega⟩,by simp only;omega,?_⟩
     refine aM.tm (by simp only[bg,go_sem,reduceIte,Nat.reduceEqDiff,Nat.reduceAdd,bx];and_intros<;>first|exact trivial|exact av.refl _|exact av.any _|exact av.of_eq (by rw[←iC])|(refine av.int ?_;omega))
   ·obtain rfl:j=l.length:=by omega
    have d1:decide ((l.length:Int)<(l.length:Int))=false:=decide_eq_false ab
    rw[List.drop_length] at ho
    have ho':o=rest k l:=by rw[←ho];simp[rest]
    refine an0 (cj2 @cH d1) ?_
    refine cN ?_
    rw[ho']
    exact av.tup (ay.cons av.own (ay.refl _))
 ·have hd:fq l k=l:=by rw[fq,if_neg ab]
  have he:jz l k=7:=h7
  rw[hd,he]
  rw[h7] at hg
  have z:decide (((7:Nat):Int)=0)=false:=by decide
  refine an1 z hg ?_
  refine cN ?_
  exact av.refl _
def shut (k v:Bs):Bool:=decide (128<k.length)||decide (200<v.length)
def gO (k v:Bs):Bool→List Pr→List Pr
 |laid,[]=>if laid then [] else [⟨k,v⟩]
 |laid,p::l=>(if laid=false∧Op.bytesLess p.k k=false then [⟨k,v⟩] else [])++((if p.k=k then [] else [p])++gO k v (laid|| !Op.bytesLess p.k k) l)
def iZ (l:List Pr) (k v:Bs):List Pr:=if shut k v then l else gO k v false l
def iS (k v:Bs):Nat:=if shut k v then 2 else 0
theorem Ba {k n:Nat} (h:k<n) (hn:n≤10000000):decide ((k:Int)<(n:Int))=true∧(0:Int)≤(k:Int)∧(k:Int)<(n:Int)∧IntKind.i64.wrap ((k:Int)+1)=((k+1:Nat):Int):=by
 refine ⟨decide_eq_true ab,ab,ab,?_⟩
 rw[IntWalk.i64_in _ ab];omega
theorem Ga (n:Nat):decide ((n:Int)<(n:Int))=false:=decide_eq_false ab
theorem yC (l:List Pr) (j:Nat) (d:AV) (h:j<l.length):(prs l).getD j d= .agg [.str (l.getD j default).k,.str (l.getD j default).v]:=by
 simp[prs,aZ,List.getD,List.getElem?_eq_getElem h]
theorem pd (a b:List Pr) (ha:a.length≤1000000) (hb:b.length≤1000000):bj Tryz.prog 16 [.sl 2 (prs a) .any,.sl 2 (prs b) .any] (.bool (decide (a=b))):=by
 refine f16.cV af (by simp[aU,bn,cF,js]) rfl ?_
 unfold c16 zz
 have lea:=cH a
 have leb:=cH b
 by_cases hlen:a.length=b.length
 ·have e0:decide (((a.length:Nat):Int)=((b.length:Nat):Int))=true:=decide_eq_true ab
  refine rn0 (cj4 lea leb e0 @Bool.not_true) ?_
  refine Wp.ko [0,1] xA6 (fun j:Nat=>[(5,.int .i64 (j:Nat))]) (fun j=>j≤a.length∧a.take j=b.take j) (fun j=>a.length - j) 0 ⟨Nat.zero_le _,rfl⟩ ?_ ?_
  ·exact xSb
  rintro j ⟨hj,hpre⟩
  by_cases hc:j<a.length
  ·obtain ⟨g1,g2,g3,e1⟩:=Ba hc (Nat.le_trans ha ah)
   have g4:(j:Int)<(b.length:Int):=by omega
   have hat:=yC a j .any hc
   have hbt:=yC b j .any ab
   have ea:a.getD j default=a[j]:=by simp[List.getD,List.getElem?_eq_getElem hc]
   have eb:b.getD j default=b[j]:=by simp[List.getD,List.getElem?_eq_getElem (show j<b.length by omega)]
   by_cases hp:a.getD j default=b.getD j default
   ·have hnext:a.take (j+1)=b.take (j+1):=by
     rw[List.take_succ_eq_append_getElem hc,List.take_succ_eq_append_getElem (show j<b.length by omega),hpre,←ea,←eb,hp]
    rw[←hp] at hbt
    generalize a.getD j default=p at*
    refine rn0 (cL g1 g2 g3 g4 lea leb hat hbt @Int.toNat_natCast @beq_self_eq_true.{0} @bne_self_eq_false.{0} (cj4 @decide_true @Bool.and_self @Option.map_some.{0,0} @Bool.not_true)) ?_
    refine ⟨j+1,⟨ab,hnext⟩,Nat.sub_lt_sub_left hc (Nat.lt_succ_self _),?_⟩
    refine aM.tm (by simp only[bg,go_sem,reduceIte,Nat.reduceEqDiff,Nat.reduceAdd,bx,e1];and_intros<;>first|exact trivial|exact av.refl _|exact av.any _|(refine av.int ?_;omega))
   ·have hne:decide (a=b)=false:=decide_eq_false fun h=>hp (by rw[h])
    rw[hne]
    generalize a.getD j default=p at*
    generalize b.getD j default=q at*
    have dpq:(decide (p.k=q.k)&&decide (p.v=q.v))=false:=by
     rw[Bool.and_eq_false_iff]
     by_cases h1:p.k=q.k
     ·refine .inr (decide_eq_false fun h2=>hp ?_)
      obtain ⟨pk,pv⟩:=p
      obtain ⟨qk,qv⟩:=q
      simp only at h1 h2
      rw[h1,h2]
     ·exact .inl (decide_eq_false h1)
    refine rn0 (cL g1 g2 g3 g4 lea leb hat hbt dpq @Int.toNat_natCast @Option.map_some.{0,0} @Bool.not_false) ?_
    refine cN ?_
    exact av.refl _
  ·have hj2:j=a.length:=by omega
   subst hj2
   have g1:=Ga a.length
   have he:decide (a=b)=true:=by
    rw[List.take_length,hlen,List.take_length] at hpre
    exact decide_eq_true hpre
   rw[he]
   refine rn0 (cj2 g1 lea) ?_
   refine cN ?_
   exact av.refl _
 ·have e0:decide (((a.length:Nat):Int)=((b.length:Nat):Int))=false:=decide_eq_false ab
  have hne:decide (a=b)=false:=decide_eq_false fun h=>hlen (by rw[h])
  rw[hne]
  refine rn0 (cj4 lea leb e0 @Bool.not_false) ?_
  refine cN ?_
  exact av.refl _
theorem Hp {l:List Pr} (hk:∀p∈l,Ls p.k) (i:Nat):Ls (l.getD i default).k:=by
 by_cases h:i<l.length
 ·rw[List.getD_eq_getElem?_getD,List.getElem?_eq_getElem h];exact hk _ (List.getElem_mem h)
 ·rw[List.getD_eq_getElem?_getD,List.getElem?_eq_none ab];exact Nat.zero_le _
theorem nW (k v:Bs):∀(l:List Pr) (b:Bool),(gO k v b l).length≤l.length+(if b then 0 else 1)
 |[],b=>by cases b<;>simp[gO]
 |p::l,b=>by
  have h1:=nW k v l true
  have h2:=nW k v l false
  simp only[if_true,if_false,Bool.false_eq_true,Nat.add_zero] at h1 h2
  rw[gO]
  cases b<;>cases Op.bytesLess p.k k<;>by_cases hk:p.k=k<;>simp[hk] <;>omega
theorem Dq (l:List Pr) (k v:Bs):(iZ l k v).length≤l.length+1:=by
 unfold iZ;split
 ·omega
 ·exact nW k v l false
theorem Hq {n:Nat} (h:n≤2000000):(n+1)*32≤140737488355328∧n+1<4611686018427387904∧(n+1+1)*32≤140737488355328∧n+1+1<4611686018427387904:=by omega
set_option maxHeartbeats 1000000 in
theorem Dr (l:List Pr) (hl:l.length≤1000000) (lk:∀p∈l,Ls p.k) (k v:Bs) (hkk:Ls k):bj Tryz.prog 23 [.sl 2 (prs l) .any,.str k,.str v] (.tup [.sl 2 (prs (iZ l k v)) .any,.int .i64 (iS k v)]):=by
 refine f23.cV af (by simp[aU,bn,cF,js]) (by simp[bn,aU,cF,js]) ?_
 unfold c23 zz
 by_cases h1:128<k.length
 ·have d1:decide ((128:Int)<(k.length:Int))=true:=decide_eq_true ab
  have hs:shut k v=true:=by simp[shut,h1]
  refine an0 d1 ?_
  refine cN ?_
  rw[iZ,if_pos hs,iS,if_pos hs]
  exact av.refl _
 ·have d1:decide ((128:Int)<(k.length:Int))=false:=decide_eq_false ab
  by_cases h2:200<v.length
  ·have d2:decide ((200:Int)<(v.length:Int))=true:=decide_eq_true ab
   have hs:shut k v=true:=by simp[shut,h2]
   refine an0 (cj2 d1 d2) ?_
   refine cN ?_
   rw[iZ,if_pos hs,iS,if_pos hs]
   exact av.refl _
  ·have d2:decide ((200:Int)<(v.length:Int))=false:=decide_eq_false ab
   have hs:¬shut k v=true:=by simp[shut];omega
   rw[iZ,if_neg hs,iS,if_neg hs]
   refine an0 (cj2 d1 d2) ?_
   refine Wp.le (aM.tok _ _) ?_
   refine Wp.sN [0,1,2] xA7 (fun (j:Nat × List Pr × Bool) tk=>[(8,.sl 2 (prs j.2.1) (.own tk)),(9,.bool j.2.2),(10,.int .i64 j.1)]) (fun j=>j.1≤l.length∧j.2.1++gO k v j.2.2 (l.drop j.1)=gO k v false l∧j.2.1.length≤2*j.1) (fun j=>l.length - j.1) (0,[],false) _ ⟨Nat.zero_le _,by simp,Nat.le_refl _⟩ rfl ?_ ?_
   ·simp only[bg,go_sem,reduceIte,Nat.reduceEqDiff,Nat.reduceAdd,bx];and_intros<;>first|exact trivial|exact av.refl _|exact av.any _|exact av.lV rfl|(refine av.int ?_;omega)
   ·rintro ⟨j,o,b⟩ tk m ⟨hj,ho,hol⟩
    simp only at hj ho hol
    obtain ⟨g0,g0',g1,g1'⟩:=Hq (show o.length≤2000000 by omega)
    by_cases hc:j<l.length
    ·have q1:decide ((j:Int)<(l.length:Int))=true:=decide_eq_true ab
     have q2:(0:Int)≤(j:Int):=by omega
     have q3:(j:Int)<(l.length:Int):=by omega
     have e1:IntKind.i64.wrap ((j:Int)+1)=((j+1:Nat):Int):=by rw[IntWalk.i64_in _ ab];omega
     rw[x8 hc,gO] at ho
     have hls:=Hp lk j
     have hbel:=xS (l.getD j default).k k hls hkk
     by_cases hk:(l.getD j default).k=k
     ·have q4:decide ((l.getD j default).k=k)=true:=decide_eq_true hk
      rw[if_pos hk,List.nil_append] at ho
      cases b with
      |true=>
       simp only[Bool.true_eq_false,false_and,if_false,List.nil_append,Bool.true_or] at ho
       refine an0 (cj9 @cH @q1 @q2 q3 @q4 e1 @Int.toNat_natCast (fun d=>fo _ _ d hc) @aZ.eq_1) ?_
       refine ⟨(j+1,o,true),tk,m,⟨by simp only;omega,ho,by simp only;omega⟩,by simp only;omega,?_⟩
       exact xSu
      |false=>
       cases hb:Op.bytesLess (l.getD j default).k k with
       |true=>
        rw[hb] at hbel ho
        simp only[Bool.true_eq_false,and_false,if_false,List.nil_append,Bool.not_true,Bool.or_self] at ho
        refine an1 (cj9 @cH @q1 @q2 q3 @q4 e1 @Int.toNat_natCast (fun d=>fo _ _ d hc) @aZ.eq_1) hbel ?_
        refine ⟨(j+1,o,false),tk,m,⟨by simp only;omega,ho,by simp only;omega⟩,by simp only;omega,?_⟩
        exact xSu
       |false=>
        rw[hb] at hbel ho
        simp only[true_and,and_self,if_true,Bool.not_false,Bool.or_true] at ho
        refine an1 (cL @cH @q1 @q2 q3 @q4 e1 @Int.toNat_natCast (fun d=>fo _ _ d hc) @aZ.eq_1 @List.length_cons.{0} @List.length_nil.{0} (cj3 @Nat.zero_add g0 g0')) hbel ?_
        refine ⟨(j+1,o++[⟨k,v⟩],true),m,m+1,⟨by simp only;omega,by rw[←ho];simp,by simp;omega⟩,by simp only;omega,?_⟩
        refine aM.tm (by simp only[bg,go_sem,reduceIte,Nat.reduceEqDiff,Nat.reduceAdd,bx];and_intros<;>first|exact trivial|exact av.refl _|exact av.any _|exact av.of_eq (by rw[←iC])|(refine av.int ?_;omega))
     ·have q4:decide ((l.getD j default).k=k)=false:=decide_eq_false hk
      rw[if_neg hk] at ho
      cases b with
      |true=>
       simp only[Bool.true_eq_false,false_and,if_false,List.nil_append,Bool.true_or] at ho
       refine an0 (cL @cH @q1 @q2 q3 @q4 e1 @Int.toNat_natCast (fun d=>fo _ _ d hc) @aZ.eq_1 @List.length_cons.{0} @List.length_nil.{0} (cj3 @Nat.zero_add g0 g0')) ?_
       refine ⟨(j+1,o++[l.getD j default],true),m,m+1,⟨by simp only;omega,by rw[←ho];simp,by simp;omega⟩,by simp only;omega,?_⟩
       refine aM.tm (by simp only[bg,go_sem,reduceIte,Nat.reduceEqDiff,Nat.reduceAdd,bx];and_intros<;>first|exact trivial|exact av.refl _|exact av.any _|exact av.of_eq (by rw[←iC])|(refine av.int ?_;omega))
      |false=>
       cases hb:Op.bytesLess (l.getD j default).k k with
       |true=>
        rw[hb] at hbel ho
        simp only[Bool.true_eq_false,and_false,if_false,List.nil_append,Bool.not_true,Bool.or_self] at ho
        refine an1 (cL @cH @q1 @q2 q3 @q4 e1 @Int.toNat_natCast (fun d=>fo _ _ d hc) @aZ.eq_1 @List.length_cons.{0} @List.length_nil.{0} (cj3 @Nat.zero_add g0 g0')) hbel ?_
        refine ⟨(j+1,o++[l.getD j default],false),m,m+1,⟨by simp only;omega,by rw[←ho];simp,by simp;omega⟩,by simp only;omega,?_⟩
        refine aM.tm (by simp only[bg,go_sem,reduceIte,Nat.reduceEqDiff,Nat.reduceAdd,bx];and_intros<;>first|exact trivial|exact av.refl _|exact av.any _|exact av.of_eq (by rw[←iC])|(refine av.int ?_;omega))
       |false=>
        rw[hb] at hbel ho
        simp only[true_and,and_self,if_true,Bool.not_false,Bool.or_true] at ho
        refine an1 (cL @cH @q1 @q2 q3 @q4 e1 @Int.toNat_natCast (fun d=>fo _ _ d hc) @aZ.eq_1 @List.length_cons.{0} @List.length_nil.{0} (cj5 @Nat.zero_add g0 g0' g1 g1')) hbel ?_
        refine ⟨(j+1,o++[⟨k,v⟩]++[l.getD j default],true),m+1,m+2,⟨by simp only;omega,by rw[←ho];simp,by simp;omega⟩,by simp only;omega,?_⟩
        refine aM.tm (by simp only[bg,go_sem,reduceIte,Nat.reduceEqDiff,Nat.reduceAdd,bx];and_intros<;>first|exact trivial|exact av.refl _|exact av.any _|exact av.of_eq (by rw[←iC,←iC])|(refine av.int ?_;omega))
    ·obtain rfl:j=l.length:=by omega
     have q1:decide ((l.length:Int)<(l.length:Int))=false:=decide_eq_false ab
     rw[List.drop_length,gO] at ho
     cases b with
     |true=>
      simp only[if_true,List.append_nil] at ho
      refine an0 (cj2 @cH @q1) ?_
      refine cN ?_
      rw[←ho]
      exact av.tup (ay.cons av.own (ay.refl _))
     |false=>
      simp only[Bool.false_eq_true,if_false] at ho
      refine an0 (cj7 @cH @q1 @List.length_cons.{0} @List.length_nil.{0} @Nat.zero_add g0 g0') ?_
      refine cN ?_
      rw[←ho,←iC]
      exact av.tup (ay.cons av.own (ay.refl _))
def Dt (bq:Int) (l:List Pr):List Pr:=if bq<0 then l else l.take bq.toNat
def inR (a b k:Bs):Bool:= !Op.bytesLess k a&&(decide (b=[])||Op.bytesLess k b)
def su (l:List Pr) (a b:Bs) (bq:Int):List Pr:=Dt bq (l.filter fun p=>inR a b p.k)
end Go.Proofs.YtbgmofhgfnmaiaaGreat.R10
end
section
set_option maxRecDepth 100000
namespace Go.Proofs.YtbgmofhgfnmaiaaGreat.Tree
open Go Go.Proofs Go.Shelf
def Bb:Go.Shelf.Ren:=⟨fun|125=>96|128=>136|129=>137|189=>63|215=>157|216=>133|257=>95|294=>127|295=>128|296=>129|297=>130|298=>131|299=>132|300=>134|301=>135|328=>152|329=>153|330=>154|331=>155|332=>156|343=>163|n=>n,fun|0=>0|3=>3|4=>4|5=>5|9=>9|28=>61|46=>146|51=>185|53=>150|131=>87|182=>177|183=>178|218=>200|222=>204|228=>210|229=>77|n=>n,fun n=>n⟩
theorem xp:Lays.n189 Tryz.prog Bb where
 mixed:=by kernel_rfl
 f125:=Tryz.func96.trans (congrArg some (by kernel_rfl))
 f128:=Tryz.func136.trans (congrArg some (by kernel_rfl))
 f129:=Tryz.func137.trans (congrArg some (by kernel_rfl))
 f189:=Tryz.func63.trans (congrArg some (by kernel_rfl))
 f215:=Tryz.func157.trans (congrArg some (by kernel_rfl))
 f216:=Tryz.func133.trans (congrArg some (by kernel_rfl))
 f257:=Tryz.func95.trans (congrArg some (by kernel_rfl))
 f294:=Tryz.func127.trans (congrArg some (by kernel_rfl))
 f295:=Tryz.func128.trans (congrArg some (by kernel_rfl))
 f296:=Tryz.func129.trans (congrArg some (by kernel_rfl))
 f297:=Tryz.func130.trans (congrArg some (by kernel_rfl))
 f298:=Tryz.func131.trans (congrArg some (by kernel_rfl))
 f299:=Tryz.func132.trans (congrArg some (by kernel_rfl))
 f300:=Tryz.func134.trans (congrArg some (by kernel_rfl))
 f301:=Tryz.func135.trans (congrArg some (by kernel_rfl))
 f328:=Tryz.func152.trans (congrArg some (by kernel_rfl))
 f329:=Tryz.func153.trans (congrArg some (by kernel_rfl))
 f330:=Tryz.func154.trans (congrArg some (by kernel_rfl))
 f331:=Tryz.func155.trans (congrArg some (by kernel_rfl))
 f332:=Tryz.func156.trans (congrArg some (by kernel_rfl))
 f343:=Tryz.func163.trans (congrArg some (by kernel_rfl))
 t0:=Tryz.underlying0
 a0:=Tryz.isAgg0
 z0:=Tryz.sizeOf0
 v0:=Tryz.zeroValue0
 t3:=Tryz.underlying3
 a3:=Tryz.isAgg3
 z3:=Tryz.sizeOf3
 v3:=Tryz.zeroValue3
 t4:=Tryz.underlying4
 a4:=Tryz.isAgg4
 z4:=Tryz.sizeOf4
 v4:=Tryz.zeroValue4
 t5:=Tryz.underlying5
 a5:=Tryz.isAgg5
 z5:=Tryz.sizeOf5
 v5:=Tryz.zeroValue5
 t9:=Tryz.underlying9
 a9:=Tryz.isAgg9
 z9:=Tryz.sizeOf9
 v9:=Tryz.zeroValue9
 t28:=Tryz.underlying61
 a28:=Tryz.isAgg61
 z28:=Tryz.sizeOf61
 v28:=Tryz.zeroValue61
 t46:=Tryz.underlying146
 a46:=Tryz.isAgg146
 z46:=Tryz.sizeOf146
 v46:=Tryz.zeroValue146
 t51:=Tryz.underlying185
 a51:=Tryz.isAgg185
 z51:=Tryz.sizeOf185
 v51:=Tryz.zeroValue185
 t53:=Tryz.underlying150
 a53:=Tryz.isAgg150
 z53:=Tryz.sizeOf150
 v53:=Tryz.zeroValue150
 t131:=Tryz.underlying87
 a131:=Tryz.isAgg87
 z131:=Tryz.sizeOf87
 v131:=Tryz.zeroValue87
 t182:=Tryz.underlying177
 a182:=Tryz.isAgg177
 z182:=Tryz.sizeOf177
 v182:=Tryz.zeroValue177
 t183:=Tryz.underlying178
 a183:=Tryz.isAgg178
 z183:=Tryz.sizeOf178
 v183:=Tryz.zeroValue178
 t218:=Tryz.underlying200
 a218:=Tryz.isAgg200
 z218:=Tryz.sizeOf200
 v218:=Tryz.zeroValue200
 t222:=Tryz.underlying204
 a222:=Tryz.isAgg204
 z222:=Tryz.sizeOf204
 v222:=Tryz.zeroValue204
 t228:=Tryz.underlying210
 a228:=Tryz.isAgg210
 z228:=Tryz.sizeOf210
 v228:=Tryz.zeroValue210
 t229:=Tryz.underlying77
 a229:=Tryz.isAgg77
 z229:=Tryz.sizeOf77
 v229:=Tryz.zeroValue77
end Go.Proofs.YtbgmofhgfnmaiaaGreat.Tree
end
section
set_option maxRecDepth 100000
namespace Go.Av
open Go.Sort Go.Proofs
theorem aK.part {P:Program} {f:FuncId} {args:List AV} {h h1 h1':H} {r:AV} (c:aK P f args h1 r h1') (hs:h1.sub h) (hn:h1.n=h.n) (hm:h1.m=h.m):aK P f args h r (h.patch h1 h1'):=fun G w vs hv R F=>by
 have F':cP G h1 h1':=⟨fun id a b=>F.1 id (hn▸a) b,fun t a b=>F.2 t (hm▸a) b⟩
 refine (c G w vs hv (R.sub hs) F').mono fun e w' ⟨v,G',he,T,R1,V⟩=>?_
 obtain ⟨R2,T2⟩:=Av.frame R hs hn hm R1 T F'
 exact ⟨v,G',he,T2,R2,V⟩
theorem xq {w:World} {blk n:Nat} {l l':List Int} {os:Array Go.Obj} {rest:List Value} {T:TypeId} {fr:Nat × Nat} (hb:blk<w.heap.size) (hl:l'.length=l.length)
  (hg:w.heap[blk]? =some (.cells (l.map (Value.int .i64)++rest).toArray T fr)):
  (grow (putRow (Value.int .i64) (Go.Sort.ahead w n) blk 0 l'.toArray) os).heap[blk]? =some (.cells (l'.map (Value.int .i64)++rest).toArray T fr)∧(∀b,b<w.heap.size→b≠blk→(grow (putRow (Value.int .i64) (Go.Sort.ahead w n) blk 0 l'.toArray) os).heap[b]? =w.heap[b]?)∧w.heap.size≤(grow (putRow (Value.int .i64) (Go.Sort.ahead w n) blk 0 l'.toArray) os).heap.size:=by
 have e:∀b,b<w.heap.size→(grow (putRow (Value.int .i64) (Go.Sort.ahead w n) blk 0 l'.toArray) os).heap[b]? =(w.heap.modify blk (onCells (putCells (Value.int .i64) 0 l'.toArray)))[b]? :=fun b hb=>by
  simp only[grow,putRow,mapBlock,Go.Sort.ahead]
  rw[Array.getElem?_append_left (by simpa [Go.Sort.ahead] using hb)]
 refine ⟨?_,fun b hb hne=>?_,by simp[grow,putRow,mapBlock,Go.Sort.ahead]⟩
 ·rw[e blk hb,Array.getElem?_modify,if_pos rfl,hg,Option.map_some,onCells]
  congr 2
  apply Array.ext_getElem?
  intro j
  simp only[putCells,Array.getElem?_mapIdx,List.getElem?_toArray,List.size_toArray,Nat.zero_le,true_and,Nat.zero_add,Nat.sub_zero]
  by_cases c:j<l'.length
  ·have a2:j<l.length:=by omega
   rw[List.getElem?_append_left (by simpa using a2),List.getElem?_append_left (by simpa using c)]
   simp only[List.getElem?_map,List.getElem?_eq_getElem c,List.getElem?_eq_getElem a2,Option.map_some,if_pos c]
   simp only[List.getElem!_toArray,List.getElem!_eq_getElem?_getD,List.getElem?_eq_getElem c,Option.getD_some]
  ·rw[List.getElem?_append_right ak,List.getElem?_append_right (by simpa using c),List.length_map,List.length_map,hl]
   cases rest[j - l.length]? with
   |none=>rfl
   |some v=>rw[Option.map_some,if_neg ab]
 ·rw[e b hb,Array.getElem?_modify,if_neg (fun h=>hne h.symm)]
theorem Hr:∀(l:List Int) (G:aN) (w:World),aA G w (ints l) (l.map (Value.int .i64))
 |[],_,_=>by simp[ints,aA]
 |x::l,G,w=>by
  have:=Hr l G w
  simp only[ints,List.map_cons,aA,aw] at this ⊢
  exact ⟨_,_,rfl,rfl,this⟩
theorem Hs:∀(l:List Int) (G:aN) (w:World) (vs:List Value),aA G w (ints l) vs→vs=l.map (Value.int .i64)
 |[],_,_,vs,h=>by simpa [ints,aA] using h
 |x::l,G,w,vs,h=>by
  simp only[ints,List.map_cons,aA,aw] at h
  obtain ⟨v,us,rfl,rfl,h⟩:=h
  rw[Hs l G w us h];rfl
end Go.Av
namespace Go.Proofs.YtbgmofhgfnmaiaaGreat.Tree
open Go Go.Proofs Go.Av Go.Sort
theorem EP (l:List Int) (h0:0<l.length) (hl:l.length<4611686018427387904) {id:Nat} {h:H} (ho:h.objs id=some (.cells (ints l))) (htk:h.toks=[]):
  aK Tryz.prog 63 [.tsl 1 id 0 l.length none] h (.tup []) {h with objs:=upd h.objs id (some (.cells (ints (l.mergeSort fun x y=>decide (x≤y)))))}:=by
 intro G w vs hv R F
 simp only[aA,aw] at hv
 obtain ⟨v1,_,rfl,⟨hd1,hv1⟩,rfl⟩:=hv
 obtain ⟨C,c,T,fr,rfl,⟨hnC,hc63⟩,-,hg,hroom⟩|⟨hz,-⟩:=hv1
 rotate_left
 ·omega
 obtain ⟨-,hown,hB,us,rest,T',fr',hg',hvs,hfr,-⟩:=R.obj id _ ho
 have hus:=Hs l G w us hvs
 subst hus
 have hH:Holds (Value.int .i64) w (G.ι id) 0 l.toArray:=by
  intro j hj
  have hj':j<l.length:=by simpa using hj
  constructor
  ·unfold World.cell?
   simp only[hg',Nat.zero_add]
   simp[List.getElem?_append_left,hj',getElem!_def,List.getElem?_eq_getElem hj']
  ·unfold World.frozen?
   simp only[hg']
   have:=hfr
   simp;omega
 refine (Any.slices_Sort_int xp (G.ι id) 0 C l w hH hB hl).mono fun e w' ⟨he,n,os,hw⟩=>?_
 have hll:(l.mergeSort fun x y=>decide (x≤y)).length=l.length:=List.length_mergeSort _
 generalize (l.mergeSort fun x y=>decide (x≤y))=l' at*
 subst he hw
 obtain ⟨w1,w2,w3⟩:=xq (n:=n) (os:=os) hB hll hg'
 obtain ⟨T1,R1⟩:=D3 R ho htk w3 (by rfl) (by rfl) w2 (by rw[hg',w1];exact ⟨_,_,rfl,by simp[hll],fun _ _ h=>h⟩) (by simp[ints]) (Hr l') (fun v hv=>by
  obtain ⟨z,-,rfl⟩:=List.mem_map.1 hv
  exact ⟨(fun _ e=>by cases e),(fun _ e=>by cases e)⟩) w1 hfr
 exact ⟨_,G,rfl,T1,R1,by simp[aw,aA]⟩
theorem ER (l:List Int) (h0:0<l.length) (hl:l.length<4611686018427387904) {id:Nat} {h:H} (ho:h.objs id=some (.cells (ints l))) (hi:id<h.n):
  aK Tryz.prog 63 [.tsl 1 id 0 l.length none] h (.tup []) {h with objs:=upd h.objs id (some (.cells (ints (l.mergeSort fun x y=>decide (x≤y)))))}:=by
 have c:=EP l h0 hl (id:=id) (h:=H.only (fun j=>if j=id then some (.cells (ints l)) else none) [] h.n h.m) (by simp[H.only]) rfl
 have p:=c.part (h:=h) ⟨fun j o e=>by
  simp only[H.only] at e
  split at e
  ·rename_i q;subst q;rw[ho];exact e
  ·exact absurd e af,(fun t ht=>by cases ht)⟩ rfl rfl
 have e:h.patch (H.only (fun j=>if j=id then some (.cells (ints l)) else none) [] h.n h.m) {H.only (fun j=>if j=id then some (.cells (ints l)) else none) [] h.n h.m with objs:=upd (H.only (fun j=>if j=id then some (.cells (ints l)) else none) [] h.n h.m).objs id (some (.cells (ints (l.mergeSort fun x y=>decide (x≤y)))))}= {h with objs:=upd h.objs id (some (.cells (ints (l.mergeSort fun x y=>decide (x≤y)))))}:=by
  refine H.ext (fun j=>?_) rfl (by simp[H.patch,H.only]) rfl
  simp only[H.patch,H.only,upd]
  by_cases q:j=id
  ·simp[q]
  ·simp[q];omega
 rw[e] at p
 exact p
end Go.Proofs.YtbgmofhgfnmaiaaGreat.Tree
end
section
set_option maxRecDepth 100000
namespace Go.Proofs.YtbgmofhgfnmaiaaGreat.Tree
open Go Go.Av Go.Proofs Go.Proofs.YtbgmofhgfnmaiaaGreat.C Go.Proofs.YtbgmofhgfnmaiaaGreat.Page
open Go.Proofs.YtbgmofhgfnmaiaaGreat.Batch (Bs Pr prs aZ)
section
variable {x:PgI} {s:PgS} {T:List Nat} {h0 h:H} {o:Nat} {l:List Nat}
theorem Du {L tid d:Nat} {r:Int} {lo:Bs} {hi:Option Bs} {t:Tr L} {h':H} (g:PgH x s T h') (ok:cu s) (ht:h'.objs tid=some (trO x r)) (lv:gF s L lo hi t) (hp:s.p.length<900000) (hd:d≤20):
  aJ Tryz.prog 41 [.ptr tid 0,.int .i64 (t.pg:Nat),.int .i64 (d:Int)] h' fun q h''=>q=aD (bF L t.ks t.kids)∧PgH x s T h''∧Kept h' h''∧aq h' h'':=by
 obtain ⟨hs,hi'⟩:=lv.st t.pg (by simp[aW])
 have hnd:=iY (tid:=tid) (i:=t.pg) (d:=d) g ok ht hi' (by show stt s t.pg≠0;omega) hp hd lv.on.1.1
 rw[lv.on.1.2] at hnd
 exact hnd
theorem Dv {L:Nat} (us:List (Tr L)):us.length≤((us.map (aW L)).flatten).length:=by
 induction us with
 |nil=>simp
 |cons u us ih=>simp only[List.map_cons,List.flatten_cons,List.length_append,List.length_cons,aW];omega
theorem yD (g0:PgH x s T h0) (ok:cu s) (hp:s.p.length<900000) {tid:Nat} {r:Int} (ht:h0.objs tid=some (trO x r)):∀(L:Nat) (t:Tr L) (lo:Bs) (hi:Option Bs) (h:H) (acc:List Nat) (q:AV) (d:Nat),Ho x s T h0 acc q h→gF s L lo hi t→acc.length+(aW L t).length≤1000000→d+L≤20→
  aJ Tryz.prog 62 [.ptr tid 0,.int .i64 (t.pg:Nat),.int .i64 (d:Int),q] h (EM x s T h0 (acc++aW L t))
 |0,t,lo,hi,h,acc,q,d,hq,lv,hl,hd=>by
  have e:acc++aW 0 t=(fun _=>acc++[t.pg]) 0:=rfl
  rw[e]
  refine qA (m:=0) (nd:=bF 0 t.ks t.kids) (kdv:=fun _=>0) (A:=fun _=>acc++[t.pg]) g0 ok ht (fun h' g' ht'=>Du g' ok ht' lv hp ab) rfl (Nat.zero_le _) (fun k hk=>absurd hk (Nat.not_lt_zero _)) ab rfl (by simp[aW] at hl;omega) (fun k hk=>absurd hk (Nat.not_lt_zero _)) hq
 |L+1,t',lo,hi,h,acc,q,d,hq,lv',hl,hd=>by
  obtain ⟨i,ks,us'⟩:=t'
  obtain ⟨us,hus⟩:∃us:List (Tr L),us=us':=⟨us',rfl⟩
  subst hus
  have lv':gF s (L+1) lo hi (mkT L i ks us):=lv'
  obtain ⟨hr,hz,hw⟩:=lv'.wf
  have hw:bJ (WF L) lo hi ks us:=hw
  have hul:us.length=ks.length+1:=hw.len
  have hst:=lv'.st
  have hndp:=lv'.nd
  have lvu:∀k u,us[k]? =some u→gF s L (dQ lo ks k) (eV hi ks k) u:=fun k u hu=>by
   have hum:u∈us:=List.mem_of_getElem? hu
   have hk:k<us.length:=(List.getElem?_eq_some_iff.1 hu).1
   obtain ⟨u',hu',wu,-⟩:=hw.at (j:=k) ab
   rw[hu] at hu'
   cases hu'
   have hpg:=gg (i:=i) (ks:=ks) hu
   have hnd:=hndp
   have hst:=hst
   rw[hpg] at hnd hst
   refine ⟨(dL.1 lv'.on.2) u hum,wu,?_,fun j hj=>hst j (by simp[hj])⟩
   simp only[List.nodup_cons,List.nodup_append] at hnd
   exact hnd.2.2.1.1
  have hpe:aW (L+1) (mkT L i ks us)=i::(us.map (aW L)).flatten:=rfl
  have hl:acc.length+(i::(us.map (aW L)).flatten).length≤1000000:=hl
  simp only[List.length_cons] at hl
  have hus1:=Dv us
  have e:acc++aW (L+1) (mkT L i ks us)=(fun k=>acc++(i::((us.take k).map (aW L)).flatten)) us.length:=by
   simp only[List.take_length];rw[hpe]
  show aJ _ _ _ _ (EM x s T h0 (acc++aW (L+1) (mkT L i ks us)))
  rw[e]
  refine qA (i:=i) (m:=us.length) (nd:=au L ks us) (kdv:=fun k=>((us[k]?).map fun u=>u.pg).getD 0) (A:=fun k=>acc++(i::((us.take k).map (aW L)).flatten)) g0 ok ht (fun h' g' ht'=>Du (t:=mkT L i ks us) g' ok ht' lv' hp ab) (by simp[au]) ab (fun k hk=>?_) ab af ab (fun k hk h1 o1 g1=>?_) hq
  ·simp[ints,au,List.getD,List.getElem?_eq_getElem hk]
  ·have hu:us[k]? =some us[k]:=List.getElem?_eq_getElem hk
   have e2:us.take (k+1)=us.take k++[us[k]]:=List.take_succ_eq_append_getElem hk
   have e3:acc++(i::((us.take (k+1)).map (aW L)).flatten)=(acc++(i::((us.take k).map (aW L)).flatten))++aW L us[k]:=by rw[e2,List.map_append,List.flatten_append,List.map_singleton,List.flatten_singleton];simp only[List.append_assoc,List.cons_append]
   have hlk:(acc++(i::((us.take k).map (aW L)).flatten)).length+(aW L us[k]).length≤1000000:=by
    have h5:((us.map (aW L)).flatten).length=(((us.take k).map (aW L)).flatten).length+(aW L us[k]).length+(((us.drop (k+1)).map (aW L)).flatten).length:=by
     conv=>lhs;rw[←List.take_append_drop (k+1) us,e2]
     simp only[List.map_append,List.flatten_append,List.length_append,List.map_singleton,List.flatten_singleton]
    rw[List.length_append,List.length_cons]
    omega
   have c:=yD g0 ok hp ht L us[k] _ _ h1 (acc++(i::((us.take k).map (aW L)).flatten)) _ (d+1) (.inr ⟨o1,rfl,g1⟩) (lvu k _ hu) hlk ab
   rw[←e3] at c
   simp only[hu,Option.map_some,Option.getD_some]
   exact c
end
theorem ES:bj Tryz.prog 137 [.int .u64 0] (.int .i64 0):=by
 refine f137.cV af (by simp[aU,bn]) rfl ?_
 unfold GJ zz
 repeat (first
  |((first|apply Wp.fC|apply Wp.kr);(· simp only[go_sem,reduceIte,Nat.reduceEqDiff,Nat.reduceAdd,bx,ax,if_true,if_false,Nat.reduceMul,Nat.reduceLeDiff,Nat.zero_lt_one];exact rfl))
  |(refine ao.nil ⟨?_,?_⟩;(· first|trivial|simp[bf,aQ,apart,aX]))
  |(apply Wp.bK;(· simp only[go_sem,reduceIte,Nat.reduceEqDiff,Nat.reduceAdd,bx,ax,if_true,if_false,Nat.reduceMul,Nat.reduceLeDiff,Nat.zero_lt_one];exact rfl);(· rfl))
  |refine Wp.skip ?_
  |refine Wp.label ?_
  |refine Wp.block ?_
  |refine Wp.exit ?_
  |refine Wp.seq ?_)
 refine cN ?_
 exact av.refl _
theorem Gb:bj Tryz.prog 96 [.int .u64 0] (.int .i64 0):=by
 refine f96.cV af (by simp[aU,bn]) rfl ?_
 unfold c96 zz
 repeat (first
  |((first|apply Wp.fC|apply Wp.kr|((first
    |(refine ao.cb ?_ ?_ (ES) ?_;(· simp only[go_sem,reduceIte,Nat.reduceEqDiff,Nat.reduceAdd,bx]);(· simp only[go_sem,reduceIte,Nat.reduceEqDiff,Nat.reduceAdd,bx,List.map];first|exact ay.refl _|(repeat (first|exact ay.nil|refine ay.cons xA5 ?_)))));apply ao.evR));(· simp only[go_sem,reduceIte,Nat.reduceEqDiff,Nat.reduceAdd,bx,ax,if_true,if_false,Nat.reduceMul,Nat.reduceLeDiff,Nat.zero_lt_one];exact rfl))
  |(refine ao.nil ⟨?_,?_⟩;(· first|trivial|simp[bf,aQ,apart,aX]))
  |(apply Wp.bK;(· simp only[go_sem,reduceIte,Nat.reduceEqDiff,Nat.reduceAdd,bx,ax,if_true,if_false,Nat.reduceMul,Nat.reduceLeDiff,Nat.zero_lt_one];exact rfl);(· rfl))
  |refine Wp.skip ?_
  |refine Wp.label ?_
  |refine Wp.block ?_
  |refine Wp.exit ?_
  |refine Wp.seq ?_)
 refine cN ?_
 exact av.refl _
theorem Ht:bj Tryz.prog 127 [.sl 1 [] .any,.int .i64 0,.int .i64 0] (.tup []):=by
 refine f127.cV af (by simp[aU,bn,cF]) rfl ?_
 unfold GI zz
 repeat (first
  |((first|apply Wp.fC|apply Wp.kr);(· simp only[go_sem,reduceIte,Nat.reduceEqDiff,Nat.reduceAdd,bx,ax,if_true,if_false,Nat.reduceMul,Nat.reduceLeDiff,Nat.zero_lt_one];exact rfl))
  |(refine ao.nil ⟨?_,?_⟩;(· first|trivial|simp[bf,aQ,apart,aX]))
  |(apply Wp.bK;(· simp only[go_sem,reduceIte,Nat.reduceEqDiff,Nat.reduceAdd,bx,ax,if_true,if_false,Nat.reduceMul,Nat.reduceLeDiff,Nat.zero_lt_one];exact rfl);(· rfl))
  |refine Wp.skip ?_
  |refine Wp.label ?_
  |refine Wp.block ?_
  |refine Wp.exit ?_
  |refine Wp.seq ?_)
 refine Wp.ko [1,2] xA6 (fun j:Nat=>[(6,.int .i64 1)]) (fun j=>j=0) (fun j=>j) 0 rfl ?_ ?_
 ·exact xSb
 rintro j hj
 repeat (first
  |((first|apply Wp.fC|apply Wp.kr);(· simp only[go_sem,reduceIte,Nat.reduceEqDiff,Nat.reduceAdd,bx,ax,if_true,if_false,Nat.reduceMul,Nat.reduceLeDiff,Nat.zero_lt_one];exact rfl))
  |(refine ao.nil ⟨?_,?_⟩;(· first|trivial|simp[bf,aQ,apart,aX]))
  |(apply Wp.bK;(· simp only[go_sem,reduceIte,Nat.reduceEqDiff,Nat.reduceAdd,bx,ax,if_true,if_false,Nat.reduceMul,Nat.reduceLeDiff,Nat.zero_lt_one];exact rfl);(· rfl))
  |refine Wp.skip ?_
  |refine Wp.label ?_
  |refine Wp.block ?_
  |refine Wp.exit ?_
  |refine Wp.seq ?_)
 exact ⟨trivial,_,rfl,av.refl _⟩
theorem Hu:bj Tryz.prog 95 [.sl 1 [] .any,.int .i64 0,.int .i64 0,.int .i64 0] (.tup []):=by
 refine f95.cV af (by simp[aU,bn,cF]) rfl ?_
 have c1:=Ht
 unfold c95 zz
 repeat (first
  |((first|apply Wp.fC|apply Wp.kr);(· simp only[go_sem,reduceIte,Nat.reduceEqDiff,Nat.reduceAdd,bx,ax,if_true,if_false,Nat.reduceMul,Nat.reduceLeDiff,Nat.zero_lt_one];exact rfl))
  |(refine ao.nil ⟨?_,?_⟩;(· first|trivial|simp[bf,aQ,apart,aX]))
  |(apply Wp.bK;(· simp only[go_sem,reduceIte,Nat.reduceEqDiff,Nat.reduceAdd,bx,ax,if_true,if_false,Nat.reduceMul,Nat.reduceLeDiff,Nat.zero_lt_one];exact rfl);(· rfl))
  |refine Wp.skip ?_
  |refine Wp.label ?_
  |refine Wp.block ?_
  |refine Wp.exit ?_
  |refine Wp.seq ?_)
 refine Wp.ko [0,1,2,3] xA6 (fun j:Nat=>[]) (fun j=>j=0) (fun j=>j) 0 rfl ?_ ?_
 ·trivial
 rintro j hj
 repeat (first
  |((first|apply Wp.fC|apply Wp.kr|((first
    |(refine ao.cb ?_ ?_ (c1) ?_;(· simp only[go_sem,reduceIte,Nat.reduceEqDiff,Nat.reduceAdd,bx]);(· simp only[go_sem,reduceIte,Nat.reduceEqDiff,Nat.reduceAdd,bx,List.map];first|exact ay.refl _|(repeat (first|exact ay.nil|refine ay.cons xA5 ?_)))));apply ao.evR));(· simp only[go_sem,reduceIte,Nat.reduceEqDiff,Nat.reduceAdd,bx,ax,if_true,if_false,Nat.reduceMul,Nat.reduceLeDiff,Nat.zero_lt_one];exact rfl))
  |(refine ao.nil ⟨?_,?_⟩;(· first|trivial|simp[bf,aQ,apart,aX]))
  |(apply Wp.bK;(· simp only[go_sem,reduceIte,Nat.reduceEqDiff,Nat.reduceAdd,bx,ax,if_true,if_false,Nat.reduceMul,Nat.reduceLeDiff,Nat.zero_lt_one];exact rfl);(· rfl))
  |refine Wp.skip ?_
  |refine Wp.label ?_
  |refine Wp.block ?_
  |refine Wp.exit ?_
  |refine Wp.seq ?_)
 exact Wp.ret ⟨trivial,_,rfl,av.refl _⟩
theorem ET:bj Tryz.prog 63 [.sl 1 [] .any] (.tup []):=by
 refine f63.cV af (by simp[aU,bn,cF]) rfl ?_
 have c1:=Hu
 unfold c63 zz
 repeat (first
  |((first|apply Wp.fC|apply Wp.kr|((first
    |(refine ao.cb ?_ ?_ (Gb) ?_;(· simp only[go_sem,reduceIte,Nat.reduceEqDiff,Nat.reduceAdd,bx]);(· simp only[go_sem,reduceIte,Nat.reduceEqDiff,Nat.reduceAdd,bx,List.map];first|exact ay.refl _|(repeat (first|exact ay.nil|refine ay.cons xA5 ?_))))
    |(refine ao.cb ?_ ?_ (c1) ?_;(· simp only[go_sem,reduceIte,Nat.reduceEqDiff,Nat.reduceAdd,bx]);(· simp only[go_sem,reduceIte,Nat.reduceEqDiff,Nat.reduceAdd,bx,List.map];first|exact ay.refl _|(repeat (first|exact ay.nil|refine ay.cons xA5 ?_)))));apply ao.evR));(· simp only[go_sem,reduceIte,Nat.reduceEqDiff,Nat.reduceAdd,bx,ax,if_true,if_false,Nat.reduceMul,Nat.reduceLeDiff,Nat.zero_lt_one];exact rfl))
  |(refine ao.nil ⟨?_,?_⟩;(· first|trivial|simp[bf,aQ,apart,aX]))
  |(apply Wp.bK;(· simp only[go_sem,reduceIte,Nat.reduceEqDiff,Nat.reduceAdd,bx,ax,if_true,if_false,Nat.reduceMul,Nat.reduceLeDiff,Nat.zero_lt_one];exact rfl);(· rfl))
  |refine Wp.skip ?_
  |refine Wp.label ?_
  |refine Wp.block ?_
  |refine Wp.exit ?_
  |refine Wp.seq ?_)
 exact ⟨trivial,_,rfl,av.refl _⟩
section
variable {x:PgI} {s:PgS} {T:List Nat} {h:H}
theorem PgH.less {h8:H} (g:PgH x s T h) (q:∀j,¬Tid x j→h8.objs j=h.objs j) (hf:∀j,h.n≤j→h8.objs j=none) (hn:h8.n=h.n) (ht:h8.toks=h.toks) (hm:h8.m=h.m):PgH x s T h8 where
 oP:=(q _ fun a=>a.1 rfl).trans g.oP
 oA:=(q _ fun a=>a.2.1 rfl).trans g.oA
 oU:=(q _ fun a=>a.2.2.1 rfl).trans g.oU
 oD:=(q _ fun a=>a.2.2.2.1 rfl).trans g.oD
 oK:=(q _ fun a=>a.2.2.2.2.1 rfl).trans g.oK
 oI:=(q _ fun a=>a.2.2.2.2.2 rfl).trans g.oI
 lt:=by rw[hn];exact g.lt
 ne:=g.ne
 fresh:=fun j hj=>hf j (by rw[hn] at hj;exact hj)
 toks:=ht.trans g.toks
 tm:=by rw[hm];exact g.tm
 tkm:=by rw[hm];exact g.tkm
 tk0:=g.tk0
def Hv (x:PgI) (s:PgS) (T:List Nat) (h:H) (b1:Nat) (R:Rt) (h':H):Prop:=(R=none∧h'=h)∨∃o h2,kJ x s T h o (bw R) h2∧h'.objs=upd h2.objs b1 (some (.cells [.tsl 1 o 0 (bw R).length none]))∧h'.n=h2.n∧h'.toks=h2.toks∧h'.m=h2.m∧0<(bw R).length
set_option maxHeartbeats 1000000 in
theorem Gc {tid b0 b1:Nat} {R:Rt} (g:Ts0 x T tid s R h) (h0:h.objs b0=some (.cells [.ptr tid 0])) (h1:h.objs b1=some (.cells [.sl 1 [] (.exact 0)])) (t1:Tid x b1)
  (hL:∀L t,R=some ⟨L,t⟩→L≤6) (hp:s.p.length<900000) (hl:(bw R).length≤1000000):
  aJ Tryz.prog 61 [.ptr b0 0,.ptr b1 0] h fun q h'=>Hv x s T h b1 R h'∧aq h h':=by
 have lt1:=g.pg.ltn (j:=b1) (by rw[h1];rfl)
 refine f61.bC af ?_
 unfold c61 zz
 have ot:h.objs tid=some (.cells [.ptr x.P 0,.int .i64 (rpg R)]):=g.ot
 cases R with
 |none=>
  have ot:h.objs tid=some (.cells [.ptr x.P 0,.int .i64 (-1)]):=ot
  have d3:decide ((0:Int)≤(-1:Int))=false:=by decide
  refine rf0 (cj4 h0 h1 ot d3) ?_
  refine ⟨trivial,.tup [],by simp[dg,rvs],.inl ⟨rfl,rfl⟩,aq.refl _⟩
 |some r=>
  obtain ⟨L,t⟩:=r
  have ot:h.objs tid=some (.cells [.ptr x.P 0,.int .i64 ((t.pg:Nat):Int)]):=ot
  have d3:decide ((0:Int)≤((t.pg:Nat):Int))=true:=decide_eq_true ab
  have lv:=g.rk L t rfl
  have hL':=hL L t rfl
  have hw:=yD g.pg g.ok hp g.ot L t [] none h [] _ 1 (.inl ⟨rfl,rfl,rfl⟩) lv (by simpa [bw] using hl) ab
  rw[List.nil_append] at hw
  refine rf0 (cj4 h0 h1 ot d3) ?_
  refine Wp.reg ?_
  refine ao.part 5 (xAe (cj2 h0 ot)) ?_
  simp only[List.drop_succ_cons,List.drop_zero,List.drop_nil]
  refine ao.ba (vals:=[.ptr tid 0,.int .i64 (t.pg:Nat),.int .i64 ((1:Nat):Int),.sl 1 [] (.exact 0)]) ae xA4 (fun j hj=>g.pg.ltn hj) hw (fun r h' ⟨o,e,g'⟩=>g'.no) fun q h2 ⟨o,hq,g2⟩ nq _=>?_
  subst hq
  have h12:=(g2.kp b1 lt1).trans h1
  refine ao.part 4 (xAe h12) ?_
  simp only[List.drop_succ_cons,List.drop_zero,List.drop_nil]
  refine ao.nil ⟨by simp[bf,aQ,apart,aX],?_⟩
  refine ⟨trivial,.tup [],by simp[dg,rvs],.inr ⟨o,h2,g2,rfl,rfl,rfl,rfl,Nat.succ_pos _⟩,aq.trans g2.no (aq.set h12) nq (Nat.le_refl _)⟩
def srt (l:List Nat):List Int:=(dY l).mergeSort fun x y=>decide (x≤y)
set_option maxHeartbeats 1000000 in
theorem EU {tid:Nat} {R:Rt} (g:Ts0 x T tid s R h) (hL:∀L t,R=some ⟨L,t⟩→L≤6) (hp:s.p.length<900000) (hl:(bw R).length≤1000000):
  aJ Tryz.prog 29 [.ptr tid 0] h fun q h'=>(PgH x s T h'∧Kept h h'∧aq h h')∧q= .tup [.sl 1 (ints (srt (bw R))) .any,.int .i64 0]:=by
 refine f29.bC af ?_
 unfold c29 zz
 have bb:=((iB.refl g).new (.cells [.ptr tid 0])).new (.cells [.sl 1 [] (.exact 0)])
 have lt:=g.lt
 obtain ⟨h5,hh⟩:∃h5,h5=H.new (H.new h (.cells [.ptr tid 0])) (.cells [.sl 1 [] (.exact 0)]):=⟨_,rfl⟩
 have e0:h5.objs h.n=some (.cells [.ptr tid 0]):=by rw[hh];simp[H.new,upd]
 have e1:h5.objs (h.n+1)=some (.cells [.sl 1 [] (.exact 0)]):=by rw[hh];simp[H.new,upd]
 have ln5:h5.n=h.n+1+1:=by rw[hh];rfl
 rw[←hh] at bb
 refine Wp.bu (xAd @and_self) ?_
 refine an.nil ?_
 refine Wp.bu (xAd @and_self) ?_
 refine an.nil ?_
 refine Wp.le (s':=⟨tm [(1,.ptr h.n 0),(4,.ptr (h.n+1) 0)],h5⟩) (aM.of (bA ?_) (by rw[hh];exact OLe.refl _) (fun y hy=>by rw[hh] at hy;exact hy) (by rw[hh];exact Nat.le_refl _) (by rw[hh];exact Nat.le_refl _)) ?_
 ·exact xSb
 clear hh
 have t1:=dB g.pg (show h.n≤h.n+1 by omega)
 have key2:aJ Tryz.prog 34 [.ptr tid 0,.clo (.func 61) [] [.ptr h.n 0,.ptr (h.n+1) 0]] h5 fun q h'=>q= .int .i64 0∧Hv x s T h5 (h.n+1) R h'∧aq h5 h':=by
  refine (sq bb.ts.op Tryz.func61 rfl (of_decide_eq_true (by kernel_rfl)) (Gc bb.ts e0 e1 t1 hL hp hl)).mono ?_
  rintro q h' ⟨rfl,r,sc⟩
  exact ⟨rfl,sc⟩
 refine rf0 e0 ?_
 refine an.ba (vals:=[.ptr tid 0,.clo (.func 61) [] [.ptr h.n 0,.ptr (h.n+1) 0]]) ae xA4 key2 fun q h6 ⟨hq,got,no6⟩ n6 _=>?_
 subst hq
 refine an.evF xAc ?_
 refine an.nil ?_
 have d0:decide ((0:Int)=0)=true:=by decide
 rcases got with ⟨rfl,rfl⟩|⟨o,h2,row,eo,en,et,em,hpos⟩
 ·have c0:=ET
  repeat (first
   |refine an.nil ?_
   |((first|apply Wp.bu|apply Wp.dd|((first
     |(refine an.cb ?_ ?_ (c0) ?_;(· simp only[go_sem,reduceIte,Nat.reduceEqDiff,Nat.reduceAdd,bx]);(· simp only[go_sem,reduceIte,Nat.reduceEqDiff,Nat.reduceAdd,bx,List.map,ax,if_true,if_false,Nat.reduceMul,Nat.reduceLeDiff,e1,d0,Bool.not_true];exact ay.cons av.cap ay.nil)));apply an.evF));(· simp only[go_sem,reduceIte,Nat.reduceEqDiff,Nat.reduceAdd,bx,ax,if_true,if_false,Nat.reduceMul,Nat.reduceLeDiff,e1,d0,Bool.not_true];exact rfl))
   |(apply Wp.bK;(· simp only[go_sem,reduceIte,Nat.reduceEqDiff,Nat.reduceAdd,bx,ax,if_true,if_false,Nat.reduceMul,Nat.reduceLeDiff,e1,d0,Bool.not_true];exact rfl);(· rfl))
   |refine Wp.skip ?_
   |refine Wp.label ?_
   |refine Wp.block ?_
   |refine Wp.exit ?_
   |refine Wp.seq ?_)
  have en:ints (srt (bw none))=[]:=by simp[srt,bw,dY,ints]
  rw[en]
  refine Wp.le (s':=⟨tm [(2,.sl 1 [] .any),(3,.int .i64 0)],h6⟩) (aM.tm ?_) ?_
  ·simp only[bg,go_sem,reduceIte,Nat.reduceEqDiff,Nat.reduceAdd,bx];and_intros<;>first|exact trivial|exact av.refl _|exact av.any _|exact av.cap|(refine av.int ?_;omega)
  refine Wp.ret ⟨trivial,.tup [.sl 1 [] .any,.int .i64 0],?_,⟨bb.ts.pg,bb.kp,bb.no⟩,rfl⟩
  simp only[go_sem]
  exact rfl
 ·have hob:h.n+1≠o:=by have:=row.n0;omega
  have e6:h6.objs (h.n+1)=some (.cells [.tsl 1 o 0 (bw R).length none]):=by rw[eo];simp only[upd,if_true]
  have r6:h6.objs o=some (.cells (ints (dY (bw R)))):=by rw[eo];simp only[upd];rw[if_neg (Ne.symm hob)];exact row.ro
  have cs:=ER (dY (bw R)) (by rw[kH];exact hpos) (by rw[kH];omega) r6 (by rw[en];exact row.lt)
  rw[kH] at cs
  refine rg1 (cj4 e6 d0 hob @Bool.not_true) cs ?_
  have hsl:(ints ((dY (bw R)).mergeSort fun x y=>decide (x≤y))).length=(bw R).length:=by simp[ints,dY]
  have hn0:=row.n0
  have hh:∀j,j≠o→j≠h.n+1→(H.drop ⟨upd h6.objs o (some (.cells (ints ((dY (bw R)).mergeSort fun x y=>decide (x≤y))))),h6.n,h6.toks,h6.m⟩ fun k=>decide (k=o∨k=h.n+1)).objs j=h2.objs j:=fun j a b=>by
   simp only[H.drop,upd,eo]
   rw[if_neg (by simp[a,b]),if_neg a,if_neg b]
  have hz:∀j,j=o∨j=h.n+1→(H.drop ⟨upd h6.objs o (some (.cells (ints ((dY (bw R)).mergeSort fun x y=>decide (x≤y))))),h6.n,h6.toks,h6.m⟩ fun k=>decide (k=o∨k=h.n+1)).objs j=none:=fun j a=>by
   simp only[H.drop]
   rw[if_pos (by simp[a])]
  refine Wp.frz (fun k=>decide (k=o∨k=h.n+1)) [(2,.sl 1 (ints (srt (bw R))) .any),(3,.int .i64 0)] (H.drop ⟨upd h6.objs o (some (.cells (ints ((dY (bw R)).mergeSort fun x y=>decide (x≤y))))),h6.n,h6.toks,h6.m⟩ fun k=>decide (k=o∨k=h.n+1)) ?_ (OLe.refl _) (fun y hy=>hy) (Nat.le_refl _) (Nat.le_refl _) ?_
  ·simp only[bg,go_sem,reduceIte,Nat.reduceEqDiff]
   refine ⟨?_,av.refl _,trivial⟩
   unfold unT
   simp only[true_and,true_or,decide_true,if_true,upd,Nat.zero_add,hsl,Nat.le_refl,List.drop_zero]
   rw[List.take_of_length_le (by rw[hsl];exact Nat.le_refl _)]
   exact av.refl _
  have a1:(H.drop ⟨upd h6.objs o (some (.cells (ints ((dY (bw R)).mergeSort fun x y=>decide (x≤y))))),h6.n,h6.toks,h6.m⟩ fun k=>decide (k=o∨k=h.n+1)).n=h2.n:=en
  have a2:(H.drop ⟨upd h6.objs o (some (.cells (ints ((dY (bw R)).mergeSort fun x y=>decide (x≤y))))),h6.n,h6.toks,h6.m⟩ fun k=>decide (k=o∨k=h.n+1)).toks=h2.toks:=et
  have a3:(H.drop ⟨upd h6.objs o (some (.cells (ints ((dY (bw R)).mergeSort fun x y=>decide (x≤y))))),h6.n,h6.toks,h6.m⟩ fun k=>decide (k=o∨k=h.n+1)).m=h2.m:=em
  generalize (H.drop ⟨upd h6.objs o (some (.cells (ints ((dY (bw R)).mergeSort fun x y=>decide (x≤y))))),h6.n,h6.toks,h6.m⟩ fun k=>decide (k=o∨k=h.n+1))=h8 at*
  have to:Tid x o:=dB bb.ts.pg hn0
  have hno:aq h h2:=aq.trans bb.no row.no bb.ln row.ln
  refine Wp.ret ⟨trivial,.tup [.sl 1 (ints (srt (bw R))) .any,.int .i64 0],?_,⟨row.pg.less (fun j hj=>hh j (fun e=>hj (e▸to)) (fun e=>hj (e▸t1))) (fun j hj=>?_) a1 a2 a3,fun j hj=>?_,fun j hj=>?_⟩,rfl⟩
  ·simp only[go_sem]
   exact rfl
  ·by_cases e:j=o∨j=h.n+1
   ·exact hz j e
   ·rw[hh j (fun a=>e (.inl a)) (fun a=>e (.inr a))]
    exact row.pg.fresh j hj
  ·rw[hh j ab ab,row.kp j ab]
   exact bb.kp j hj
  ·by_cases e:j=o∨j=h.n+1
   ·rw[hz j e] at hj;cases hj
   ·rw[hh j (fun a=>e (.inl a)) (fun a=>e (.inr a))] at hj
    rw[a1]
    exact hno j hj
end
end Go.Proofs.YtbgmofhgfnmaiaaGreat.Tree
end
section
set_option maxRecDepth 100000
namespace Go.Proofs.YtbgmofhgfnmaiaaGreat.Tree
open Go Go.Av Go.Proofs Go.Proofs.YtbgmofhgfnmaiaaGreat.C Go.Proofs.YtbgmofhgfnmaiaaGreat.Page
open Go.Proofs.YtbgmofhgfnmaiaaGreat.Batch (Bs Pr prs aZ)
open Go.Proofs.YtbgmofhgfnmaiaaGreat.R10 (gO iZ iS shut fq jz AY mn su inR Dt ml rest)
theorem qB {k v:Bs}:∀{l:List Pr},(∀p∈l,Op.bytesLess p.k k=false)→l.Pairwise kLt→gO k v true l=l.filter (fun p=>Op.bytesLess k p.k)
 |[],_,_=>rfl
 |p::l,h,hr=>by
  have h1:=h p (List.mem_cons_self ..)
  have ih:=qB (k:=k) (v:=v) (l:=l) (fun q hq=>h q (List.mem_cons_of_mem _ hq)) (List.pairwise_cons.1 hr).2
  rw[gO,Bool.true_or,ih]
  by_cases e:p.k=k
  ·have:Op.bytesLess k p.k=false:=by rw[e];exact cQ k
   simp[e,this,List.filter_cons,cQ]
  ·have:Op.bytesLess k p.k=true:=by
    rcases dz k p.k with q|q|q
    ·exact q
    ·exact absurd q.symm e
    ·rw[h1] at q;cases q
   simp[e,this,List.filter_cons]
theorem qC {k v:Bs}:∀{l:List Pr},l.Pairwise kLt→gO k v false l=gf l k v
 |[],_=>rfl
 |p::l,hr=>by
  obtain ⟨h1,h2⟩:=List.pairwise_cons.1 hr
  cases hb:Op.bytesLess p.k k with
  |true=>
   have ih:=qC (k:=k) (v:=v) h2
   have hne:¬p.k=k:=ne_of_lt hb
   have hn:Op.bytesLess k p.k=false:=ik hb
   rw[gO,hb]
   simp only[Bool.not_true,Bool.or_false,Bool.true_eq_false,and_false,if_false,hne,List.nil_append]
   rw[ih]
   simp[gf,List.filter_cons,hb,hn]
  |false=>
   have hge:∀q∈l,Op.bytesLess q.k k=false:=fun q hq=>by
    have a:=h1 q hq
    cases e:Op.bytesLess q.k k with
    |false=>rfl
    |true=>
     have:=rZ a (show Lt q.k k from e)
     rw[Lt,hb] at this;cases this
   have ht:=qB (k:=k) (v:=v) hge h2
   have hz:l.filter (fun p=>Op.bytesLess p.k k)=[]:=gT hge
   rw[gO,hb]
   simp only[Bool.not_false,Bool.or_true,and_self,if_true]
   rw[ht]
   by_cases e:p.k=k
   ·have:Op.bytesLess k p.k=false:=by rw[e];exact cQ k
    simp[gf,e,List.filter_cons,cQ,hz]
   ·have:Op.bytesLess k p.k=true:=by
     rcases dz k p.k with q|q|q
     ·exact q
     ·exact absurd q.symm e
     ·rw[hb] at q;cases q
    simp[gf,e,this,hb,List.filter_cons,hz]
theorem put_eq {l:List Pr} {k v:Bs} (hr:l.Pairwise kLt) (h1:k.length≤128) (h2:v.length≤200):iZ l k v=gf l k v∧iS k v=0:=by
 have hs:shut k v=false:=by simp[shut];omega
 unfold iZ iS
 rw[hs]
 exact ⟨qC hr,rfl⟩
theorem vn {l:List Pr} {k v:Bs} (h:128<k.length∨200<v.length):iZ l k v=l∧iS k v=2:=by
 have hs:shut k v=true:=by simp[shut];omega
 unfold iZ iS
 rw[hs]
 exact ⟨rfl,rfl⟩
theorem vo {l:List Pr} {k:Bs} (h:∃p∈l,p.k=k):fq l k=eE l k∧jz l k=0:=by
 have e:mn l k=0:=by
  unfold mn
  cases hf:l.find? (ml k) with
  |some x=>rfl
  |none=>
   rw[List.find?_eq_none] at hf
   obtain ⟨p,hp,e⟩:=h
   have:=hf p hp
   simp[ml,e] at this
 unfold fq jz
 rw[e]
 exact ⟨rfl,rfl⟩
theorem yE {l:List Pr} {k:Bs} (h:∀p∈l,p.k≠k):fq l k=l∧jz l k=7:=by
 have e:mn l k=7:=by
  unfold mn
  cases hf:l.find? (ml k) with
  |some x=>
   have h1:=List.mem_of_find?_eq_some hf
   have h2:=List.find?_some hf
   exact absurd (by simpa [ml] using h2) (h x h1)
  |none=>rfl
 unfold fq jz
 rw[e]
 exact ⟨rfl,rfl⟩
theorem sw {to:Bs} {p q:Pr} (h:iA to p=true) (hl:kLt p q):iA to q=true:=by
 simp only[iA,Bool.and_eq_true,Bool.not_eq_true'] at h ⊢
 exact ⟨h.1,by
  cases e:Op.bytesLess q.k to with
  |false=>rfl
  |true=>have:=rZ hl (show Lt q.k to from e);rw[Lt,h.2] at this;cases this⟩
theorem yF {to:Bs} {bq:Int}:∀{l acc:List Pr},l.Pairwise kLt→bq<0→(dX to bq l acc).1=acc++l.filter (fun p=> !iA to p)
 |[],acc,_,_=>by simp[dX]
 |p::l,acc,hr,hm=>by
  obtain ⟨h1,h2⟩:=List.pairwise_cons.1 hr
  simp only[dX]
  split
  ·rename_i hs
   rw[gT fun q hq=>?_]
   ·simp
   ·rcases List.mem_cons.1 hq with rfl|hq
    ·simp[hs]
    ·simp[sw hs (h1 q hq)]
  ·rename_i hs
   rw[if_neg ab,yF h2 hm]
   simp[List.filter_cons,hs]
theorem yG {to:Bs} {bq:Int}:∀{l acc:List Pr},l.Pairwise kLt→(acc.length:Int)<bq→(dX to bq l acc).1=acc++(l.filter (fun p=> !iA to p)).take (bq.toNat - acc.length)
 |[],acc,_,_=>by simp[dX]
 |p::l,acc,hr,hm=>by
  obtain ⟨h1,h2⟩:=List.pairwise_cons.1 hr
  simp only[dX]
  split
  ·rename_i hs
   rw[gT fun q hq=>?_]
   ·simp
   ·rcases List.mem_cons.1 hq with rfl|hq
    ·simp[hs]
    ·simp[sw hs (h1 q hq)]
  ·rename_i hs
   have hk:bq.toNat - acc.length=(bq.toNat - (acc.length+1))+1:=by omega
   have hf:(p::l).filter (fun p=> !iA to p)=p::l.filter (fun p=> !iA to p):=by simp[List.filter_cons,hs]
   rw[hf,hk,List.take_succ_cons]
   split
   ·rename_i e
    rw[show bq.toNat - (acc.length+1)=0 by omega]
    simp
   ·rw[yG h2 ak]
    simp
theorem EV {l:List Pr} (hr:l.Pairwise kLt) (a b:Bs) (bq:Int):jy l a b bq=su l a b bq:=by
 have hf:l.filter (fun p=>inR a b p.k)=(dG a l).filter (fun p=> !iA b p):=by
  unfold dG
  rw[List.filter_filter]
  refine List.filter_congr fun p _=>?_
  simp only[inR,iA]
  cases decide (b=[])<;>cases Op.bytesLess p.k a<;>cases Op.bytesLess p.k b<;>rfl
 have hr2:(dG a l).Pairwise kLt:=hr.sublist List.filter_sublist
 unfold jy su Dt
 rw[hf]
 by_cases h0:bq=0
 ·subst h0;simp
 ·rw[if_neg h0]
  by_cases hm:bq<0
  ·rw[if_pos hm,yF hr2 hm];simp
  ·rw[if_neg hm,yG hr2 ak];simp
theorem xr {l:List Pr} (hr:l.Pairwise kLt):jy l [] [] (-1)=l:=by
 rw[EV hr]
 unfold su Dt
 rw[if_pos ah]
 exact filter_all fun p _=>by simp[inR,dh]
end Go.Proofs.YtbgmofhgfnmaiaaGreat.Tree
end
section
set_option maxRecDepth 100000
namespace Go.Proofs.YtbgmofhgfnmaiaaGreat.Tree
open Go Go.Av Go.Proofs Go.Proofs.YtbgmofhgfnmaiaaGreat.C Go.Proofs.YtbgmofhgfnmaiaaGreat.Page
open Go.Proofs.YtbgmofhgfnmaiaaGreat.Batch (Bs Pr prs aZ)
def gG (s:PgS) (B:Nat):Rt→Prop
 |none=>True
 |some ⟨L,t⟩=>On s L t∧WF L [] none t∧(aW L t).Nodup∧Bnd L t B
theorem gG.congr {s s':PgS} {B:Nat} {R:Rt} (h:gG s B R) (e:∀j∈bw R,bts s' j=bts s j):gG s' B R:=by
 cases R with
 |none=>trivial
 |some r=>
  obtain ⟨L,t⟩:=r
  exact ⟨h.1.congr e,h.2⟩
theorem gG.more {s:PgS} {B B':Nat} {R:Rt} (h:gG s B R) (hB:B≤B'):gG s B' R:=by
 cases R with
 |none=>trivial
 |some r=>
  obtain ⟨L,t⟩:=r
  obtain ⟨a,b,c,f,h0,h1,h2⟩:=h
  exact ⟨a,b,c,f,ab,h1,h2⟩
theorem gH {s:PgS} {B:Nat} {R:Rt} (h:ROk s B R):gG s B R:=by
 cases R with
 |none=>trivial
 |some r=>
  obtain ⟨L,t⟩:=r
  exact ⟨h.1.on,h.1.wf,h.1.nd,h.2⟩
theorem Dw {s:PgS} {B:Nat} {R:Rt} (h:gG s B R) (hs:∀j∈bw R,(stt s j=1∨stt s j=2)∧j<s.np):ROk s B R:=by
 cases R with
 |none=>trivial
 |some r=>
  obtain ⟨L,t⟩:=r
  exact ⟨⟨h.1,h.2.1,h.2.2.1,hs⟩,h.2.2.2⟩
theorem gG.Hw {s:PgS} {B:Nat} {R:Rt} (h:gG s B R):(aG R).Pairwise kLt:=by
 cases R with
 |none=>exact List.Pairwise.nil
 |some r=>
  obtain ⟨L,t⟩:=r
  exact (jv L _ _ t h.2.1).2.2
theorem gG.lev {s:PgS} {B:Nat} {R:Rt} (h:gG s B R) (hB:B≤121):∀L t,R=some ⟨L,t⟩→L≤6:=fun L t e=>by
 subst e;exact EF h.2.2.2 hB
theorem gG.aW {s:PgS} {B:Nat} {R:Rt} (h:gG s B R):(bw R).length≤2*B:=by
 cases R with
 |none=>exact Nat.zero_le _
 |some r=>
  obtain ⟨L,t⟩:=r
  exact AN h.2.2.2
theorem oJ:∀(L:Nat) (lo:Bs) (hi:Option Bs) (t:Tr L),WF L lo hi t→∀p∈aP L t,p.k.length≤128
 |0,lo,hi,t,h,p,hp=>by
  obtain ⟨i,ks,vs'⟩:=t
  obtain ⟨vs,hvs⟩:∃vs:List Bs,vs=vs':=⟨vs',rfl⟩
  subst hvs
  have hr:right (aB ks vs)=true:=h.1
  obtain ⟨r1,-⟩:=(bD (n:=aB ks vs) rfl).1 hr
  exact r1.1 _ (eK hp)
 |L+1,lo,hi,t,h,p,hp=>by
  obtain ⟨i,ks,us'⟩:=t
  obtain ⟨us,hus⟩:∃us:List (Tr L),us=us':=⟨us',rfl⟩
  subst hus
  have hw:bJ (WF L) lo hi ks us:=h.2.2
  have hp:p∈(us.map (aP L)).flatten:=hp
  obtain ⟨l,hl,hpl⟩:=List.mem_flatten.1 hp
  obtain ⟨u,hu,rfl⟩:=List.mem_map.1 hl
  obtain ⟨j,hj,rfl⟩:=List.mem_iff_getElem.1 hu
  have:=hw.len
  obtain ⟨u',hu',wu,-⟩:=hw.at (j:=j) ab
  rw[List.getElem?_eq_getElem hj] at hu'
  cases hu'
  exact oJ L _ _ _ wu p hpl
theorem gG.short {s:PgS} {B:Nat} {R:Rt} (h:gG s B R):∀p∈aG R,p.k.length≤128:=by
 cases R with
 |none=>intro p hp;cases hp
 |some r=>
  obtain ⟨L,t⟩:=r
  exact oJ L _ _ t h.2.1
theorem tP:∀(n:Nat) (f:Nat→Bool) (l:List Nat),(∀j,j<n→f j=true→j∈l)→dV f n≤l.length
 |0,_,_,_=>Nat.zero_le _
 |n+1,f,l,h=>by
  rw[dV]
  cases hf:f n with
  |false=>
   have:=tP n f l fun j hj=>h j ab
   simpa using this
  |true=>
   have hm:=h n (Nat.lt_succ_self _) hf
   have h1:=tP n f (l.erase n) fun j hj hfj=>(List.mem_erase_of_ne ab).2 (h j ab hfj)
   have h2:=List.length_erase_of_mem hm
   have h3:=List.length_pos_of_mem hm
   simp only[Bool.toNat_true]
   omega
theorem yH (f:Nat→Bool):∀n,dV f n+dV (fun j=> !f j) n=n
 |0=>rfl
 |n+1=>by
  have:=yH f n
  simp only[dV]
  cases f n<;>simp<;>omega
structure jV (s:PgS) (R Rw:Rt):Prop where
 cur:∀j,(stt s j=1∨stt s j=2)↔j∈bw R
 old:∀j,(stt s j=1∨stt s j=3)↔j∈bw Rw
theorem room {s:PgS} {R Rw:Rt} {B W:Nat} (ok:cu s) (p:jV s R Rw) (h1:(bw R).length≤2*B) (h2:(bw Rw).length≤2*W):s.np≤free s+2*B+2*W:=by
 have a:=yH (fun j=>decide (stt s j=0)) s.np
 have b:=tP s.np (fun j=> !decide (stt s j=0)) (bw R++bw Rw) fun j hj hf=>by
  have h3:stt s j≤3:=ok.st3 j
  have hf:stt s j≠0:=by simpa using hf
  rw[List.mem_append]
  rcases (by omega:stt s j=1∨stt s j=2∨stt s j=3) with e|e|e
  ·exact .inl ((p.cur j).1 (.inl e))
  ·exact .inl ((p.cur j).1 (.inr e))
  ·exact .inr ((p.old j).1 (.inr e))
 rw[List.length_append] at b
 unfold free
 omega
theorem jV.mv {s s':PgS} {R R' Rw:Rt} (p:jV s R Rw) (m:Mv s s' (fun j=>j∈bw R) (fun j=>j∈bw R')):jV s' R' Rw where
 cur j:=by
  by_cases a:j∈bw R<;>by_cases b:j∈bw R'
  ·have:=m.stay j b a
   have c:=(p.cur j).2 a
   rw[this];simp[b,c]
  ·have c:=m.gone j a b
   simp only[b,iff_false]
   omega
  ·have c:=m.new j b a
   simp only[b,iff_true]
   omega
  ·have c:=m.off j a b
   have e:=p.cur j
   rw[c.1]
   simp only[a,iff_false,b] at e ⊢
   exact e
 old j:=(m.k13 j).trans (p.old j)
def EW (s:PgS):Prop:=∀w∈s.p,stt s (w.1/8)≠1∧stt s (w.1/8)≠3
theorem EW.mv {s s':PgS} {P P':Nat→Prop} (h:EW s) (m:Mv s s' P P'):EW s':=fun w hw=>by
 have k:=m.k13 (w.1/8)
 rcases m.pend w hw with a|a
 ·have:=h w a;omega
 ·omega
theorem vp {s:PgS} {a b:Nat} {ws:List W} (ok:cu s) (ha:a≠0) (hb:b≠0) (j:Nat):stt {s with ws:=ws,st:=ff a b s.st s.np} j=gN a b (stt s j):=by
 have hl:=ok.st
 unfold stt ff
 simp only
 rw[List.take_of_length_le ab,List.drop_eq_nil_of_le ab,List.append_nil,List.getD_eq_getElem?_getD,List.getElem?_map,List.getD_eq_getElem?_getD]
 cases s.st[j]? with
 |some z=>rfl
 |none=>simp[gN,ha.symm,hb.symm]
theorem qD {s:PgS} (ok:cu s) {j:Nat} (h:stt s j≠0):j<s.np:=by
 rcases Nat.lt_or_ge j s.np with e|e
 ·exact e
 ·exfalso
  apply h
  unfold stt
  rw[List.getD_eq_getElem?_getD,List.getElem?_eq_none (by rw[ok.st];exact e)]
  rfl
end Go.Proofs.YtbgmofhgfnmaiaaGreat.Tree
end
section
set_option maxRecDepth 100000
namespace Go.Proofs.YtbgmofhgfnmaiaaGreat.Tree
open Go Go.Av Go.Proofs Go.Proofs.YtbgmofhgfnmaiaaGreat.C Go.Proofs.YtbgmofhgfnmaiaaGreat.Page
open Go.Proofs.YtbgmofhgfnmaiaaGreat.Batch (Bs Pr prs aZ Ls)
open Go.Proofs.YtbgmofhgfnmaiaaGreat.R10 (gO iZ iS shut fq jz AY mn su inR Dt ml rest yB Dr Dp pd)
def stO (x:PgI) (tid:Nat) (l:List Pr) (root:Int) (was:List Pr):Av.Obj:= .cells [.ptr tid 0,.ptr x.P 0,.ptr x.D 0,.sl 2 (prs l) .any,.int .i64 root,.sl 2 (prs was) .any]
structure eF (x:PgI) (T:List Nat) (sid tid:Nat) (s:PgS) (R Rw:Rt) (C W:Nat) (h:H):Prop where
 ts:Ts x T tid s R C h
 os:h.objs sid=some (stO x tid (aG R) (rpg Rw) (aG Rw))
 sx:Tid x sid
 ne:sid≠tid
 np:s.np=500
 pg:jV s R Rw
 old:gG s W Rw
 pe:EW s
 pl:s.p.length≤200*C
 ll:(aG R).length≤C
 lw:(aG Rw).length≤W
 wc:W≤C
section
variable {x:PgI} {s:PgS} {T:List Nat} {h:H} {sid tid C W:Nat} {R Rw:Rt}
theorem eF.free (g:eF x T sid tid s R Rw C W h) (hc:C+W≤240):20≤free s:=by
 have:=room g.ts.ok g.pg (gH g.ts.rk).aW g.old.aW
 have:=g.np
 omega
theorem eF.lev (g:eF x T sid tid s R Rw C W h) (hc:C≤121):∀L t,R=some ⟨L,t⟩→L≤6:=(gH g.ts.rk).lev hc
theorem eF.gl (g:eF x T sid tid s R Rw C W h):sid<h.n:=g.ts.pg.ltn (by rw[g.os];rfl)
theorem sy {h1 h':H} {s':PgS} {R':Rt} (g:eF x T sid tid s R Rw C W h) (h1o:h1.objs sid=some (stO x tid (aG R') (rpg Rw) (aG Rw))) (m:eL x T tid s R h1 (C+1) s' R' h') (ls:sid<h1.n) (hl:(aG R').length≤C+1):eF x T sid tid s' R' Rw (C+1) W h' where
 ts:=m.ts
 os:=(m.sm sid ls g.sx g.ne).trans h1o
 sx:=g.sx
 ne:=g.ne
 np:=m.mv.np.trans g.np
 pg:=g.pg.mv m.mv
 old:=g.old.congr fun j hj=>m.mv.keep j ((g.pg.old j).2 hj)
 pe:=g.pe.mv m.mv
 pl:=by have:=m.pl;have:=g.pl;omega
 ll:=hl
 lw:=g.lw
 wc:=Nat.le_succ_of_le g.wc
theorem eL.more {B B':Nat} {s':PgS} {R':Rt} {h':H} (m:eL x T tid s R h B s' R' h') (hB:B≤B'):eL x T tid s R h B' s' R' h':=
 ⟨m.ts.keep m.ts.pg rfl hB,m.mv,m.pl,m.sm,m.no,m.ln⟩
theorem eF.Gd {l:List Pr} {root:Int} {was:List Pr} (g:eF x T sid tid s R Rw C W h):Ts x T tid s R C {h with objs:=upd h.objs sid (some (stO x tid l root was))}:=
 g.ts.keep (g.ts.pg.qt g.sx g.gl _) (by simp only[upd];rw[if_neg g.ne.symm]) (Nat.le_refl _)
theorem eF.new (g:eF x T sid tid s R Rw C W h) (o:Av.Obj):eF x T sid tid s R Rw C W (H.new h o):=
 ⟨g.ts.keep (g.ts.pg.new o) (aO g.ts.lt) (Nat.le_refl _),(aO g.gl).trans g.os,g.sx,g.ne,g.np,g.pg,g.old,g.pe,g.pl,g.ll,g.lw,g.wc⟩
def sA (x:PgI) (T:List Nat) (sid:Nat) (Rw:Rt) (C W:Nat) (k:Int) (h:H) (q:AV) (h':H):Prop:=q= .bool true∧∃tid' s' R' Rw' W',eF x T sid tid' s' R' Rw' (C+1) W' h'∧((k<2∨4<k)→Rw'=Rw∧W'=W)∧aq h h'
set_option maxHeartbeats 2000000 in
theorem step_drop (g:eF x T sid tid s R Rw C W h) (hc:C≤120) (hw:C+W≤240) (key vl:Bs):aJ Tryz.prog 11 [.ptr sid 0,.agg [.int .i64 1,.str key,.str vl]] h (sA x T sid Rw C W 1 h):=by
 refine f11.bC af ?_
 unfold c11 zz
 have hdp:=yB (aG R) (by have:=g.ll;omega) key
 obtain ⟨h1,hh1⟩:∃h1,h1=H.new h (.cells [.int .i64 1,.str key,.str vl]):=⟨_,rfl⟩
 have g1:eF x T sid tid s R Rw C W h1:=hh1▸g.new _
 have hb1:h1.objs h.n=some (.cells [.int .i64 1,.str key,.str vl]):=hh1▸bZ
 have no1:aq h h1:=hh1▸bP
 have ln1:h1.n=h.n+1:=hh1▸rfl
 have hnb:h.n≠sid:=by have:=g.gl;omega
 refine Wp.seq ?_
 refine Wp.dd (xAd @and_self) ?_
 refine an.nil ?_
 refine Wp.le (s':=⟨tm [(0,.ptr sid 0),(3,.ptr h.n 0)],h1⟩) (aM.of (bA ?_) (by rw[hh1];exact OLe.refl _) (fun y hy=>by rw[hh1] at hy;exact hy) (by rw[hh1];exact Nat.le_refl _) (by rw[hh1];exact Nat.le_refl _)) ?_
 ·exact xSb
 clear hh1
 have d1:decide ((1:Int)=1)=true:=by decide
 have os:=g1.os
 unfold stO at os
 refine rf0 (cj3 hb1 os d1) ?_
 refine Wp.reg ?_
 refine ao.part 6 (xAe (cj2 hb1 os)) ?_
 simp only[List.drop_succ_cons,List.drop_zero,List.drop_nil]
 refine ao.cb xA2 xAb (hdp) ?_
 refine ao.part 5 xA1 ?_
 simp only[List.drop_succ_cons,List.drop_zero,List.drop_nil]
 refine ao.nil ⟨by simp[bf,aQ,apart,aX],?_⟩
 refine rf0 os ?_
 refine Wp.le (s':=⟨tm [(0,.ptr sid 0),(3,.ptr h.n 0),(6,.int .i64 (jz (aG R) key:Nat))],⟨upd h1.objs sid (some (stO x tid (fq (aG R) key) (rpg Rw) (aG Rw))),h1.n,h1.toks,h1.m⟩⟩) (aM.of (bA ?_) (OLe.refl _) (fun y hy=>hy) (Nat.le_refl _) (Nat.le_refl _)) ?_
 ·exact xSb
 have t2:Ts x T tid s R C ⟨upd h1.objs sid (some (stO x tid (fq (aG R) key) (rpg Rw) (aG Rw))),h1.n,h1.toks,h1.m⟩:=g1.Gd
 have o2:(⟨upd h1.objs sid (some (stO x tid (fq (aG R) key) (rpg Rw) (aG Rw))),h1.n,h1.toks,h1.m⟩:H).objs sid=some (stO x tid (fq (aG R) key) (rpg Rw) (aG Rw)):=by simp only[upd,if_true]
 have hb2:(⟨upd h1.objs sid (some (stO x tid (fq (aG R) key) (rpg Rw) (aG Rw))),h1.n,h1.toks,h1.m⟩:H).objs h.n=some (.cells [.int .i64 1,.str key,.str vl]):=by simp only[upd];rw[if_neg hnb];exact hb1
 have no2:aq h1 ⟨upd h1.objs sid (some (stO x tid (fq (aG R) key) (rpg Rw) (aG Rw))),h1.n,h1.toks,h1.m⟩:=aq.set os
 have ls:sid<h1.n:=g1.gl
 have ln2:(⟨upd h1.objs sid (some (stO x tid (fq (aG R) key) (rpg Rw) (aG Rw))),h1.n,h1.toks,h1.m⟩:H).n=h1.n:=rfl
 generalize (⟨upd h1.objs sid (some (stO x tid (fq (aG R) key) (rpg Rw) (aG Rw))),h1.n,h1.toks,h1.m⟩:H)=h2 at*
 have hD:aJ Tryz.prog 20 [.ptr tid 0,.str key] h2 fun q h'=>aq h2 h'∧q= .int .i64 (jz (aG R) key:Nat)∧∃s' R',eL x T tid s R h2 (C+1) s' R' h'∧aG R'=fq (aG R) key:=by
  refine (Dd t2 (g1.lev ab) (fun L t e=>by have:=g1.free hw;have:=g1.lev ab L t e;omega) (by have:=g1.pl;omega)).mono ?_
  rintro q h' ⟨s',R',m,c⟩
  refine ⟨m.no,?_,s',R',m.more (Nat.le_succ _),?_⟩
  ·rcases c with ⟨a,b,-⟩|⟨a,b,-⟩
   ·rw[b,(vo a).2];rfl
   ·rw[b,(yE a).2];rfl
  ·rcases c with ⟨a,-,b⟩|⟨a,-,b,-⟩
   ·rw[b,(vo a).1]
   ·rw[b,(yE a).1]
 have o2':=o2
 unfold stO at o2'
 refine Wp.reg ?_
 refine ao.part 6 (xAe (cj2 hb2 o2')) ?_
 simp only[List.drop_succ_cons,List.drop_zero,List.drop_nil]
 refine ao.ba (vals:=[.ptr tid 0,.str key]) ae xA4 (fun j hj=>t2.pg.ltn hj) hD (fun r h' a=>a.1) fun q h3 ⟨no3,hq,s',R',m,hR⟩ n3 _=>?_
 subst hq
 have dq:decide ((((jz (aG R) key:Nat):Int))=((jz (aG R) key:Nat):Int))=true:=decide_eq_true rfl
 refine ao.part 3 (xAe dq) ?_
 simp only[List.drop_succ_cons,List.drop_zero,List.drop_nil]
 refine ao.nil ⟨by simp[bf,aQ,apart,aX],?_⟩
 have nn:aq h h3:=aq.trans no1 (aq.trans no2 no3 ab n3) ab ab
 refine Wp.ret ?_
 refine ⟨trivial,.bool true,?_,rfl,tid,s',R',Rw,W,sy g (hR▸o2) m ab (by rw[hR];have:=g.ll;unfold fq;split;exact Nat.le_trans (List.length_filter_le _ _) (Nat.le_succ_of_le this);omega),fun _=>⟨rfl,rfl⟩,nn⟩
 simp only[go_sem]
 exact rfl
set_option maxHeartbeats 2000000 in
theorem Dx (g:eF x T sid tid s R Rw C W h) (hc:C≤120) (hw:C+W≤240) (kd:Int) (hk:kd≠1∧kd≠2∧kd≠3∧kd≠4) (key vl:Bs) (lk:key.length≤1000):aJ Tryz.prog 11 [.ptr sid 0,.agg [(.int .i64 kd),.str key,.str vl]] h (sA x T sid Rw C W kd h):=by
 refine f11.bC af ?_
 unfold c11 zz
 have hsh:=(gH g.ts.rk).short
 have hrr:=(gH g.ts.rk).Hw
 have hdp:=Dr (aG R) (by have:=g.ll;omega) (fun p hp=>by have:=hsh p hp;unfold Batch.Ls;omega) key vl (by unfold Batch.Ls;omega)
 obtain ⟨h1,hh1⟩:∃h1,h1=H.new h (.cells [(.int .i64 kd),.str key,.str vl]):=⟨_,rfl⟩
 have g1:eF x T sid tid s R Rw C W h1:=hh1▸g.new _
 have hb1:h1.objs h.n=some (.cells [(.int .i64 kd),.str key,.str vl]):=hh1▸bZ
 have no1:aq h h1:=hh1▸bP
 have ln1:h1.n=h.n+1:=hh1▸rfl
 have hnb:h.n≠sid:=by have:=g.gl;omega
 refine Wp.seq ?_
 refine Wp.dd (xAd @and_self) ?_
 refine an.nil ?_
 refine Wp.le (s':=⟨tm [(0,.ptr sid 0),(3,.ptr h.n 0)],h1⟩) (aM.of (bA ?_) (by rw[hh1];exact OLe.refl _) (fun y hy=>by rw[hh1] at hy;exact hy) (by rw[hh1];exact Nat.le_refl _) (by rw[hh1];exact Nat.le_refl _)) ?_
 ·exact xSb
 clear hh1
 have d1:decide (kd=1)=false:=decide_eq_false hk.1
 have d2:decide (kd=2)=false:=decide_eq_false hk.2.1
 have d3:decide (kd=3)=false:=decide_eq_false hk.2.2.1
 have d4:decide (kd=4)=false:=decide_eq_false hk.2.2.2
 have os:=g1.os
 unfold stO at os
 refine rf0 (cj6 hb1 os d1 d2 d3 d4) ?_
 refine Wp.reg ?_
 refine ao.part 8 (xAe (cj2 hb1 os)) ?_
 simp only[List.drop_succ_cons,List.drop_zero,List.drop_nil]
 refine ao.cb xA2 xAb (hdp) ?_
 refine ao.part 5 xA1 ?_
 simp only[List.drop_succ_cons,List.drop_zero,List.drop_nil]
 refine ao.nil ⟨by simp[bf,aQ,apart,aX],?_⟩
 refine rf0 os ?_
 refine Wp.le (s':=⟨tm [(0,.ptr sid 0),(3,.ptr h.n 0),(12,.int .i64 (iS key vl:Nat))],⟨upd h1.objs sid (some (stO x tid (iZ (aG R) key vl) (rpg Rw) (aG Rw))),h1.n,h1.toks,h1.m⟩⟩) (aM.of (bA ?_) (OLe.refl _) (fun y hy=>hy) (Nat.le_refl _) (Nat.le_refl _)) ?_
 ·exact xSb
 have t2:Ts x T tid s R C ⟨upd h1.objs sid (some (stO x tid (iZ (aG R) key vl) (rpg Rw) (aG Rw))),h1.n,h1.toks,h1.m⟩:=g1.Gd
 have o2:(⟨upd h1.objs sid (some (stO x tid (iZ (aG R) key vl) (rpg Rw) (aG Rw))),h1.n,h1.toks,h1.m⟩:H).objs sid=some (stO x tid (iZ (aG R) key vl) (rpg Rw) (aG Rw)):=by simp only[upd,if_true]
 have hb2:(⟨upd h1.objs sid (some (stO x tid (iZ (aG R) key vl) (rpg Rw) (aG Rw))),h1.n,h1.toks,h1.m⟩:H).objs h.n=some (.cells [(.int .i64 kd),.str key,.str vl]):=by simp only[upd];rw[if_neg hnb];exact hb1
 have no2:aq h1 ⟨upd h1.objs sid (some (stO x tid (iZ (aG R) key vl) (rpg Rw) (aG Rw))),h1.n,h1.toks,h1.m⟩:=aq.set os
 have ls:sid<h1.n:=g1.gl
 have ln2:(⟨upd h1.objs sid (some (stO x tid (iZ (aG R) key vl) (rpg Rw) (aG Rw))),h1.n,h1.toks,h1.m⟩:H).n=h1.n:=rfl
 generalize (⟨upd h1.objs sid (some (stO x tid (iZ (aG R) key vl) (rpg Rw) (aG Rw))),h1.n,h1.toks,h1.m⟩:H)=h2 at*
 have hD:aJ Tryz.prog 24 [.ptr tid 0,.str key,.str vl] h2 fun q h'=>aq h2 h'∧q= .int .i64 (iS key vl:Nat)∧∃s' R',eL x T tid s R h2 (C+1) s' R' h'∧aG R'=iZ (aG R) key vl:=by
  refine (Fa t2 (g1.lev ab) ⟨by have:=g1.free hw;omega,fun L t e=>by have:=g1.free hw;have:=g1.lev ab L t e;omega⟩ (by have:=g1.pl;omega)).mono ?_
  rintro q h' ⟨s',R',m,c⟩
  refine ⟨m.no,?_,s',R',m,?_⟩
  ·rcases c with ⟨a,b,e,-⟩|⟨a,e,-⟩
   ·rw[e,(put_eq hrr a b).2];rfl
   ·rw[e,(vn (l:=aG R) a).2];rfl
  ·rcases c with ⟨a,b,-,e⟩|⟨a,-,e,-⟩
   ·rw[e,(put_eq hrr a b).1]
   ·rw[e,(vn a).1]
 have o2':=o2
 unfold stO at o2'
 refine Wp.reg ?_
 refine ao.part 8 (xAe (cj2 hb2 o2')) ?_
 simp only[List.drop_succ_cons,List.drop_zero,List.drop_nil]
 refine ao.ba (vals:=[.ptr tid 0,.str key,.str vl]) ae xA4 (fun j hj=>t2.pg.ltn hj) hD (fun r h' a=>a.1) fun q h3 ⟨no3,hq,s',R',m,hR⟩ n3 _=>?_
 subst hq
 have dq:decide ((((iS key vl:Nat):Int))=((iS key vl:Nat):Int))=true:=decide_eq_true rfl
 refine ao.part 3 (xAe dq) ?_
 simp only[List.drop_succ_cons,List.drop_zero,List.drop_nil]
 refine ao.nil ⟨by simp[bf,aQ,apart,aX],?_⟩
 have nn:aq h h3:=aq.trans no1 (aq.trans no2 no3 ab n3) ab ab
 refine Wp.ret ?_
 refine ⟨trivial,.bool true,?_,rfl,tid,s',R',Rw,W,sy g (hR▸o2) m ab (by rw[hR];have:=g.ll;exact Nat.le_trans (R10.Dq _ _ _) ab),fun _=>⟨rfl,rfl⟩,nn⟩
 simp only[go_sem]
 exact rfl
end
end Go.Proofs.YtbgmofhgfnmaiaaGreat.Tree
end
section
set_option maxRecDepth 100000
namespace Go.Proofs.YtbgmofhgfnmaiaaGreat.Tree
open Go Go.Av Go.Proofs Go.Proofs.YtbgmofhgfnmaiaaGreat.C Go.Proofs.YtbgmofhgfnmaiaaGreat.Page
open Go.Proofs.YtbgmofhgfnmaiaaGreat.Batch (Bs Pr prs aZ)
section
variable {x:PgI} {s:PgS} {T:List Nat} {h:H} {sid tid C W:Nat} {R Rw:Rt}
theorem Dy (tid:Nat) (r:Int):iU Tryz.prog 18 [.ptr tid 0] (fun j=>if j=tid then some (trO x r) else none) (.int .i64 r):=fun n m=>by
 have ot:(H.only (fun j=>if j=tid then some (trO x r) else none) [] n m).objs tid=some (.cells [.ptr x.P 0,.int .i64 r]):=by simp[H.only,trO]
 have co:=uW (h:=H.only (fun j=>if j=tid then some (trO x r) else none) [] n m) (id:=tid) ⟨_,_,_,ot⟩
 generalize H.only (fun j=>if j=tid then some (trO x r) else none) [] n m=h at*
 refine f18.cd af ?_
 unfold c18 zz
 refine rg1 (cj2 ot @Bool.not_true) co ?_
 refine Wp.ret ⟨trivial,_,?_,av.refl _,rfl⟩
 simp only[go_sem]
 exact rfl
theorem vq {h':H} {s':PgS} {ws:List (BitVec 64)} (g:eF x T sid tid s R Rw C W h) (h1:s'= {s with p:=[],d:=kd (fun _=>true) s.p s.d s.p.length,tk:=none,ws:=ws,st:=ff 3 2 s.st s.np}) (ok:cu s') (g':PgH x s' T h') (ot:h'.objs tid=some (trO x (rpg R))) (os:h'.objs sid=some (stO x tid (aG R) (rpg R) (aG R))):eF x T sid tid s' R R (C+1) C h':=by
 have hs:∀j,stt s' j=gN 3 2 (stt s j):=fun j=>by rw[h1];exact vp (s:=s) (ws:=ws) g.ts.ok ah ah j
 have hb:∀j,bts s' j=bts s j:=fun j=>by rw[h1];exact wY j
 have hnp:s'.np=s.np:=by rw[h1]
 have st:=(gH g.ts.rk).congr (s':=s') fun j _=>hb j
 have cur:∀j,(stt s' j=1∨stt s' j=2)↔j∈bw R:=fun j=>by
  rw[←g.pg.cur j,hs]
  have:=g.ts.ok.st3 j
  have:stt s j≤3:=this
  unfold gN
  split
  ·omega
  ·split<;>omega
 have old:∀j,(stt s' j=1∨stt s' j=3)↔j∈bw R:=fun j=>by
  rw[←g.pg.cur j,hs]
  have:stt s j≤3:=g.ts.ok.st3 j
  unfold gN
  split
  ·omega
  ·split<;>omega
 exact {ts:=⟨g',ok,ot,g.ts.tx,Dw (st.more (Nat.le_succ _)) fun j hj=>⟨(cur j).2 hj,qD ok (by have:=(cur j).2 hj;omega)⟩⟩,os:=os,sx:=g.sx,ne:=g.ne,np:=hnp.trans g.np,pg:=⟨cur,old⟩,old:=st,pe:=(fun w hw=>by rw[h1] at hw;cases hw),pl:=by rw[h1];exact Nat.zero_le _,ll:=Nat.le_succ_of_le g.ll,lw:=g.ll,wc:=Nat.le_succ _}
set_option maxHeartbeats 2000000 in
theorem vr (g:eF x T sid tid s R Rw C W h) (hc:C≤120) (key vl:Bs):aJ Tryz.prog 11 [.ptr sid 0,.agg [.int .i64 2,.str key,.str vl]] h (sA x T sid Rw C W 2 h):=by
 refine f11.bC af ?_
 unfold c11 zz
 obtain ⟨h1,hh1⟩:∃h1,h1=H.new h (.cells [.int .i64 2,.str key,.str vl]):=⟨_,rfl⟩
 have g1:eF x T sid tid s R Rw C W h1:=hh1▸g.new _
 have hb1:h1.objs h.n=some (.cells [.int .i64 2,.str key,.str vl]):=hh1▸bZ
 have no1:aq h h1:=hh1▸bP
 have ln1:h1.n=h.n+1:=hh1▸rfl
 have hnb:h.n≠sid:=by have:=g.gl;omega
 refine Wp.seq ?_
 refine Wp.dd (xAd @and_self) ?_
 refine an.nil ?_
 refine Wp.le (s':=⟨tm [(0,.ptr sid 0),(3,.ptr h.n 0)],h1⟩) (aM.of (bA ?_) (by rw[hh1];exact OLe.refl _) (fun y hy=>by rw[hh1] at hy;exact hy) (by rw[hh1];exact Nat.le_refl _) (by rw[hh1];exact Nat.le_refl _)) ?_
 ·exact xSb
 clear hh1
 have d1:decide ((2:Int)=1)=false:=by decide
 have d2:decide ((2:Int)=2)=true:=by decide
 have os:=g1.os
 unfold stO at os
 have hr:=Dy (x:=x) tid (rpg R)
 refine rf0 (cj4 hb1 os d1 d2) ?_
 refine Wp.reg ?_
 refine ao.part 6 (xAe (cj2 hb1 os)) ?_
 simp only[List.drop_succ_cons,List.drop_zero,List.drop_nil]
 refine ao.uw [tid] (vals:=[.ptr tid 0]) ae xA4 (fun j o hj=>by
  by_cases e:j=tid
  ·subst e;simp at hj;subst hj;exact g1.ts.ot
  ·simp[e] at hj) (fun j hj=>by
  by_cases e:j=tid
  ·simp[e]
  ·simp[e] at hj) hr ?_
 refine ao.part 10 (xAd (cj2 os @and_self)) ?_
 simp only[List.drop_succ_cons,List.drop_zero,List.drop_nil]
 refine ao.nil ⟨by simp[bf,aQ,apart,aX],?_⟩
 show Wp Tryz.prog _ _ _ _
 refine Wp.le (s':=⟨tm [(0,.ptr sid 0)],⟨upd h1.objs sid (some (stO x tid (aG R) (rpg R) (aG R))),h1.n,h1.toks,h1.m⟩⟩) (aM.of (bA ?_) (by rw[cK];exact OLe.refl _) (fun y hy=>hy) (Nat.le_refl _) (Nat.le_refl _)) ?_
 ·exact xSb
 have t2:Ts x T tid s R C ⟨upd h1.objs sid (some (stO x tid (aG R) (rpg R) (aG R))),h1.n,h1.toks,h1.m⟩:=g1.Gd
 have o2:(⟨upd h1.objs sid (some (stO x tid (aG R) (rpg R) (aG R))),h1.n,h1.toks,h1.m⟩:H).objs sid=some (stO x tid (aG R) (rpg R) (aG R)):=by simp only[upd,if_true]
 have no2:aq h1 ⟨upd h1.objs sid (some (stO x tid (aG R) (rpg R) (aG R))),h1.n,h1.toks,h1.m⟩:=aq.set os
 have ls:sid<h1.n:=g1.gl
 have ln2:(⟨upd h1.objs sid (some (stO x tid (aG R) (rpg R) (aG R))),h1.n,h1.toks,h1.m⟩:H).n=h1.n:=rfl
 generalize (⟨upd h1.objs sid (some (stO x tid (aG R) (rpg R) (aG R))),h1.n,h1.toks,h1.m⟩:H)=h2 at*
 have hf:=Es t2.pg t2.ok (by have:=g1.pl;omega)
 have o2':=o2
 unfold stO at o2'
 refine rf0 o2' ?_
 refine an.ba (vals:=[.ptr x.D 0]) ae xA4 hf fun q h3 ⟨hq,g3,sm3,no3⟩ n3 _=>?_
 subst hq
 have o3:=(cD sm3 ab g.sx).trans o2
 have ot3:=(cD sm3 t2.lt t2.tx).trans t2.ot
 have hs:=Cy g3 (t2.ok.kept)
 have o3':=o3
 unfold stO at o3'
 have d0:decide ((0:Int)=0)=true:=by decide
 refine an.evF (xAd (cj2 d0 o3')) ?_
 refine an.ba (vals:=[.ptr x.P 0]) al xA4 hs fun q h4 ⟨hq,tu⟩ n4 _=>?_
 subst hq
 obtain ⟨-,⟨ws,g4,ok4⟩,sm4,no4,-⟩:=tu
 have o4:=(cD sm4 ab g.sx).trans o3
 have ot4:=(cD sm4 (by have:=t2.lt;omega) t2.tx).trans ot3
 refine an.evF (xAd d0) ?_
 refine an.nil ?_
 have lw:=vq g rfl ok4 g4 ot4 o4
 have nn:aq h h4:=aq.trans no1 (aq.trans no2 (aq.trans no3 no4 n3 n4) ab ab) ab ab
 refine Wp.ret ?_
 refine ⟨trivial,.bool true,?_,rfl,tid,_,R,R,C,lw,fun hk=>by omega,nn⟩
 simp only[go_sem]
 exact rfl
theorem Dz (R:Rt): -1≤rpg R:=by
 cases R with
 |none=>exact Int.le_refl _
 |some r=>obtain ⟨L,t⟩:=r;show (-1:Int)≤((t.pg:Nat):Int);omega
theorem DA {R:Rt} (hn:0<s.np) (h:∀j∈bw R,j<s.np):rpg R<s.np:=by
 cases R with
 |none=>show (-1:Int)<_;omega
 |some r=>
  obtain ⟨L,t⟩:=r
  have:=h t.pg (by simp[bw,aW])
  show ((t.pg:Nat):Int)<_
  omega
theorem xt {h':H} {s':PgS} {t:Nat} {ws:List (BitVec 64)} (g:eF x T sid tid s R Rw C W h) (h1:s'= {s with ws:=ws,st:=ff 2 3 s.st s.np}) (ok:cu s') (g':PgH x s' T h') (tx:Tid x t) (ne:sid≠t) (ot:h'.objs t=some (trO x (rpg Rw))) (os:h'.objs sid=some (stO x t (aG Rw) (rpg Rw) (aG Rw))):eF x T sid t s' Rw Rw (C+1) W h':=by
 have hs:∀j,stt s' j=gN 2 3 (stt s j):=fun j=>by rw[h1];exact vp (s:=s) (ws:=ws) g.ts.ok ah ah j
 have hb:∀j,bts s' j=bts s j:=fun j=>by rw[h1];rfl
 have hnp:s'.np=s.np:=by rw[h1]
 have st:=g.old.congr (s':=s') fun j _=>hb j
 have cur:∀j,(stt s' j=1∨stt s' j=2)↔j∈bw Rw:=fun j=>by
  rw[←g.pg.old j,hs]
  have:stt s j≤3:=g.ts.ok.st3 j
  unfold gN
  split
  ·omega
  ·split<;>omega
 have old:∀j,(stt s' j=1∨stt s' j=3)↔j∈bw Rw:=fun j=>by
  rw[←g.pg.old j,hs]
  have:stt s j≤3:=g.ts.ok.st3 j
  unfold gN
  split
  ·omega
  ·split<;>omega
 exact {ts:=⟨g',ok,ot,tx,Dw (st.more (Nat.le_succ_of_le g.wc)) fun j hj=>⟨(cur j).2 hj,qD ok (by have:=(cur j).2 hj;omega)⟩⟩,os:=os,sx:=g.sx,ne:=ne,np:=hnp.trans g.np,pg:=⟨cur,old⟩,old:=st,pe:=(fun w hw=>by
  rw[h1] at hw
  have hp:=g.pe w hw
  rw[hs]
  unfold gN
  split
  ·omega
  ·split<;>omega),pl:=by rw[h1];exact Nat.le_trans g.pl ab,ll:=Nat.le_trans g.lw (Nat.le_succ_of_le g.wc),lw:=g.lw,wc:=Nat.le_succ_of_le g.wc}
theorem xu {h':H} {t:Nat} (g:eF x T sid tid s R Rw C W h) (g':PgH x s T h') (tx:Tid x t) (ne:sid≠t) (ot:h'.objs t=some (trO x (rpg R))) (os:h'.objs sid=some (stO x t (aG R) (rpg Rw) (aG Rw))):eF x T sid t s R Rw (C+1) W h':=
 {ts:=⟨g',g.ts.ok,ot,tx,g.ts.rk.more (Nat.le_succ _)⟩,os:=os,sx:=g.sx,ne:=ne,np:=g.np,pg:=g.pg,old:=g.old,pe:=g.pe,pl:=Nat.le_trans g.pl ab,ll:=Nat.le_succ_of_le g.ll,lw:=g.lw,wc:=Nat.le_succ_of_le g.wc}
theorem eF.EX (g:eF x T sid tid s R Rw C W h):rpg R<s.np:=DA g.ts.ok.np0 fun j hj=>qD g.ts.ok (by have:=(g.pg.cur j).2 hj;omega)
theorem eF.Ge (g:eF x T sid tid s R Rw C W h):rpg Rw<s.np:=DA g.ts.ok.np0 fun j hj=>qD g.ts.ok (by have:=(g.pg.old j).2 hj;omega)
set_option maxHeartbeats 2000000 in
theorem Bc (g:eF x T sid tid s R Rw C W h) (key vl:Bs):aJ Tryz.prog 11 [.ptr sid 0,.agg [.int .i64 3,.str key,.str vl]] h (sA x T sid Rw C W 3 h):=by
 refine f11.bC af ?_
 unfold c11 zz
 obtain ⟨h1,hh1⟩:∃h1,h1=H.new h (.cells [.int .i64 3,.str key,.str vl]):=⟨_,rfl⟩
 have g1:eF x T sid tid s R Rw C W h1:=hh1▸g.new _
 have hb1:h1.objs h.n=some (.cells [.int .i64 3,.str key,.str vl]):=hh1▸bZ
 have no1:aq h h1:=hh1▸bP
 have ln1:h1.n=h.n+1:=hh1▸rfl
 have hnb:h.n≠sid:=by have:=g.gl;omega
 refine Wp.seq ?_
 refine Wp.dd (xAd @and_self) ?_
 refine an.nil ?_
 refine Wp.le (s':=⟨tm [(0,.ptr sid 0),(3,.ptr h.n 0)],h1⟩) (aM.of (bA ?_) (by rw[hh1];exact OLe.refl _) (fun y hy=>by rw[hh1] at hy;exact hy) (by rw[hh1];exact Nat.le_refl _) (by rw[hh1];exact Nat.le_refl _)) ?_
 ·exact xSb
 clear hh1
 have d1:decide ((3:Int)=1)=false:=by decide
 have d2:decide ((3:Int)=2)=false:=by decide
 have d3:decide ((3:Int)=3)=true:=by decide
 have os:=g1.os
 have ls:sid<h1.n:=g1.gl
 have os':=os
 unfold stO at os'
 have hu:=FX g1.ts.pg g1.ts.ok
 refine rf0 (cj5 hb1 os' d1 d2 d3) ?_
 refine an.ba (vals:=[.ptr x.P 0]) ae xA4 hu fun q h2 ⟨hq,tu⟩ n2 _=>?_
 subst hq
 obtain ⟨-,⟨ws,g2,ok2⟩,sm2,no2,-⟩:=tu
 have o2:=(cD sm2 ab g.sx).trans os
 refine an.evF xAc ?_
 refine an.nil ?_
 have ho:=wZ g2 ok2 (Dz Rw) g1.Ge
 have o2':=o2
 unfold stO at o2'
 refine Wp.seq ?_
 refine Wp.reg ?_
 refine ao.part 8 (xAe o2') ?_
 simp only[List.drop_succ_cons,List.drop_zero,List.drop_nil]
 refine ao.ba (vals:=[.ptr x.P 0,.int .i64 (rpg Rw)]) ae xA4 (fun j hj=>g2.ltn hj) ho (fun r h' ⟨t,e,a,b,c,d,e2,f⟩=>f) fun q h3 ⟨t,hq,t1,t2,ot3,g3,k3,no3⟩ n3 _=>?_
 subst hq
 have o3:=(k3 sid ab).trans o2
 have o3':=o3
 unfold stO at o3'
 refine ao.part 5 xA1 ?_
 simp only[List.drop_succ_cons,List.drop_zero,List.drop_nil]
 refine ao.nil ⟨by simp[bf,aQ,apart,aX],?_⟩
 have d0:decide ((0:Int)=0)=true:=by decide
 refine rf0 (cj2 o3' d0) ?_
 refine Wp.le (s':=⟨tm [(4,.bool true)],⟨upd h3.objs sid (some (stO x t (aG Rw) (rpg Rw) (aG Rw))),h3.n,h3.toks,h3.m⟩⟩) (aM.of (bA ?_) (by rw[cK];exact OLe.refl _) (fun y hy=>hy) (Nat.le_refl _) (Nat.le_refl _)) ?_
 ·exact xSb
 have tx:=dB g2 t1
 have g4:=g3.qt g.sx (show sid<h3.n by omega) (stO x t (aG Rw) (rpg Rw) (aG Rw))
 have nt:sid≠t:=by omega
 have lw:=xt g rfl ok2 g4 tx nt (by simp only[upd];rw[if_neg nt.symm];exact ot3) (by simp only[upd,if_true])
 have nn:aq h ⟨upd h3.objs sid (some (stO x t (aG Rw) (rpg Rw) (aG Rw))),h3.n,h3.toks,h3.m⟩:=aq.trans no1 (aq.trans no2 (aq.trans no3 (aq.set o3) n3 (Nat.le_refl _)) n2 (by exact n3)) ab (by exact Nat.le_trans n2 n3)
 refine Wp.ret ⟨trivial,.bool true,?_,rfl,t,_,Rw,Rw,W,lw,fun _=>⟨rfl,rfl⟩,nn⟩
 simp only[go_sem]
 exact rfl
set_option maxHeartbeats 2000000 in
theorem Bd (g:eF x T sid tid s R Rw C W h) (key vl:Bs):aJ Tryz.prog 11 [.ptr sid 0,.agg [.int .i64 4,.str key,.str vl]] h (sA x T sid Rw C W 4 h):=by
 refine f11.bC af ?_
 unfold c11 zz
 obtain ⟨h1,hh1⟩:∃h1,h1=H.new h (.cells [.int .i64 4,.str key,.str vl]):=⟨_,rfl⟩
 have g1:eF x T sid tid s R Rw C W h1:=hh1▸g.new _
 have hb1:h1.objs h.n=some (.cells [.int .i64 4,.str key,.str vl]):=hh1▸bZ
 have no1:aq h h1:=hh1▸bP
 have ln1:h1.n=h.n+1:=hh1▸rfl
 have hnb:h.n≠sid:=by have:=g.gl;omega
 refine Wp.seq ?_
 refine Wp.dd (xAd @and_self) ?_
 refine an.nil ?_
 refine Wp.le (s':=⟨tm [(0,.ptr sid 0),(3,.ptr h.n 0)],h1⟩) (aM.of (bA ?_) (by rw[hh1];exact OLe.refl _) (fun y hy=>by rw[hh1] at hy;exact hy) (by rw[hh1];exact Nat.le_refl _) (by rw[hh1];exact Nat.le_refl _)) ?_
 ·exact xSb
 clear hh1
 have d1:decide ((4:Int)=1)=false:=by decide
 have d2:decide ((4:Int)=2)=false:=by decide
 have d3:decide ((4:Int)=3)=false:=by decide
 have d4:decide ((4:Int)=4)=true:=by decide
 have os:=g1.os
 have ls:sid<h1.n:=g1.gl
 have os':=os
 unfold stO at os'
 have hr:=Dy (x:=x) tid (rpg R)
 have ho:=wZ g1.ts.pg g1.ts.ok (Dz R) g1.EX
 refine rf0 (cj6 hb1 os' d1 d2 d3 d4) ?_
 refine Wp.reg ?_
 refine ao.part 8 (xAe os') ?_
 simp only[List.drop_succ_cons,List.drop_zero,List.drop_nil]
 refine ao.uw [tid] (vals:=[.ptr tid 0]) ae xA4 (fun j o hj=>by
  by_cases e:j=tid
  ·subst e;simp at hj;subst hj;exact g1.ts.ot
  ·simp[e] at hj) (fun j hj=>by
  by_cases e:j=tid
  ·simp[e]
  ·simp[e] at hj) hr ?_
 refine ao.ba (vals:=[.ptr x.P 0,.int .i64 (rpg R)]) ae xA4 (fun j hj=>g1.ts.pg.ltn hj) ho (fun r h' ⟨t,e,a,b,c,d,e2,f⟩=>f) fun q h3 ⟨t,hq,t1,t2,ot3,g3,k3,no3⟩ n3 _=>?_
 subst hq
 have o3:=(k3 sid ab).trans os
 have o3':=o3
 unfold stO at o3'
 refine ao.part 5 xA1 ?_
 simp only[List.drop_succ_cons,List.drop_zero,List.drop_nil]
 refine ao.nil ⟨by simp[bf,aQ,apart,aX],?_⟩
 have d0:decide ((0:Int)=0)=true:=by decide
 refine rf0 (cj2 o3' d0) ?_
 refine Wp.le (s':=⟨tm [(4,.bool true)],⟨upd h3.objs sid (some (stO x t (aG R) (rpg Rw) (aG Rw))),h3.n,h3.toks,h3.m⟩⟩) (aM.of (bA ?_) (by exact OLe.refl _) (fun y hy=>hy) (Nat.le_refl _) (Nat.le_refl _)) ?_
 ·exact xSb
 have tx:=dB g1.ts.pg t1
 have g4:=g3.qt g.sx (show sid<h3.n by omega) (stO x t (aG R) (rpg Rw) (aG Rw))
 have nt:sid≠t:=by omega
 have lw:=xu g g4 tx nt (by simp only[upd];rw[if_neg nt.symm];exact ot3) (by simp only[upd,if_true])
 have nn:aq h ⟨upd h3.objs sid (some (stO x t (aG R) (rpg Rw) (aG Rw))),h3.n,h3.toks,h3.m⟩:=aq.trans no1 (aq.trans no3 (aq.set o3) n3 (Nat.le_refl _)) ab (by exact n3)
 refine Wp.ret ⟨trivial,.bool true,?_,rfl,t,s,R,Rw,W,lw,fun _=>⟨rfl,rfl⟩,nn⟩
 simp only[go_sem]
 exact rfl
end
structure Act where
 kd:Int
 k:Bs
 v:Bs
deriving Inhabited
def qO (a:Act):AV:= .agg [.int .i64 a.kd,.str a.k,.str a.v]
def qE (l:List Act):List AV:=l.map qO
theorem ec (l:List Act):(qE l).length=l.length:=by simp[qE]
theorem sB (l:List Act) (j:Nat) (d:AV) (h:j<l.length):(qE l).getD j d=qO (l.getD j default):=by
 simp[qE,List.getD,List.getElem?_map,List.getElem?_eq_getElem h]
theorem nX (l:List Act):aU (qE l)=true:=Batch.dv (fun x=>by simp[qO,bn,aU]) l
def mo (l:List Act):Bool:=decide (l.length≤60)&&l.all fun a=>decide (a.k.length≤1000)&&decide (a.v.length≤1000)
section
variable {x:PgI} {s:PgS} {T:List Nat} {h:H} {sid tid C W:Nat} {R Rw:Rt}
theorem Gf (g:eF x T sid tid s R Rw C W h) (hc:C≤120) (hw:C+W≤240) (a:Act) (lk:a.k.length≤1000):aJ Tryz.prog 11 [.ptr sid 0,qO a] h (sA x T sid Rw C W a.kd h):=by
 obtain ⟨kd,k,v⟩:=a
 by_cases h1:kd=1
 ·subst h1;exact step_drop g hc hw k v
 by_cases h2:kd=2
 ·subst h2;exact vr g hc k v
 by_cases h3:kd=3
 ·subst h3;exact Bc g k v
 by_cases h4:kd=4
 ·subst h4;exact Bd g k v
 exact Dx g hc hw kd ⟨h1,h2,h3,h4⟩ k v lk
set_option maxHeartbeats 1000000 in
theorem Fb (l:List Act) (hl:l.length≤4611686018427387904):bj Tryz.prog 8 [.sl 3 (qE l) .any] (.bool (mo l)):=by
 refine f8.cV af (by simp[aU,bn,cF,nX]) (by simp[bn]) ?_
 unfold c8 zz
 by_cases h60:l.length≤60
 ·have d1:decide ((60:Int)<(l.length:Int))=false:=decide_eq_false ab
  refine an0 (cj2 @ec d1) ?_
  refine Wp.ko [0] xA6 (fun j:Nat=>[(3,.int .i64 j)]) (fun j=>j≤l.length∧(l.take j).all (fun a=>decide (a.k.length≤1000)&&decide (a.v.length≤1000))=true) (fun j=>l.length - j) 0 ⟨Nat.zero_le _,rfl⟩ ?_ ?_
  ·exact xSb
  rintro j ⟨hj,hpre⟩
  by_cases hc:j<l.length
  ·obtain ⟨g1,h2,h3,e1⟩:=ixF (j:=j) (n:=l.length) ab ab
   have hat:=sB l j .any hc
   have hel:l.getD j default=l[j]:=by simp[List.getD,List.getElem?_eq_getElem hc]
   by_cases hk:l[j].k.length≤1000∧l[j].v.length≤1000
   ·have hnext:(l.take (j+1)).all (fun a=>decide (a.k.length≤1000)&&decide (a.v.length≤1000))=true:=by
     rw[List.take_succ_eq_append_getElem hc,List.all_append,hpre]
     simp[hk]
    rw[←hel] at hk
    generalize l.getD j default=a at*
    have d2:decide ((1000:Int)<(a.k.length:Int))=false:=decide_eq_false ab
    have d3:decide ((1000:Int)<(a.v.length:Int))=false:=decide_eq_false ab
    refine an0 (qI @ec g1 h2 h3 e1 @Int.toNat_natCast hat @qO.eq_1 d2 d3) ?_
    refine ⟨j+1,⟨ab,hnext⟩,ab,?_⟩
    exact xSu
   ·have hno:mo l=false:=by
     unfold mo
     rw[Bool.and_eq_false_iff]
     refine .inr ?_
     rw[Bool.eq_false_iff]
     intro ha
     have:=List.all_eq_true.1 ha l[j] (List.getElem_mem hc)
     simp at this
     exact hk this
    rw[hno,←hel] at*
    generalize l.getD j default=a at*
    by_cases hk1:a.k.length≤1000
    ·have d2:decide ((1000:Int)<(a.k.length:Int))=false:=decide_eq_false ab
     have d3:decide ((1000:Int)<(a.v.length:Int))=true:=decide_eq_true ab
     refine an0 (qI @ec g1 h2 h3 e1 @Int.toNat_natCast hat @qO.eq_1 d2 d3) ?_
     refine cN ?_
     exact av.refl _
    ·have d2:decide ((1000:Int)<(a.k.length:Int))=true:=decide_eq_true ab
     refine an0 (cj9 @ec g1 h2 h3 e1 @Int.toNat_natCast hat @qO.eq_1 d2) ?_
     refine cN ?_
     exact av.refl _
  ·obtain rfl:j=l.length:=by omega
   have hyes:mo l=true:=by
    unfold mo
    rw[List.take_length] at hpre
    rw[hpre,decide_eq_true h60];rfl
   rw[hyes]
   have g1:=ixE (l.length)
   refine an0 (cj2 @ec g1) ?_
   refine cN ?_
   exact av.refl _
 ·have d1:decide ((60:Int)<(l.length:Int))=true:=decide_eq_true ab
  have hno:mo l=false:=by unfold mo;rw[decide_eq_false h60];rfl
  rw[hno]
  refine an0 (cj2 @ec d1) ?_
  refine cN ?_
  exact av.refl _
set_option maxHeartbeats 2000000 in
theorem yI {F:Nat→Option Av.Obj} {n m k:Nat} (hf:∀j,n≤j→F j=none) (hT:∀t∈T,t<m) (h0:0<k) (h1:k≤500):
  aJ Tryz.prog 10 [.int .i64 (k:Nat)] ⟨F,n,T,m⟩ fun q h'=>∃x t,q= .tup [.ptr t 0,.ptr x.P 0,.ptr x.D 0]∧Tid x t∧h'.objs t=some (trO x (-1))∧PgH x (pg0 k) T h'∧aq ⟨F,n,T,m⟩ h':=by
 refine f10.bC af ?_
 unfold c10 zz
 have e1:IntKind.i64.wrap (8*(k:Int))=((8*k:Nat):Int):=by rw[IntWalk.i64_in _ ab];omega
 have c1:=Au (F:=F) (n:=n) (m:=m) (T:=T) (k:=8*k) ab ab
 have c2:=wW (F:=upd (upd F n (some (.bk ⟨8*k,[]⟩))) (n+1) (some (dkO n (8*k) (cZ [] none)))) (n:=n+1+1) (m:=m) (T:=T) (D:=n+1) (K:=n) (k:=k) (pa:=cZ [] none) (by simp[upd]) h0 h1
 have g:=Hf (F:=F) (n:=n) (m:=m) (T:=T) (k:=k) hf hT
 have no:aq ⟨F,n,T,m⟩ ⟨m4 (upd (upd F n (some (.bk ⟨8*k,[]⟩))) (n+1) (some (dkO n (8*k) (cZ [] none)))) (n+1+1) (n+1) k,n+1+1+1+1+1+1,T,m⟩:=fun j hj=>by
  by_cases hn:n≤j
  ·refine .inr ⟨hn,?_⟩
   rcases Nat.lt_or_ge j (n+1+1+1+1+1+1) with q|q
   ·exact q
   ·rw[g.fresh j q] at hj;cases hj
  ·left
   simp only[m4,upd] at hj ⊢
   simpa [show ¬j=n+1+1+1+1+1 by omega,show ¬j=n+1+1+1+1 by omega,show ¬j=n+1+1+1 by omega,show ¬j=n+1+1 by omega,show ¬j=n+1 by omega,show ¬j=n by omega] using hj
 have hn6:(⟨m4 (upd (upd F n (some (.bk ⟨8*k,[]⟩))) (n+1) (some (dkO n (8*k) (cZ [] none)))) (n+1+1) (n+1) k,n+1+1+1+1+1+1,T,m⟩:H).n=n+1+1+1+1+1+1:=rfl
 generalize hF2:m4 (upd (upd F n (some (.bk ⟨8*k,[]⟩))) (n+1) (some (dkO n (8*k) (cZ [] none)))) (n+1+1) (n+1) k=F2 at*
 generalize upd (upd F n (some (.bk ⟨8*k,[]⟩))) (n+1) (some (dkO n (8*k) (cZ [] none)))=F1 at*
 have d0:decide ((0:Int)=0)=true:=by decide
 refine rf0 e1 ?_
 refine an.cJ xA2 xAb (by exact ⟨Nat.le_add_right _ 2,Nat.le_refl _⟩) (c1) ?_
 refine an.evF xAc ?_
 refine an.nil ?_
 refine rf0 (cj2 d0 @Bool.not_true) ?_
 refine an.cJ xA2 xAb (by exact ⟨Nat.le_add_right _ 4,Nat.le_refl _⟩) (c2) ?_
 refine an.evF xAc ?_
 refine an.nil ?_
 have ho:=wZ g (wX h0 h1) (r:= -1) (Int.le_refl _) (by show (-1:Int)<(k:Nat);omega)
 refine rf0 @and_self ?_
 refine an.ba (vals:=[.ptr (n+1+1+1+1+1) 0,.int .i64 (-1)]) ae xA4 ho fun q h3 ⟨t,hq,t1,t2,ot3,g3,k3,no3⟩ n3 _=>?_
 subst hq
 refine an.evF xAc ?_
 refine an.nil ?_
 refine rf0 (cj2 d0 @Bool.not_true) ?_
 refine Wp.ret ⟨trivial,.tup [.ptr t 0,.ptr (n+1+1+1+1+1) 0,.ptr (n+1) 0],?_,_,t,rfl,dB g t1,ot3,g3,aq.trans no no3 (by exact Nat.le_add_right _ 6) n3⟩
 simp only[go_sem]
 exact rfl
end
end Go.Proofs.YtbgmofhgfnmaiaaGreat.Tree
end
section
set_option maxRecDepth 100000
namespace Go.Proofs.YtbgmofhgfnmaiaaGreat.Tree
open Go Go.Av Go.Proofs Go.Proofs.YtbgmofhgfnmaiaaGreat.C Go.Proofs.YtbgmofhgfnmaiaaGreat.Page
open Go.Proofs.YtbgmofhgfnmaiaaGreat.Batch (Bs Pr prs aZ)
open Go.Proofs.YtbgmofhgfnmaiaaGreat.R10 (pd)
structure Tn (x:PgI) (T:List Nat) (tid:Nat) (s:PgS) (R:Rt) (C:Nat) (l:List Pr) (h:H):Prop where
 ts:Ts x T tid s R C h
 pg:jV s R none
 np:s.np=10
 pl:s.p.length≤2000
 eq:aG R=l
section
variable {x:PgI} {s:PgS} {T:List Nat} {h:H} {tid C:Nat} {R:Rt} {l:List Pr}
theorem Tn.room (g:Tn x T tid s R C l h):10≤free s+2*C:=by
 have:=Tree.room (W:=0) g.ts.ok g.pg (gH g.ts.rk).aW (Nat.zero_le _)
 have:=g.np
 omega
theorem Tn.low (g:Tn x T tid s R C l h):∀L t,R=some ⟨L,t⟩→2^L≤C:=fun L t e=>by
 have:=g.ts.rk
 rw[e] at this
 exact yv this.2
theorem Tn.Fc {s':PgS} {R':Rt} {h':H} {C':Nat} {l':List Pr} (g:Tn x T tid s R C l h) (m:eL x T tid s R h C' s' R' h') (hp:s.p.length≤1800) (e:aG R'=l'):Tn x T tid s' R' C' l' h':=
 ⟨m.ts,g.pg.mv m.mv,m.mv.np.trans g.np,by have:=m.pl;omega,e⟩
theorem nj {L C:Nat} (h:2^L≤C) (hC:C≤3):L≤1:=by
 rcases Nat.lt_or_ge L 2 with e|e
 ·omega
 ·have:=Nat.pow_le_pow_right (n:=2) ah e
  omega
theorem pow_zero {L C:Nat} (h:2^L≤C) (hC:C≤1):L=0:=by
 rcases Nat.lt_or_ge L 1 with e|e
 ·omega
 ·have:=Nat.pow_le_pow_right (n:=2) ah e
  omega
theorem Tn.put {k v:Bs} (g:Tn x T tid s R C l h) (hC:C≤2) (hp:s.p.length≤200*C) (hk:k.length≤128) (hv:v.length≤200):aJ Tryz.prog 24 [.ptr tid 0,.str k,.str v] h fun q h'=>q= .int .i64 0∧∃s' R',Tn x T tid s' R' (C+1) (gf l k v) h'∧s'.p.length≤200*(C+1):=by
 have hr:=g.room
 refine (Fa g.ts (fun L t e=>by have:=nj (g.low L t e) ab;omega) ⟨ab,fun L t e=>?_⟩ ab).mono ?_
 ·have h2:=g.low L t e
  have:=nj h2 ab
  by_cases h1:C≤1
  ·have:=pow_zero h2 h1;omega
  ·omega
 ·rintro q h' ⟨s',R',m,c⟩
  rcases c with ⟨-,-,e,b⟩|⟨a,-⟩
  ·exact ⟨e,s',R',g.Fc m ab (by rw[b,g.eq]),by have:=m.pl;omega⟩
  ·omega
theorem Tn.drop {k:Bs} (g:Tn x T tid s R 3 l h) (hp:s.p.length≤1600) (hk:∃p∈l,p.k=k):aJ Tryz.prog 20 [.ptr tid 0,.str k] h fun q h'=>q= .int .i64 0∧∃s' R',Tn x T tid s' R' 3 (eE l k) h'∧s'.p.length≤s.p.length+200:=by
 have hr:=g.room
 have he:=g.eq
 refine (Dd g.ts (fun L t e=>by have:=nj (g.low L t e) ab;omega) (fun L t e=>by have:=nj (g.low L t e) ab;omega) ab).mono ?_
 rintro q h' ⟨s',R',m,c⟩
 rcases c with ⟨-,e,b⟩|⟨a,-⟩
 ·exact ⟨e,s',R',g.Fc m ab (by rw[b,he]),m.pl⟩
 ·obtain ⟨p,hp,e⟩:=hk
  exact absurd e (a p (he▸hp))
theorem Tn.box {h':H} (g:Tn x T tid s R C l h) (b:fR x T tid s R C h h'):Tn x T tid s R C l h':=⟨b.ts,g.pg,g.np,g.pl,g.eq⟩
theorem Tn.lev (g:Tn x T tid s R C l h) (hC:C≤3):∀L t,R=some ⟨L,t⟩→L≤6:=fun L t e=>by have:=nj (g.low L t e) hC;omega
theorem Tn.scan (g:Tn x T tid s R C l h) (hC:C≤3) (hl:l.length≤1000):aJ Tryz.prog 13 [.ptr tid 0,.str [],.str [],.int .i64 (-1)] h fun q h'=>q= .tup [.sl 2 (prs l) .any,.int .i64 0]∧Tn x T tid s R C l h':=by
 have he:=g.eq
 refine (F6 g.ts (g.lev hC) (by have:=g.pl;omega) (by rw[he];omega)).mono ?_
 rintro q h' ⟨b,e⟩
 rw[xr (gH g.ts.rk).Hw,he] at e
 exact ⟨e,g.box b⟩
theorem Tn.check (g:Tn x T tid s R C l h) (hC:C≤3) (hl:l.length≤1000):aJ Tryz.prog 12 [.ptr tid 0] h fun q h'=>q= .tup [.int .i64 (l.length:Nat),.int .i64 0]∧Tn x T tid s R C l h':=by
 have he:=g.eq
 refine (EL g.ts (g.lev hC) (by have:=g.pl;omega) (by rw[he];omega)).mono ?_
 rintro q h' ⟨b,e⟩
 rw[he] at e
 exact ⟨e,g.box b⟩
theorem Tn.get {k:Bs} (g:Tn x T tid s R C [] h) (hC:C≤3):aJ Tryz.prog 14 [.ptr tid 0,.str k] h fun q h'=>q= .tup [.str [],.int .i64 7]∧Tn x T tid s R C [] h':=by
 have he:=g.eq
 refine (Hm g.ts (g.lev hC) (by have:=g.pl;omega)).mono ?_
 rintro q h' ⟨b,e⟩
 rw[he] at e
 exact ⟨e,g.box b⟩
theorem sC (k:Nat):jV (pg0 k) none none:=by
 have h0:∀j,stt (pg0 k) j=0:=fun j=>by
  unfold stt pg0
  simp only[List.getD_eq_getElem?_getD,List.getElem?_replicate]
  split<;>rfl
 exact ⟨fun j=>by rw[h0];simp[bw],fun j=>by rw[h0];simp[bw]⟩
set_option maxHeartbeats 4000000 in
theorem yJ:bj Tryz.prog 9 [] (.bool true):=by
 refine f9.cV af rfl rfl ?_
 unfold c9 zz
 have hb:aJ Tryz.prog 10 [.int .i64 10] ⟨az,0,[],0⟩ fun q h'=>∃x t,q= .tup [.ptr t 0,.ptr x.P 0,.ptr x.D 0]∧Tid x t∧h'.objs t=some (trO x (-1))∧PgH x (pg0 10) [] h'∧aq ⟨az,0,[],0⟩ h':=yI (k:=10) (fun _ _=>rfl) (fun t ht=>by cases ht) ah ah
 refine rf0 @and_self ?_
 refine an.ba (vals:=[.int .i64 10]) ae xA4 hb fun q h0 ⟨x,tid,hq,tx,ot,g,_⟩ _ _=>?_
 subst hq
 refine an.evF xAc ?_
 refine an.nil ?_
 have t0:Tn x [] tid (pg0 10) none 0 [] h0:=⟨⟨g,wX ah ah,ot,tx,trivial⟩,sC 10,rfl,Nat.zero_le _,rfl⟩
 refine rf0 @and_self ?_
 refine an.ba (vals:=[.ptr tid 0,.str [98],.str [49]]) ae xA4 (t0.put (k:=[98]) (v:=[49]) ah (Nat.zero_le _) ah ah) fun q h1 ⟨hq,s1,R1,t1,p1⟩ _ _=>?_
 subst hq
 refine an.evF xAc ?_
 refine an.nil ?_
 refine rf0 @and_self ?_
 refine an.ba (vals:=[.ptr tid 0,.str [97],.str [50]]) ae xA4 (t1.put (k:=[97]) (v:=[50]) ah p1 ah ah) fun q h2 ⟨hq,s2,R2,t2,p2⟩ _ _=>?_
 subst hq
 refine an.evF xAc ?_
 refine an.nil ?_
 refine rf0 @and_self ?_
 refine an.ba (vals:=[.ptr tid 0,.str [98],.str [51]]) ae xA4 (t2.put (k:=[98]) (v:=[51]) ah p2 ah ah) fun q h3 ⟨hq,s3,R3,t3,p3⟩ _ _=>?_
 subst hq
 refine an.evF xAc ?_
 refine an.nil ?_
 have e3:gf (gf (gf [] [98] [49]) [97] [50]) [98] [51]=[⟨[97],[50]⟩,⟨[98],[51]⟩]:=by decide
 rw[e3] at t3
 refine rf0 @and_self ?_
 refine an.ba (vals:=[.ptr tid 0,.str [],.str [],.int .i64 (-1)]) ae xA4 (t3.scan ah ah) fun q h4 ⟨hq,t4⟩ _ _=>?_
 subst hq
 refine an.evF xAc ?_
 refine an.nil ?_
 refine rf0 @and_self ?_
 refine an.ba (vals:=[.ptr tid 0]) ae xA4 (t4.check ah ah) fun q h5 ⟨hq,t5⟩ _ _=>?_
 subst hq
 refine an.evF xAc ?_
 refine an.nil ?_
 refine rf0 @and_self ?_
 refine an.ba (vals:=[.ptr tid 0,.str [97]]) ae xA4 (t5.drop (k:=[97]) ab ⟨_,List.mem_cons_self,rfl⟩) fun q h6 ⟨hq,s6,R6,t6,p6⟩ _ _=>?_
 subst hq
 refine an.evF xAc ?_
 refine an.nil ?_
 have e6:eE [⟨[97],[50]⟩,⟨[98],[51]⟩] [97]=[⟨[98],[51]⟩]:=by decide
 rw[e6] at t6
 refine rf0 @and_self ?_
 refine an.ba (vals:=[.ptr tid 0,.str [98]]) ae xA4 (t6.drop (k:=[98]) ab ⟨_,List.mem_cons_self,rfl⟩) fun q h7 ⟨hq,s7,R7,t7,p7⟩ _ _=>?_
 subst hq
 refine an.evF xAc ?_
 refine an.nil ?_
 have e7:eE [⟨[98],[51]⟩] [98]=[]:=by decide
 rw[e7] at t7
 refine rf0 @and_self ?_
 refine an.ba (vals:=[.ptr tid 0]) ae xA4 (t7.check ah ah) fun q h8 ⟨hq,t8⟩ _ _=>?_
 subst hq
 refine an.evF xAc ?_
 refine an.nil ?_
 refine rf0 @and_self ?_
 refine an.ba (vals:=[.ptr tid 0,.str [97]]) ae xA4 (t8.get (k:=[97]) ah) fun q h9 ⟨hq,t9⟩ _ _=>?_
 subst hq
 refine an.evF xAc ?_
 refine an.nil ?_
 have hr:rpg R7= -1:=by
  have e:=t9.eq
  cases R7 with
  |none=>rfl
  |some r=>
   obtain ⟨L,t⟩:=r
   exact absurd e (jv L _ _ t t9.ts.rk.1.wf).2.1
 have cr:=F9 t9.ts
 rw[hr] at cr
 have cs:=pd [⟨[97],[50]⟩,⟨[98],[51]⟩] [⟨[97],[50]⟩,⟨[98],[51]⟩] ah ah
 rw[decide_eq_true rfl] at cs
 have cs2:bj Tryz.prog 16 [.sl 2 (prs [⟨[97],[50]⟩,⟨[98],[51]⟩]) .any,.sl 2 [.agg [.str [97],.str [50]],.agg [.str [98],.str [51]]] .any] (.bool true):=cs
 clear cs
 generalize prs [⟨[97],[50]⟩,⟨[98],[51]⟩]=L0 at*
 have d0:decide ((0:Int)=0)=true:=by decide
 have d7:decide ((7:Int)=7)=true:=by decide
 have dm:decide ((-1:Int)= -1)=true:=by decide
 have dl:decide (((([⟨[97],[50]⟩,⟨[98],[51]⟩]:List Pr).length:Nat):Int)=2)=true:=by decide
 have dn:decide (((([]:List Pr).length:Nat):Int)=0)=true:=by decide
 generalize ((([⟨[97],[50]⟩,⟨[98],[51]⟩]:List Pr).length:Nat):Int)=N2 at*
 generalize ((([]:List Pr).length:Nat):Int)=N0 at*
 refine rf0 d0 ?_
 refine an.cb al (by simp only[go_sem,reduceIte,Nat.reduceEqDiff,List.map];exact ay.cons (av.refl _) (ay.cons av.cap ay.nil)) cs2 ?_
 refine an.evF (xAd (cj2 d0 dl)) ?_
 refine an.cJ al xA4 ⟨Nat.le_refl _,Nat.le_refl _⟩ cr ?_
 refine an.evF (xAd (cj4 d0 dm dn d7)) ?_
 refine an.nil ?_
 refine Wp.ret ⟨trivial,.bool true,?_,av.refl _⟩
 simp only[go_sem]
 exact rfl
end
end Go.Proofs.YtbgmofhgfnmaiaaGreat.Tree
end
section
set_option maxRecDepth 100000
namespace Go.Proofs.YtbgmofhgfnmaiaaGreat.Tree
open Go Go.Av Go.Proofs Go.Proofs.YtbgmofhgfnmaiaaGreat.C Go.Proofs.YtbgmofhgfnmaiaaGreat.Page
open Go.Proofs.YtbgmofhgfnmaiaaGreat.Batch (Bs Pr prs aZ)
open Go.Proofs.YtbgmofhgfnmaiaaGreat.R10 (pd Dp su AY mn)
theorem vt {l:List Act} (h:mo l=true):l.length≤60:=by
 simp only[mo,Bool.and_eq_true,decide_eq_true_eq] at h;exact h.1
theorem EY {l:List Act} (h:mo l=true) {j:Nat} (hj:j<l.length):(l.getD j default).k.length≤1000:=by
 simp only[mo,Bool.and_eq_true,decide_eq_true_eq,List.all_eq_true] at h
 have e:l.getD j default=l[j]:=by simp[List.getD,List.getElem?_eq_getElem hj]
 rw[e]
 exact (h.2 _ (List.getElem_mem hj)).1
section
variable {x:PgI} {s:PgS} {T:List Nat} {h:H} {sid tid C W:Nat} {R Rw:Rt}
theorem HQ {h1:H} (g:PgH x (pg0 500) T h) (ot:h.objs tid=some (trO x (-1))) (tx:Tid x tid):eF x T h.n tid (pg0 500) none none 0 0 (H.new h (stO x tid [] (-1) [])):=
 ⟨⟨g.new _,wX ah ah,(aO (g.ltn (by rw[ot];rfl))).trans ot,tx,trivial⟩,bZ,dB g (Nat.le_refl _),by have:=g.ltn (j:=tid) (by rw[ot];rfl);omega,rfl,sC 500,trivial,fun w hw=>(by cases hw),Nat.zero_le _,Nat.zero_le _,Nat.zero_le _,Nat.le_refl _⟩
end
end Go.Proofs.YtbgmofhgfnmaiaaGreat.Tree
end
section
set_option maxRecDepth 100000
namespace Go.Proofs.YtbgmofhgfnmaiaaGreat.Tree
open Go Go.Av Go.Proofs Go.Proofs.YtbgmofhgfnmaiaaGreat.C Go.Proofs.YtbgmofhgfnmaiaaGreat.Page
open Go.Proofs.YtbgmofhgfnmaiaaGreat.Batch (Bs Pr prs aZ)
set_option maxHeartbeats 2000000 in
theorem Gg (l:List Act) (hf:mo l=true):aJ Tryz.prog 27 [.sl 3 (qE l) .any] ⟨az,0,[],0⟩ fun q h'=>∃x sid tid s R Rw W,q= .ptr sid 0∧eF x [] sid tid s R Rw l.length W h':=by
 have hl60:=vt hf
 refine f27.bC af ?_
 unfold c27 zz
 have hb:aJ Tryz.prog 10 [.int .i64 500] ⟨az,0,[],0⟩ fun q h'=>∃x t,q= .tup [.ptr t 0,.ptr x.P 0,.ptr x.D 0]∧Tid x t∧h'.objs t=some (trO x (-1))∧PgH x (pg0 500) [] h'∧aq ⟨az,0,[],0⟩ h':=yI (k:=500) (fun _ _=>rfl) (fun t ht=>by cases ht) ah ah
 refine rf0 @and_self ?_
 refine an.ba (vals:=[.int .i64 500]) ae xA4 hb fun q h0 ⟨x,tid,hq,tx,ot,g,_⟩ _ _=>?_
 subst hq
 refine an.evF xAc ?_
 refine an.nil ?_
 refine rf0 @and_self ?_
 have g0:=HQ (h1:=h0) g ot tx
 refine Wp.le (s':=⟨tm [(0,.sl 3 (qE l) .any),(6,.ptr h0.n 0),(7,.int .i64 0)],H.new h0 (stO x tid [] (-1) [])⟩) (aM.of (bA ?_) (OLe.upd (OLe.refl _) ?_) (fun y hy=>hy) (Nat.le_refl _) (Nat.le_refl _)) ?_
 ·exact xSb
 ·exact ay.cons (av.refl _) (ay.cons (av.refl _) (ay.cons (av.refl _) (ay.cons av.cap (ay.cons (av.refl _) (ay.cons av.cap ay.nil)))))
 generalize H.new h0 (stO x tid [] (-1) [])=h1 at*
 generalize h0.n=sid at*
 refine Wp.eI [0,6] xA7 (fun b:Nat × H=>[(7,.int .i64 (b.1:Nat))]) (fun b=>b.2) (fun b=>b.1≤l.length∧∃tid s R Rw W,eF x [] sid tid s R Rw b.1 W b.2) (fun b=>l.length - b.1) (0,h1) ⟨Nat.zero_le _,_,_,_,_,_,g0⟩ rfl ?_ ?_
 ·exact xSb
 clear g0 ot g tx
 rintro ⟨j,hp⟩ ⟨hj,tid2,s,R,Rw,W,g⟩
 simp only at hj g
 have hW:=g.wc
 by_cases hc:j<l.length
 ·obtain ⟨g1,h2,h3,e1⟩:=ixF (j:=j) (n:=l.length) ab ab
  have hat:=sB l j .any hc
  have hk:=EY hf hc
  generalize l.getD j default=a at*
  have hs:=Gf g ab ab a hk
  unfold qO at hs hat
  refine rf0 (cj8 @ec g1 h2 h3 @and_self e1 @Int.toNat_natCast hat) ?_
  refine an.ba (vals:=[.ptr sid 0,.agg [.int .i64 a.kd,.str a.k,.str a.v]]) ae xA4 hs fun q h4 ⟨hq,tid3,s3,R3,Rw3,W3,g3,_,_⟩ _ _=>?_
  subst hq
  refine an.evF xAc ?_
  refine an.nil ?_
  refine rf0 (cj2 @Bool.not_true e1) ?_
  refine ⟨(j+1,h4),⟨by simp only;omega,_,_,_,_,_,g3⟩,by simp only;omega,aM.tm ?_⟩
  exact xSb
 ·obtain rfl:j=l.length:=by omega
  have g1:=ixE (l.length)
  refine rf0 (cj2 @ec g1) ?_
  refine Wp.ret ⟨trivial,.ptr sid 0,?_,x,sid,tid2,s,R,Rw,W,rfl,g⟩
  simp only[go_sem]
  exact rfl
def iD (s:PgS):List Nat:=(List.range s.np).filter fun j=>decide (stt s j=1)||decide (stt s j=2)
theorem xv (s:PgS):(iD s).Nodup:=List.Pairwise.filter _ List.nodup_range
theorem DB {s:PgS} {l:List Nat} (nd:l.Nodup) (h:∀j,(stt s j=1∨stt s j=2)↔j∈l) (hlt:∀j∈l,j<s.np):srt l=dY (iD s):=by
 have pm:List.Perm l (iD s):=(List.perm_ext_iff_of_nodup nd (xv s)).2 fun j=>by
  simp only[iD,List.mem_filter,List.mem_range,Bool.or_eq_true,decide_eq_true_eq]
  exact ⟨fun a=>⟨hlt j a,(h j).2 a⟩,fun a=>(h j).1 a.2⟩
 unfold srt
 refine List.Perm.eq_of_pairwise (le:=fun a b:Int=>a≤b) (fun a b _ _ x y=>by omega) ?_ ?_ ((List.mergeSort_perm _ _).trans (pm.map _))
 ·exact (List.pairwise_mergeSort (le:=fun a b:Int=>decide (a≤b)) (fun a b c x y=>by simp only[decide_eq_true_eq] at x y ⊢;omega) (fun a b=>by simp;omega) _).imp fun h=>by simpa using h
 ·unfold dY
  rw[List.pairwise_map]
  exact (List.Pairwise.filter _ List.pairwise_lt_range).imp fun h=>by omega
theorem jW (s:PgS) (z:Nat) (hz:z=1∨z=2):cB s.st z s.np=dY ((iD s).filter fun j=>decide (stt s j=z)):=by
 unfold cB dY iD
 rw[List.filter_filter]
 congr 1
 refine List.filter_congr fun j _=>?_
 show decide (stt s j=z)=_
 rcases hz with rfl|rfl
 ·by_cases e:stt s j=1<;>simp[e]
 ·by_cases e:stt s j=2<;>simp[e]
theorem yK (s:PgS):∀l:List Nat,(∀j∈l,stt s j=1∨stt s j=2)→l.length=(l.filter fun j=>decide (stt s j=1)).length+(l.filter fun j=>decide (stt s j=2)).length
 |[],_=>rfl
 |j::l,h=>by
  have ih:=yK s l fun k hk=>h k (by simp[hk])
  rcases h j af with e|e
  ·simp[e];omega
  ·simp[e];omega
theorem yL {s:PgS} {j:Nat} (h:j∈iD s):stt s j=1∨stt s j=2:=by
 simpa [iD] using (List.mem_filter.1 h).2
theorem sD {p:Nat→Bool} {l:List Nat} {k:Nat} (hk:k<l.length) (hp:p l[k]=true):(l.filter p)[((l.take k).filter p).length]? =some l[k]∧((l.take (k+1)).filter p).length=((l.take k).filter p).length+1:=by
 have e:l=l.take k++l[k]::l.drop (k+1):=by rw[←List.drop_eq_getElem_cons hk,List.take_append_drop]
 constructor
 ·have e2:=congrArg (List.filter p) e
  rw[List.filter_append,List.filter_cons_of_pos hp] at e2
  rw[e2,List.getElem?_append_right (Nat.le_refl _),Nat.sub_self]
  rfl
 ·rw[List.take_succ_eq_append_getElem hk,List.filter_append,List.length_append,List.filter_cons_of_pos hp];rfl
theorem nk {p:Nat→Bool} {l:List Nat} {k:Nat} (hk:k<l.length) (hp:p l[k]=false):((l.take (k+1)).filter p).length=((l.take k).filter p).length:=by
 rw[List.take_succ_eq_append_getElem hk,List.filter_append,List.length_append,List.filter_cons_of_neg (by simp[hp])];rfl
theorem vu {p:Nat→Bool} {l:List Nat} {i:Nat} (hi:i<(l.filter p).length):p (l.filter p)[i]=true:=(List.mem_filter.1 (List.getElem_mem hi)).2
theorem nY (l:List Nat) (k:Nat) (hk:k<l.length):(ints (dY l)).getD k .any= .int .i64 ((l[k]:Nat):Int):=by
 simp[ints,dY,List.getD,List.getElem?_eq_getElem hk]
set_option maxHeartbeats 4000000 in
theorem xw (l:List Act) (hf:mo l=true):bj Tryz.prog 7 [.sl 3 (qE l) .any] (.bool true):=by
 have hl60:=vt hf
 refine f7.cV af (by simp[aU,bn,cF,nX]) rfl ?_
 unfold c7 zz
 have cf:=Fb l ab
 rw[hf] at cf
 have hd:=Gg l hf
 have clv:=yJ
 have d0:decide ((0:Int)=0)=true:=by decide
 refine rf1 @Bool.not_true cf ?_
 refine an.ba (vals:=[.sl 3 (qE l) .any]) ae xA4 hd fun q h0 ⟨x,sid,tid,s,R,Rw,W,hq,g⟩ _ _=>?_
 subst hq
 have os:=g.os
 unfold stO at os
 have st:=gH g.ts.rk
 have hpg:=st.aW
 have hpl:=g.pl
 have hlt:∀j∈bw R,j<s.np:=fun j hj=>qD g.ts.ok (by have:=(g.pg.cur j).2 hj;omega)
 have hnd:(bw R).Nodup:=by
  cases R with
  |none=>exact List.nodup_nil
  |some r=>obtain ⟨L,t⟩:=r;exact g.ts.rk.1.nd
 have hpp:=EU g.ts.z (g.lev ab) ab ab
 rw[DB hnd g.pg.cur hlt] at hpp
 refine an.evF xAc ?_
 refine an.nil ?_
 refine rf0 os ?_
 refine an.ba (vals:=[.ptr tid 0]) ae xA4 hpp fun q h2 ⟨⟨g2,k2,_⟩,hq⟩ _ _=>?_
 subst hq
 have os2:=(k2 sid g.gl).trans os
 have hps:=yg g2 g.ts.ok
 rw[jW s 1 (.inl rfl),jW s 2 (.inr rfl)] at hps
 refine an.evF xAc ?_
 refine an.nil ?_
 refine rf0 os2 ?_
 refine an.ba (vals:=[.ptr x.P 0]) ae xA4 hps fun q h3 ⟨hq,g3,o3⟩ _ _=>?_
 subst hq
 have os3:h3.objs sid=_:=(congrFun o3 sid).trans os2
 have cfr:=yh g3 g.ts.ok
 have htk:=rX g.ts.ok
 rw[jW s 1 (.inl rfl),jW s 2 (.inr rfl)] at htk
 have h2l:=yK s (iD s) (fun j hj=>yL hj)
 have hnp:=g.np
 have hL500:(iD s).length≤500:=by
  have:=List.length_filter_le (fun j=>decide (stt s j=1)||decide (stt s j=2)) (List.range s.np)
  unfold iD
  rw[List.length_range] at this
  omega
 have hin:∀k,(hk:k<(iD s).length)→stt s (iD s)[k]=1∨stt s (iD s)[k]=2:=fun k hk=>yL (List.getElem_mem hk)
 clear g os os2 hpp hps g2 g3 hd hpg hnd hlt k2 o3 st
 generalize iD s=L at*
 obtain ⟨S,hS⟩:∃S,S=L.filter fun j=>decide (stt s j=1):=⟨_,rfl⟩
 obtain ⟨F,hF⟩:∃F,F=L.filter fun j=>decide (stt s j=2):=⟨_,rfl⟩
 rw[←hS,←hF] at htk h2l ⊢
 obtain ⟨O,hO⟩:∃O,O=cB s.st 3 s.np:=⟨_,rfl⟩
 rw[←hO] at htk ⊢
 have q1:(ints (dY L)).length=L.length:=by simp[ints,dY]
 have q2:(ints (dY S)).length=S.length:=by simp[ints,dY]
 have q3:(ints (dY F)).length=F.length:=by simp[ints,dY]
 have q4:(ints O).length=O.length:=by simp[ints]
 have q5:(dY S).length=S.length:=kH S
 have q6:(dY F).length=F.length:=kH F
 rw[q5,q6] at htk
 have hcw:=htk
 generalize lx s.ws s.ws.length=cw at*
 obtain ⟨fz,hfz⟩:∃fz:Int,fz=(s.np:Int) - (cw:Nat):=⟨_,rfl⟩
 rw[←hfz] at cfr
 have aS:=nY S
 have aF:=nY F
 have aL:=nY L
 generalize ints (dY L)=AL at*
 generalize ints (dY S)=AS at*
 generalize ints (dY F)=AF at*
 generalize ints O=AO at*
 have hob:O.length≤500:=by
  rw[hO]
  unfold cB
  rw[List.length_map]
  have:=List.length_filter_le (fun j=>decide (s.st.getD j 0=3)) (List.range s.np)
  rw[List.length_range] at this
  omega
 have e46:IntKind.i64.wrap ((S.length:Int)+(F.length:Int))=(L.length:Int):=by rw[IntWalk.i64_in _ ab];omega
 obtain ⟨v,hv⟩:∃v,v=L.length+O.length:=⟨_,rfl⟩
 have e54:IntKind.i64.wrap ((L.length:Int)+(O.length:Int))=(v:Int):=by rw[IntWalk.i64_in _ ab];omega
 have e60:IntKind.i64.wrap ((v:Int)+fz)=500:=by rw[IntWalk.i64_in _ ab];omega
 have dl:decide ((L.length:Int)=(L.length:Int))=true:=decide_eq_true rfl
 have d5:decide ((500:Int)=500)=true:=by decide
 refine an.evF xAc ?_
 refine an.nil ?_
 refine rg1 (cL d0 @q1 @q2 q3 @q4 e46 e54 e60 dl d5 @Bool.not_true os3) cfr ?_
 obtain ⟨I,hI⟩:∃I:Nat→Nat,∀k,I k=((L.take k).filter fun j=>decide (stt s j=1)).length:=⟨_,fun _=>rfl⟩
 obtain ⟨J,hJ⟩:∃J:Nat→Nat,∀k,J k=((L.take k).filter fun j=>decide (stt s j=2)).length:=⟨_,fun _=>rfl⟩
 have hI0:((I 0:Nat):Int)=0:=by rw[hI];rfl
 have hJ0:((J 0:Nat):Int)=0:=by rw[hJ];rfl
 refine Wp.eI [4,6,7] xA7 (fun b:Nat=>[(11,.int .i64 (b:Int)),(9,.int .i64 ((I b:Nat):Int)),(10,.int .i64 ((J b:Nat):Int))]) (fun _=>h3) (fun b=>b≤L.length) (fun b=>L.length - b) 0 (Nat.zero_le _) rfl ?_ ?_
 ·rw[hI0,hJ0]
  exact xSb
 rintro k hk
 by_cases hc:k<L.length
 ·have x1:(0:Int)≤(k:Int):=by omega
  have x2:(k:Int)<((L.length:Nat):Int):=by omega
  have dk:decide ((k:Int)<((L.length:Nat):Int))=true:=decide_eq_true x2
  have hgL:=aL k hc
  have y1:(0:Int)≤((I k:Nat):Int):=by omega
  have z1:(0:Int)≤((J k:Nat):Int):=by omega
  have ek:IntKind.i64.wrap ((k:Int)+1)=((k+1:Nat):Int):=by rw[IntWalk.i64_in _ ab];rfl
  rcases hin k hc with h1|h1
  ·obtain ⟨f1,f2⟩:=sD (p:=fun j=>decide (stt s j=1)) hc (by simp[h1])
   have f3:=nk (p:=fun j=>decide (stt s j=2)) hc (by simp[h1])
   rw[←hI,←hI] at f2
   rw[←hJ,←hJ] at f3
   rw[←hS,←hI] at f1
   obtain ⟨hIk,f1⟩:=List.getElem?_eq_some_iff.1 f1
   have hgS:=aS (I k) hIk
   rw[f1] at hgS
   have y2:((I k:Nat):Int)<((S.length:Nat):Int):=by omega
   have dS:=decide_eq_true y2
   have ei:IntKind.i64.wrap (((I k:Nat):Int)+1)=((I (k+1):Nat):Int):=by rw[IntWalk.i64_in _ ab,f2];rfl
   rw[←f3]
   generalize L[k]=a at*
   have da:decide (((a:Nat):Int)=((a:Nat):Int))=true:=decide_eq_true rfl
   refine rf0 (cj2 @q1 dk) ?_
   refine Wp.reg ?_
   refine ao.part 16 (xAd (cL @q1 @q2 dS hgS hgL x1 x2 y1 y2 @and_self @Int.toNat_natCast da)) ?_
   simp only[List.drop_succ_cons,List.drop_zero,List.drop_nil]
   refine ao.nil ⟨by simp[bf,aQ,apart,aX],?_⟩
   refine rf0 (cj2 ei ek) ?_
   refine ⟨k+1,ab,ab,aM.tm ?_⟩
   exact xSb
  ·obtain ⟨f1,f2⟩:=sD (p:=fun j=>decide (stt s j=2)) hc (by simp[h1])
   have f3:=nk (p:=fun j=>decide (stt s j=1)) hc (by simp[h1])
   rw[←hJ,←hJ] at f2
   rw[←hI,←hI] at f3
   rw[←hF,←hJ] at f1
   obtain ⟨hJk,f1⟩:=List.getElem?_eq_some_iff.1 f1
   have hgF:=aF (J k) hJk
   rw[f1] at hgF
   have z2:((J k:Nat):Int)<((F.length:Nat):Int):=by omega
   have dF:=decide_eq_true z2
   have ej:IntKind.i64.wrap (((J k:Nat):Int)+1)=((J (k+1):Nat):Int):=by rw[IntWalk.i64_in _ ab,f2];rfl
   have hno:∀hi:I k<S.length,S[I k]≠L[k]:=fun hi e=>by
    subst hS
    have:=vu hi
    rw[e] at this
    simp[h1] at this
   generalize L[k]=a at*
   have da:decide (((a:Nat):Int)=((a:Nat):Int))=true:=decide_eq_true rfl
   by_cases hi:I k<S.length
   ·have hgS:=aS (I k) hi
    have hne:=hno hi
    generalize S[I k]=b at*
    have db:decide (((b:Nat):Int)=((a:Nat):Int))=false:=decide_eq_false ab
    have y2:((I k:Nat):Int)<((S.length:Nat):Int):=by omega
    have dS:=decide_eq_true y2
    refine rf0 (cj2 @q1 dk) ?_
    refine Wp.reg ?_
    refine ao.part 16 (xAd (cL @q1 @q2 dS hgS hgL x1 x2 y1 y2 @and_self @Int.toNat_natCast db)) ?_
    simp only[List.drop_succ_cons,List.drop_zero,List.drop_nil]
    refine ao.nil ⟨by simp[bf,aQ,apart,aX],?_⟩
    refine rf0 @and_self ?_
    refine Wp.reg ?_
    refine ao.part 16 (xAd (cL @q1 q3 dF hgF hgL x1 x2 z1 z2 @and_self @Int.toNat_natCast da)) ?_
    simp only[List.drop_succ_cons,List.drop_zero,List.drop_nil]
    refine ao.nil ⟨by simp[bf,aQ,apart,aX],?_⟩
    refine rf0 (cj2 ej ek) ?_
    refine ⟨k+1,ab,ab,aM.tm ?_⟩
    rw[f3]
    exact xSb
   ·have dS:decide (((I k:Nat):Int)<((S.length:Nat):Int))=false:=decide_eq_false ab
    refine rf0 (cj2 @q1 dk) ?_
    refine Wp.reg ?_
    refine ao.part 16 (xAe (cj3 @q1 @q2 dS)) ?_
    simp only[List.drop_succ_cons,List.drop_zero,List.drop_nil]
    refine ao.nil ⟨by simp[bf,aQ,apart,aX],?_⟩
    refine rf0 @and_self ?_
    refine Wp.reg ?_
    refine ao.part 16 (xAd (cL @q1 q3 dF hgF hgL x1 x2 z1 z2 @and_self @Int.toNat_natCast da)) ?_
    simp only[List.drop_succ_cons,List.drop_zero,List.drop_nil]
    refine ao.nil ⟨by simp[bf,aQ,apart,aX],?_⟩
    refine rf0 (cj2 ej ek) ?_
    refine ⟨k+1,ab,ab,aM.tm ?_⟩
    rw[f3]
    exact xSb
 ·obtain rfl:k=L.length:=by omega
  have dk:decide ((L.length:Int)<((L.length:Nat):Int))=false:=decide_eq_false ab
  refine rf1 (cj2 @q1 dk) clv ?_
  refine Wp.ret ⟨trivial,.bool true,?_,av.refl _⟩
  simp only[go_sem]
  exact rfl
theorem xx (l:List Act) (hl:l.length≤4611686018427387904) (hf:mo l=false):bj Tryz.prog 7 [.sl 3 (qE l) .any] (.bool true):=by
 refine f7.cV af (by simp[aU,bn,cF,nX]) rfl ?_
 unfold c7 zz
 have cf:=Fb l hl
 rw[hf] at cf
 have clv:=yJ
 refine rf2 @Bool.not_false cf clv ?_
 refine Wp.ret ⟨trivial,.bool true,?_,av.refl _⟩
 simp only[go_sem]
 exact rfl
def Fe (a:Act):Prop:=(Lit.int .i64 a.kd).wf=true∧a.k.length≤reachBytes∧a.v.length≤reachBytes
theorem DC {k:Nat} {cs:List AV} (h:Fits Tryz.prog (k+4) 36 cs):∃p:Act,fQ Tryz.prog 36 cs=qO p∧Fe p:=by
 have hw:∀cs,fQ Tryz.prog 36 cs= .agg cs:=fun cs=>by
  unfold fQ;rw[if_pos (by kernel_rfl)]
 rw[hw]
 unfold Fits at h
 rw[Tryz.underlying36] at h
 obtain ⟨xss,rfl,h⟩:=h
 cases h with|cons h0 h=>cases h with|cons h1 h=>cases h with|cons h2 h=>
 cases h
 unfold Fits at h0 h1 h2
 simp only at h0 h1 h2
 rw[Tryz.underlying3] at h0
 rw[Tryz.underlying9] at h1 h2
 obtain ⟨n,rfl,hn⟩:=h0
 obtain ⟨v,rfl,hv⟩:=h1
 obtain ⟨w,rfl,hw⟩:=h2
 exact ⟨⟨n,v,w⟩,rfl,hn,hv,hw⟩
theorem DD {α:Type} {t:TypeId} {k:Nat} {enc:α→AV} {Q:α→Prop} (h1:∀cs,Fits Tryz.prog k t cs→∃x,fQ Tryz.prog t cs=enc x∧Q x):∀{ys:List AV},(∀y∈ys,∃cs,Fits Tryz.prog k t cs∧y=fQ Tryz.prog t cs)→∃l:List α,ys=l.map enc∧∀x∈l,Q x
 |[],_=>⟨[],rfl,by simp⟩
 |y::ys,h=>by
  obtain ⟨l,rfl,hl⟩:=DD h1 (ys:=ys) (fun z hz=>h z (by simp[hz]))
  obtain ⟨cs,g1,g2⟩:=h y af
  obtain ⟨x,e,q⟩:=h1 cs g1
  refine ⟨x::l,by simp[g2,e],fun z hz=>?_⟩
  rcases List.mem_cons.1 hz with rfl|hz
  ·exact q
  ·exact hl z hz
theorem EZ {n b:Nat} (hb:4≤b) (h:n*b≤reachBytes):n≤35184372088832:=by
 have:n*4≤n*b:=Nat.mul_le_mul_left n hb
 have e:reachBytes=140737488351232:=rfl
 omega
theorem Be {a:AV} (h:o8 Tryz.prog 5 22 a):∃l:List Act,a= .sl 3 (l.map qO) .any∧l.length≤35184372088832∧∀p∈l,Fe p:=by
 obtain ⟨cs,h,rfl⟩:=h
 unfold Fits at h
 rw[Tryz.underlying22] at h
 obtain ⟨xs,rfl,hlx,hx⟩:=h
 obtain ⟨l,rfl,hl⟩:=DD (fun cs h=>DC h) hx
 have c1:Tryz.prog.cellsOf 36=3:=by kernel_rfl
 have c2:Tryz.prog.bytesOf 36=40:=by kernel_rfl
 rw[List.length_map,c2] at hlx
 refine ⟨l,?_,EZ ah hlx,hl⟩
 unfold fQ;rw[if_neg (by rw[show cz Tryz.prog 22=false by kernel_rfl];simp),c1];rfl
theorem qP {b:Nat} (avs:List AV) (h:uS (o8 Tryz.prog 5) Tryz.f7.params.toList avs) (_:cY avs≤b):bj Tryz.prog 7 avs (.bool true):=by
 rw[Tryz.params7] at h
 cases h with|cons h0 h=>
 cases h
 obtain ⟨l,rfl,hl,-⟩:=Be h0
 cases hf:mo l with
 |true=>exact xw l hf
 |false=>exact xx l ab hf
end Go.Proofs.YtbgmofhgfnmaiaaGreat.Tree
end
section
namespace Go.Proofs.YtbgmofhgfnmaiaaGreat.Tree
open Go Go.Av Go.Proofs Go.Proofs.YtbgmofhgfnmaiaaGreat.C
open Go.ChangeShapes Go.WideShapes Go.ChangeAt Go.RowKit
set_option maxRecDepth 100000 in
theorem nZ (os:Os) (started:os.Started) (H:Type) (enc:TypeId × Value→H):
  ReturnsInHanded {} Tryz.checked os 7 .any (Rows.treePagesSpec.pre6 enc Tryz.prog Tryz.f7 Rows.treePagesRow.domain false) (Rows.treePagesSpec.post enc Tryz.prog Tryz.f7 false true false false):=by
 refine returnsInHanded_of_change_sized (C:=Tryz.checked) own started (by kernel_rfl) Tryz.func7
  (ChangeSpec.witness6 (enc:=enc) (C:=Tryz.checked) false ⟨#[],#[.slice none 0 0],[]⟩ 8 (by kernel_rfl) (by kernel_rfl) (by kernel_rfl) (by kernel_rfl)) ?_
 intro W base args ds gs before hval hW _ hwt _
 exact Ap laid HM G8 full rfl (fun l hl=>by match l,hl with|[_],_=>rfl) rfl Tryz.underlying4 (by kernel_rfl) (by kernel_rfl) hval hW hwt (fun avs h hb=>qP avs h hb)
theorem qQ:(Rows.treePagesRow.inPlace == Tryz.pinned.checked.prog.inPlace 7)=true:=by kernel_rfl
theorem qR:(Rows.treePagesRow.unfollowed == Tryz.pinned.checked.prog.unfollowed 7)=true:=by kernel_rfl
theorem qS:(Rows.treePagesRow.recurses == Tryz.pinned.checked.prog.recurses 7)=true:=by kernel_rfl
theorem qT:(Rows.treePagesRow.named == Tryz.pinned.checked.prog.varsNamed 7)=true:=by kernel_rfl
theorem od:joinedFacts Tryz.pinned.checked.prog 7 Tryz.f7 Rows.treePagesSpec Rows.treePagesRow=true:=by
 unfold joinedFacts
 rw[qQ,qR,qS,qT]
 kernel_rfl
theorem oN:Tryz.pinned.checked.prog.funcNamed Rows.treePagesRow.func=some 7:=by kernel_rfl
theorem said_TreePages:Rows.TreePagesSaid:=
 OpenClaim.holds_of_wide 7 Tryz.f7 rfl rfl rfl rfl rfl rfl rfl ⟨rfl,rfl,rfl,rfl,rfl⟩ rfl rfl rfl rfl rfl oN Tryz.func7 od
  (of_decide_eq_true (by kernel_rfl)) (by unfold Func.isWrapper;first|(rw [if_pos (by decide+kernel)];kernel_rfl)|(rw [if_neg (by decide+kernel)];exact ⟨rfl,rfl⟩))
  (fun os started H enc _=>nZ os started H enc)
#print axioms said_TreePages
end Go.Proofs.YtbgmofhgfnmaiaaGreat.Tree
end
