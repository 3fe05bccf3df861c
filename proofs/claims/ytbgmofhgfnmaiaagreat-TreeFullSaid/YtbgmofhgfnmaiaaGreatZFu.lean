/- TreeFull: the statement 'TreeFullSaid', closed by the law that the walk shows. No condition. -/
import Derived.Deep.CondSized
import Derived.Defers
import Derived.IntWalk
import Derived.KernelRfl
import Derived.Laws.Append
import Derived.Laws.AppendOwn
import Derived.Laws.BytesArg
import Derived.Laws.ComplexArith
import Derived.Laws.Cover3
import Derived.Laws.Entries
import Derived.Laws.IdiomCopy
import Derived.Laws.IdiomStrings
import Derived.Laws.Pointers
import Derived.Laws.Small
import Derived.Laws.Strings
import Derived.Laws.StructEq
import Derived.MapKept
import Derived.OpenShut
import Derived.Orders
import Derived.OrdersIn
import Derived.ProofKit
import Derived.RangeFuncRecord
import Derived.RangeFuncSeq
import Derived.ReadAgain
import Derived.Recover
import Derived.Scope
import Derived.Shelf.Slices.Cells
import Derived.Shelf.Slices.Clone
import Derived.Shelf.Slices.Delete
import Derived.Shelf.Spec.SlicesInsertGrow
import Derived.SizedLaws
import Derived.Tactics
import Derived.Tactics2
import Derived.Test.YtbgmofhgfnmaiaaGreatProg
import Derived.Test.YtbgmofhgfnmaiaaGreatRows
import Derived.WalkSmall
import Derived.Test.YtbgmofhgfnmaiaaGreatZFuE
set_option linter.unusedSimpArgs false
set_option linter.unusedVariables false
section
set_option maxRecDepth 100000
namespace Go.Proofs.YtbgmofhgfnmaiaaGreat.Tree
open Go Go.Av Go.Proofs Go.Proofs.YtbgmofhgfnmaiaaGreat.C Go.Proofs.YtbgmofhgfnmaiaaGreat.Page
open Go.Proofs.YtbgmofhgfnmaiaaGreat.Batch (Bs Pr prs aS)
section
variable {x:PgI} {s:PgS} {T:List Nat} {h:H}
theorem AE {tid d:Nat} {r:Int} {lo:Bs} {hi:Option Bs} {i:Nat} {ks vs:List Bs} {key val:Bs} (g:PgH x s T h) (ok:bP s) (ht:h.objs tid=some (trO x r)) (htx:Tid x tid) (hi':i<s.np) (hs:stt s i=1∨stt s i=2) (hH:Has s i (aA ks vs)) (hr:right (aA ks vs)=true) (hz:size (aA ks vs)≤1024)
  (hw:∀k∈ks,inB lo hi k) (hkb:inB lo hi key) (hk:key.length≤128) (hv:val.length≤200) (hd:d≤20) (hp:s.p.length+16<900000):
  cG Tryz.prog 56 [.ptr tid 0,.int .i64 (i:Int),.int .i64 (d:Int),.str key,.str val] h (fun q h'=>∃s' R,q=js R∧Stp x T s h (fun j=>j=i) (top R) 2 s' h'∧CD 0 lo hi ⟨i,ks,vs⟩ (fy (List.zipWith Pr.mk ks vs) key val) s' R) (Lst x T s h 8):=by
 refine f56.gD af ?_
 unfold c56 zz
 have hlt:tid<h.n:=by
  rcases Nat.lt_or_ge tid h.n with q|q
  ·exact q
  ·rw[g.fresh _ q] at ht;cases ht
 obtain ⟨ks',vs',p1,p2,p3,p4,p5,p6,p7⟩:=uU (val:=val) hr hk hv
 have hsm:=bG (L:=0) hr (by have:size (aA ks vs)≤1024:=hz;show size (aA ks vs)≤1355;omega)
 have cp:=EJ (aA ks vs) hsm.1 hsm.2 key val (by unfold Ls;omega)
 rw[p1,p2] at cp
 have hsm':=bG (L:=0) (ks:=ks') (kids:=vs') p3 (by show size (aA ks' vs')≤1355;omega)
 have ht1:=(aH (o:= .cells [.str [],.int .i64 0]) hlt).trans ht
 have hn1:=bV (h:=h) (o:= .cells [.str [],.int .i64 0])
 have g1:=g.new (.cells [.str [],.int .i64 0])
 have k1:Kept h (H.new h (.cells [.str [],.int .i64 0])):=fun j hj=>aH hj
 have no1:=bC (h:=h) (o:= .cells [.str [],.int .i64 0])
 have ln:(H.new h (.cells [.str [],.int .i64 0])).n=h.n+1:=rfl
 refine rf0 @and_self ?_
 change an _ _ _ _ (H.new h (.cells [.str [],.int .i64 0])) _
 generalize H.new h (.cells [.str [],.int .i64 0])=h1 at*
 have hnd:=iP g1 ok ht1 hi' (by show stt s i≠0;omega) ab hd hH.1
 rw[hH.2] at hnd
 refine an.aY (vals:=[.ptr tid 0,.int .i64 (i:Int),.int .i64 (d:Int)]) ae xA4 hnd fun q h2 ⟨hq,g2,k2,no2⟩ n2 _=>?_
 subst hq
 have ht2:=(k2 tid ab).trans ht1
 have hn2:=(k2 h.n ab).trans hn1
 have g3:=(g2.new (az (aA ks vs))).new (az (aA ks' vs'))
 have ln3:(H.new (H.new h2 (az (aA ks vs))) (az (aA ks' vs'))).n=h2.n+1+1:=rfl
 have ht3:(H.new (H.new h2 (az (aA ks vs))) (az (aA ks' vs'))).objs tid=some (trO x r):=(aH (Nat.lt_succ_of_lt ab)).trans ((aH ab).trans ht2)
 have hn3:(H.new (H.new h2 (az (aA ks vs))) (az (aA ks' vs'))).objs h.n=some (.cells [.str [],.int .i64 0]):=(aH (Nat.lt_succ_of_lt ab)).trans ((aH ab).trans hn2)
 have sm3:ct x h (H.new (H.new h2 (az (aA ks vs))) (az (aA ks' vs'))):=((dA k1).trans (dA k2) ab).trans (bK.trans bK (Nat.le_succ _)) ab
 have no3:aq h (H.new (H.new h2 (az (aA ks vs))) (az (aA ks' vs'))):=aq.trans (aq.trans no1 no2 ab ab) (aq.trans bC bC (Nat.le_succ _) (Nat.le_succ _)) ab ab
 have nn3:=bV (h:=H.new h2 (az (aA ks vs))) (o:=az (aA ks' vs'))
 unfold aC at cp
 unfold aC
 refine an.evF xAc ?_
 rw[bg]
 refine an.nil ?_
 refine rf1 @and_self cp ?_
 rw[bg]
 refine an.cx xA2 xAb (by exact ⟨Nat.le_refl _,Nat.le_refl _⟩) (dN) ?_
 refine an.nil ?_
 refine Wp.le (s':=⟨tm [(0,.ptr tid 0),(1,.int .i64 i),(11,.ptr h.n 0),(13,.ptr (h2.n+1) 0)],H.new (H.new h2 (az (aA ks vs))) (az (aA ks' vs'))⟩) (aK.of (bL ?_) (OLe.refl _) (fun y hy=>hy) (Nat.le_refl _) (Nat.le_refl _)) ?_
 ·exact xSb
 have nn3:(H.new (H.new h2 (az (aA ks vs))) (az (aA ks' vs'))).objs (h2.n+1)=some (az (aA ks' vs')):=nn3
 generalize H.new (H.new h2 (az (aA ks vs))) (az (aA ks' vs'))=h3 at*
 unfold az at nn3
 have hst:=yq (L:=0) (lo:=lo) (hi:=hi) (ks:=ks') (kids:=vs') g3 ok ht3 htx hi' hs p3 (by show size (aA ks' vs')≤1355;omega) ⟨p5,fun k hk'=>by
  rcases p6 k hk' with rfl|q
  ·exact hkb
  ·exact hw k q⟩ hp
 have lt:=g.lt
 rcases hst with hst|⟨v,h',hp1,hm1,l⟩
 rotate_left
 ·repeat (first
   |((first|apply Wp.aR|apply Wp.cB);(· simp only[go_sem,reduceIte,Nat.reduceEqDiff,Nat.reduceAdd,bx,ax,if_true,if_false,Nat.reduceMul,Nat.reduceLeDiff,nn3];exact rfl);refine an.nil ?_)
   |(apply Wp.bu;(· simp only[go_sem,reduceIte,Nat.reduceEqDiff,Nat.reduceAdd,bx,ax,if_true,if_false,Nat.reduceMul,Nat.reduceLeDiff,nn3];exact rfl);(· rfl))
   |refine Wp.skip ?_
   |refine Wp.label ?_
   |refine Wp.block ?_
   |refine Wp.exit ?_
   |refine Wp.seq ?_)
  refine Wp.dQ (vals:=[.ptr tid 0,.int .i64 (i:Int),aC (aA ks' vs')]) (xAd (cj2 nn3 @aC.eq_1)) xAb (hm1) (hp1) ?_
  exact .inr ⟨_,rfl,l.pre (d:=0) (.refl s) (Nat.le_refl _) (Nat.le_refl _) sm3 no3 ab hm1.1 (Nat.le_refl _)⟩
 refine rf0 nn3 ?_
 refine an.aY (vals:=[.ptr tid 0,.int .i64 (i:Int),aC (aA ks' vs')]) ae xA4 hst fun q h4 ⟨s',R,hq,st,sd⟩ n4 _=>?_
 subst hq
 have hn4:h4.objs h.n=some (.cells [.str [],.int .i64 0]):=(st.sm _ ab ab ab ab ab ab ab).trans hn3
 unfold js AA
 refine an.evF (xAd hn4) ?_
 refine an.nil ?_
 refine Wp.ret ?_
 refine .inl ⟨trivial,.tup [.int .i64 (R.1.pg:Nat),.agg [.str (spK R.2),.int .i64 (spP R.2)]],?_,s',R,rfl,(st.pre sm3 no3 ab).put g hn4 (Nat.le_refl _) ab,?_⟩
 ·have e2:cJ [RV.tmp 10,RV.cell 11 (some 2)] (tm [(10,.int .i64 (R.1.pg:Nat)),(11,.ptr h.n 0)]) ⟨upd h4.objs h.n (some (.cells [.str (spK R.2),.int .i64 (spP R.2)])),h4.n,h4.toks,h4.m⟩=some (.tup [.int .i64 (R.1.pg:Nat),.agg [.str (spK R.2),.int .i64 (spP R.2)]]):=by
   simp[cJ,rvs,rv,tm,upd,Av.part,shaped,aP]
  exact e2
 ·obtain ⟨t1,o⟩:=R
  refine ⟨⟨sd.h1,trivial⟩,fun q hq=>⟨(sd.h2 q hq).1,trivial⟩,sd.wf,sd.ps.trans p7,?_,?_⟩
  ·cases o with
   |none=>show [t1.pg].Nodup;simp
   |some q=>
    have:=(sd.h2 q rfl).2
    show [t1.pg,q.2.pg].Nodup
    simpa using this
  ·refine ⟨fun j=>if j=0∧o.isSome then 1 else 0,fun j=>by simp only;split<;>omega,fun hn=>by simp only at hn;subst hn;rfl,fun q hq=>by simp only at hq;subst hq;rfl,fun j hj=>?_,fun j hj=>absurd hj (Nat.not_lt_zero _)⟩
   obtain rfl:j=0:=by omega
   cases o<;>simp[ik,eS]
set_option maxHeartbeats 2000000 in
theorem AF {L tid d i c1 c2 c0:Nat} {r:Int} {ks:List Bs} {us:List (Tr L)} {key val:Bs} {u:Tr L} {Q:PgS→Res L→Prop} {Q2:PgS→Res L→PgS→Res (L+1)→Prop}
  (g:PgH x s T h) (ok:bP s) (ht:h.objs tid=some (trO x r)) (htx:Tid x tid) (hi':i<s.np) (hs:stt s i=1∨stt s i=2) (hH:Has s i (av L ks us)) (hr:right (av L ks us)=true) (hz:size (av L ks us)≤1024)
  (hu:us[place (av L ks us) key]? =some u) (hj:place (av L ks us) key≤ks.length) (hd:d≤20) (hp:s.p.length<900000)
  (ih:∀h1,PgH x s T h1→h1.objs tid=some (trO x r)→cG Tryz.prog 56 [.ptr tid 0,.int .i64 (u.pg:Nat),.int .i64 ((d+1:Nat):Int),.str key,.str val] h1 (fun q h'=>∃s1 R,q=js R∧PgH x s1 T h'∧ct x h1 h'∧aq h1 h'∧Q s1 R) (Lst x T s h1 c1))
  (hlo:∀s1 (R:Res L),Q s1 R→Lo s s1∧s1.p.length≤s.p.length+c2∧8*free s≤8*free s1+c2) (hc1:c1≤c0) (hc2:c2+8≤c0)
  (hst:∀s1 (R:Res L) h1,Q s1 R→PgH x s1 T h1→h1.objs tid=some (trO x r)→¬(R.1.pg=u.pg∧R.2=none)→cG Tryz.prog 86 [.ptr tid 0,.int .i64 (i:Int),aC (av L (nks ks (place (av L ks us) key) R) (nus us (place (av L ks us) key) R))] h1 (fun q h'=>∃s2 R2,q=js R2∧PgH x s2 T h'∧ct x h1 h'∧aq h1 h'∧Q2 s1 R s2 R2) (Lst x T s1 h1 8)):
  cG Tryz.prog 56 [.ptr tid 0,.int .i64 (i:Int),.int .i64 (d:Int),.str key,.str val] h (fun q h'=>∃s1 R,Q s1 R∧ct x h h'∧aq h h'∧((q= .tup [.int .i64 (i:Int),.agg [.str [],.int .i64 (-1)]]∧R.1.pg=u.pg∧R.2=none∧PgH x s1 T h')∨(¬(R.1.pg=u.pg∧R.2=none)∧∃s2 R2,q=js R2∧PgH x s2 T h'∧Q2 s1 R s2 R2))) (Lst x T s h c0):=by
 refine f56.gD af ?_
 unfold c56 zz
 have hlt:tid<h.n:=by
  rcases Nat.lt_or_ge tid h.n with q|q
  ·exact q
  ·rw[g.fresh _ q] at ht;cases ht
 have hsm:=bG (L:=L+1) (ks:=ks) (kids:=us) hr (by show size (av L ks us)≤1355;omega)
 have ht1:=(aH (o:= .cells [.str [],.int .i64 0]) hlt).trans ht
 have hn1:=bV (h:=h) (o:= .cells [.str [],.int .i64 0])
 have g1:=g.new (.cells [.str [],.int .i64 0])
 have k1:Kept h (H.new h (.cells [.str [],.int .i64 0])):=fun j hj=>aH hj
 have no1:=bC (h:=h) (o:= .cells [.str [],.int .i64 0])
 have ln:(H.new h (.cells [.str [],.int .i64 0])).n=h.n+1:=rfl
 have hul:us.length=ks.length+1:=by
  have q:=((cO (n:=av L ks us) rfl).1 hr).2.2.1
  simpa [av] using q
 refine rf0 @and_self ?_
 change an _ _ _ _ (H.new h (.cells [.str [],.int .i64 0])) _
 generalize H.new h (.cells [.str [],.int .i64 0])=h1 at*
 have hnd:=Cy g1 ok ht1 hi' (by show stt s i≠0;omega) hp hd hH.1 (by rw[hH.2];rfl)
 rw[hH.2] at hnd
 refine an.aY (vals:=[.ptr tid 0,.int .i64 (i:Int),.int .i64 (d:Int)]) ae xA4 hnd fun q h2 ⟨K,c,hq,oc,rK,hc1,hc2,g2,k2,no2⟩ n2 _=>?_
 subst hq
 have hkl:(av L ks us).kids.length=us.length:=by simp[av]
 have hkk:(av L ks us).kids=bQ us:=rfl
 have hks:(av L ks us).keys=ks:=rfl
 rw[hkl]
 rw[hkk] at oc
 rw[hks] at rK
 have ht2:=(k2 tid ab).trans ht1
 have hn2:=(k2 h.n ab).trans hn1
 have hKc:=rK.cell
 have hKc2:=hKc
 unfold aP at hKc
 obtain ⟨nO,hnO⟩:∃nO:Av.Obj,nO= .cells [.bool false,K,.sl 1 [] (.exact 0),.tsl 1 c 0 us.length none]:=⟨_,rfl⟩
 have g3:=g2.new nO
 have ln3:(H.new h2 nO).n=h2.n+1:=rfl
 have ht3:(H.new h2 nO).objs tid=some (trO x r):=(aH ab).trans ht2
 have hn3:(H.new h2 nO).objs h.n=some (.cells [.str [],.int .i64 0]):=(aH ab).trans hn2
 have nn3:=bV (h:=h2) (o:=nO)
 have oc3:(H.new h2 nO).objs c=some (.cells (ints (bQ us))):=(aH hc2).trans oc
 have rK3:dC (H.new h2 nO) h1.n K (strs ks) c:=rK.keep (Nat.le_succ _) (fun j a b _=>aH b) (fun a _ h=>h)
 have sm3:ct x h (H.new h2 nO):=((dA k1).trans (dA k2) ab).trans bK ab
 have no3:aq h (H.new h2 nO):=aq.trans (aq.trans no1 no2 ab ab) bC ab ab
 refine an.evF (xAd hKc) ?_
 rw[bg]
 refine an.nil ?_
 refine Wp.le (s':=⟨tm [(0,.ptr tid 0),(1,.int .i64 i),(2,.int .i64 d),(3,.str key),(4,.str val),(11,.ptr h.n 0),(12,.ptr h2.n 0)],H.new h2 nO⟩) (aK.of (bL ?_) (by rw[hnO];exact OLe.refl _) (fun y hy=>hy) (Nat.le_refl _) (Nat.le_refl _)) ?_
 ·exact xSb
 generalize H.new h2 nO=h3 at*
 rw[hnO] at nn3
 have cf:=CF (key:=key) rK3 oc3 hr hsm.1
 generalize hJ:place (av L ks us) key=J at*
 have hJu:J<us.length:=by omega
 have hgk:(ints (bQ us)).getD J .any= .int .i64 (u.pg:Nat):=by
  have:(bQ us)[J]? =some ((u.pg:Nat):Int):=by simp[bQ,hu]
  simp[ints,List.getD,this]
 have x1:(0:Int)≤(J:Int):=by omega
 have x2:(J:Int)<(us.length:Int):=by omega
 have wd:IntKind.i64.wrap ((d:Int)+1)=((d+1:Nat):Int):=by rw[IntWalk.i64_in _ ab];rfl
 have hgo:(ints (bQ us))[J]? =some (.int .i64 (u.pg:Nat)):=by
  have:(bQ us)[J]? =some ((u.pg:Nat):Int):=by simp[bQ,hu]
  simp[ints,this]
 rcases ih h3 g3 ht3 with hih|⟨v,h',hp1,hm1,l⟩
 rotate_left
 ·repeat (first
   |((first|apply Wp.aR|apply Wp.cB);(· simp only[go_sem,reduceIte,Nat.reduceEqDiff,Nat.reduceAdd,bx,ax,if_true,if_false,Nat.reduceMul,Nat.reduceLeDiff,nn3,x1,x2,oc3,hgo,wd,Int.toNat_natCast,Nat.mul_one,Nat.zero_add,and_self];exact rfl);(repeat ((first
     |(refine an.cx ?_ ?_ (by constructor<;>first|exact Nat.le_refl _|assumption) (cf) ?_;(· simp only[go_sem,reduceIte,Nat.reduceEqDiff,Nat.reduceAdd,bx]);(· simp only[go_sem,reduceIte,Nat.reduceEqDiff,Nat.reduceAdd,bx,List.map,ax,if_true,if_false,Nat.reduceMul,Nat.reduceLeDiff,nn3,x1,x2,oc3,hgo,wd,Int.toNat_natCast,Nat.mul_one,Nat.zero_add,and_self];first|exact au.refl _|(repeat (first|exact au.nil|refine au.cons xA5 ?_)))));apply an.evF;(· simp only[go_sem,reduceIte,Nat.reduceEqDiff,Nat.reduceAdd,bx,ax,if_true,if_false,Nat.reduceMul,Nat.reduceLeDiff,nn3,x1,x2,oc3,hgo,wd,Int.toNat_natCast,Nat.mul_one,Nat.zero_add,and_self];exact rfl)));refine an.nil ?_)
   |(apply Wp.bu;(· simp only[go_sem,reduceIte,Nat.reduceEqDiff,Nat.reduceAdd,bx,ax,if_true,if_false,Nat.reduceMul,Nat.reduceLeDiff,nn3,x1,x2,oc3,hgo,wd,Int.toNat_natCast,Nat.mul_one,Nat.zero_add,and_self];exact rfl);(· rfl))
   |refine Wp.skip ?_
   |refine Wp.label ?_
   |refine Wp.block ?_
   |refine Wp.exit ?_
   |refine Wp.seq ?_)
  refine Wp.dQ (vals:=[.ptr tid 0,.int .i64 (u.pg:Nat),.int .i64 ((d+1:Nat):Int),.str key,.str val]) (xAd (mN nn3 x1 x2 oc3 hgo wd @Int.toNat_natCast @Nat.mul_one @Nat.zero_add @and_self)) xAb (hm1) (hp1) ?_
  exact .inr ⟨_,rfl,l.pre (d:=0) (.refl s) (Nat.le_refl _) (Nat.le_refl _) sm3 no3 ab hm1.1 ab⟩
 refine rg1 (mN nn3 x1 x2 oc3 hgo wd @Int.toNat_natCast @Nat.mul_one @Nat.zero_add @and_self) cf ?_
 refine an.aY (vals:=[.ptr tid 0,.int .i64 (u.pg:Nat),.int .i64 ((d+1:Nat):Int),.str key,.str val]) ae xA4 hih fun q h4 ⟨s1,R,hq,g4,sm4,no4,hQ⟩ n4 _=>?_
 subst hq
 have tids:∀j,h.n≤j→Tid x j:=fun j hj=>ew g hj
 have tid4:∀j,h1.n≤j→Tid x j:=fun j hj=>ew g ab
 have nn4:=(cH sm4 ab (tids h2.n ab)).trans nn3
 have hn4:=(cH sm4 ab (tids h.n ab)).trans hn3
 have ht4:=(cH sm4 ab htx).trans ht3
 have oc4:=(cH sm4 ab (tids c ab)).trans oc3
 have rK4:=rK3.same sm4 n4 tid4
 obtain ⟨nS,hnS⟩:∃nS:Av.Obj,nS= .cells [.str (spK R.2),.int .i64 (spP R.2)]:=⟨_,rfl⟩
 have g5:=g4.new nS
 have ln5:(H.new h4 nS).n=h4.n+1:=rfl
 have nn5:(H.new h4 nS).objs h2.n=_:=(aH ab).trans nn4
 have hn5:(H.new h4 nS).objs h.n=_:=(aH ab).trans hn4
 have ht5:(H.new h4 nS).objs tid=_:=(aH ab).trans ht4
 have oc5:(H.new h4 nS).objs c=_:=(aH ab).trans oc4
 have rK5:dC (H.new h4 nS) h1.n K (strs ks) c:=rK4.keep (Nat.le_succ _) (fun j a b _=>aH b) (fun a _ h=>h)
 have ns5:=bV (h:=h4) (o:=nS)
 have sm5:ct x h (H.new h4 nS):=(sm3.trans sm4 ab).trans bK ab
 have no5:aq h (H.new h4 nS):=aq.trans (aq.trans no3 no4 ab ab) bC ab ab
 unfold js AA
 refine an.evF xAc ?_
 rw[bg]
 refine an.nil ?_
 refine Wp.le (s':=⟨tm [(0,.ptr tid 0),(1,.int .i64 i),(11,.ptr h.n 0),(12,.ptr h2.n 0),(15,.int .i64 J),(17,.int .i64 (R.1.pg:Nat)),(18,.ptr h4.n 0)],H.new h4 nS⟩) (aK.of (bL ?_) (by rw[hnS];exact OLe.refl _) (fun y hy=>hy) (Nat.le_refl _) (Nat.le_refl _)) ?_
 ·exact xSb
 have n5:h.n≤(H.new h4 nS).n:=by omega
 generalize H.new h4 nS=h5 at*
 rw[hnS] at ns5
 by_cases hA:R.1.pg=u.pg∧R.2=none
 ·obtain ⟨hA1,hA2⟩:=hA
  have e1:decide (((R.1.pg:Nat):Int)=((u.pg:Nat):Int))=true:=decide_eq_true ab
  have e2:decide (spP R.2<0)=true:=by rw[hA2];exact decide_eq_true (by simp[spP])
  refine rf0 (cT nn5 x1 x2 oc5 hgo ns5 e1 e2 @Int.toNat_natCast @Nat.mul_one @Nat.zero_add @and_self) ?_
  refine an.aY (vals:=[]) ae xA4 wU fun q h6 ⟨hq,hh6⟩ n6 _=>?_
  subst hq
  have g6:PgH x s1 T h6:=by rw[hh6];exact g5.new _
  have sm6:ct x h h6:=by rw[hh6];exact sm5.trans bK n5
  have no6:aq h h6:=by rw[hh6];exact aq.trans no5 bC n5 (Nat.le_succ _)
  have hn6:h6.objs h.n=some (.cells [.str [],.int .i64 0]):=by rw[hh6];exact (aH ab).trans hn5
  refine an.evF (xAd hn6) ?_
  refine an.nil ?_
  refine Wp.ret ?_
  have lt:=g.lt
  refine .inl ⟨trivial,.tup [.int .i64 (i:Int),.agg [.str [],.int .i64 (-1)]],?_,s1,R,hQ,?_,?_,.inl ⟨rfl,hA1,hA2,g6.other (j0:=h.n) ab ab⟩⟩
  ·simp[cJ,rvs,rv,tm,upd,Av.part,shaped,aP]
  ·intro j hj a1 a2 a3 a4 a5 a6
   have e:(upd h6.objs h.n (some (.cells [.str [],.int .i64 (-1)])):Nat→Option Av.Obj) j=h6.objs j:=by simp only[upd];rw[if_neg ab]
   exact e.trans (sm6 j hj a1 a2 a3 a4 a5 a6)
  ·exact aq.trans no6 (aq.set hn6) ab (Nat.le_refl _)
 ·refine Wp.jI ⟨tm [(0,.ptr tid 0),(1,.int .i64 i),(11,.ptr h.n 0),(12,.ptr h2.n 0),(15,.int .i64 J),(17,.int .i64 (R.1.pg:Nat)),(18,.ptr h4.n 0)],h5⟩ ?_ ?_
  ·by_cases hB:R.1.pg=u.pg
   ·have e1:decide (((R.1.pg:Nat):Int)=((u.pg:Nat):Int))=true:=decide_eq_true ab
    have e2:decide (spP R.2<0)=false:=by
     cases hR:R.2 with
     |none=>exact absurd ⟨hB,hR⟩ hA
     |some q=>exact decide_eq_false (by simp only[spP];omega)
    refine rf0 (cT nn5 x1 x2 oc5 hgo ns5 e1 e2 @Int.toNat_natCast @Nat.mul_one @Nat.zero_add @and_self) ?_
    exact aK.tm (by
     exact xSb
     )
   ·have e1:decide (((R.1.pg:Nat):Int)=((u.pg:Nat):Int))=false:=decide_eq_false ab
    refine rf0 (sH nn5 x1 x2 oc5 hgo ns5 e1 @Int.toNat_natCast @Nat.mul_one @Nat.zero_add @and_self) ?_
    exact aK.tm (by
     exact xSb
     )
  ·have hkL:(bQ us).length=us.length:=by simp[bQ]
   have x3:J+1≤us.length:=by omega
   refine Wp.aR (xAd (sH nn5 x1 x2 x3 hkL oc5 @Int.toNat_natCast @Nat.mul_one @Nat.zero_add @and_self @kD)) ?_
   refine an.nil ?_
   have hs1:List.take J (ints (bQ us))++[AV.int IntKind.i64 ((R.1.pg:Nat):Int)]++List.drop (J+1) (ints (bQ us))=ints ((bQ us).take J++((R.1.pg:Nat):Int)::(bQ us).drop (J+1)):=by simp[ints]
   rw[hs1]
   have hk1l:((bQ us).take J++((R.1.pg:Nat):Int)::(bQ us).drop (J+1)).length=us.length:=by simp[bQ];omega
   have hkk1:∀q,R.2=some q→(((bQ us).take J++((R.1.pg:Nat):Int)::(bQ us).drop (J+1)).take (J+1)++((q.2.pg:Nat):Int)::((bQ us).take J++((R.1.pg:Nat):Int)::(bQ us).drop (J+1)).drop (J+1))=bQ (nus us J R):=fun q hq=>Ek hq hJu
   have hkk0:R.2=none→(bQ us).take J++((R.1.pg:Nat):Int)::(bQ us).drop (J+1)=bQ (nus us J R):=fun hq=>yh hq
   generalize (bQ us).take J++((R.1.pg:Nat):Int)::(bQ us).drop (J+1)=kI at*
   have hKd:∀a l c',K= .tsl 1 a 0 l c'→h1.n≤a∧a<h2.n∧a≠c:=by
    intro a l c' e
    rcases rK with ⟨-,k2⟩|⟨a',k1,-,k3,k4,k5,-⟩
    ·rw[e] at k2;cases k2
    ·rw[e] at k1;cases k1;exact ⟨k3,k4,k5⟩
   obtain ⟨h6,hh6⟩:∃h6:H,h6= {h5 with objs:=upd h5.objs c (some (.cells (ints kI)))}:=⟨_,rfl⟩
   have c1:∀j,j≠c→h6.objs j=h5.objs j:=fun j hj=>by rw[hh6];simp only[upd];rw[if_neg hj]
   have oc6:h6.objs c=some (.cells (ints kI)):=by rw[hh6];simp[upd]
   have n6:h6.n=h5.n:=by rw[hh6]
   have m6:h6.m=h5.m:=by rw[hh6]
   have g6:PgH x s1 T h6:=by
    rw[hh6]
    exact g5.other ab (by have:=tids c ab;simp only[Tid,ne_eq,eq_comm] at this ⊢;exact this)
   have sm6:ct x h h6:=fun j hj a1 a2 a3 a4 a5 a6=>(c1 j ab).trans (sm5 j hj a1 a2 a3 a4 a5 a6)
   have no6:aq h h6:=by rw[hh6];exact aq.trans no5 (aq.set oc5) n5 (Nat.le_refl _)
   have rK6:dC h6 h1.n K (strs ks) c:=rK5.keep ab (fun j _ _ hj=>c1 j hj) (fun a _ h=>h)
   have nn6:=(c1 h2.n ab).trans nn5
   have hn6:=(c1 h.n ab).trans hn5
   have ht6:=(c1 tid ab).trans ht5
   have ns6:=(c1 h4.n ab).trans ns5
   rw[←hh6]
   refine Wp.le (s':=⟨tm [(0,.ptr tid 0),(1,.int .i64 i),(11,.ptr h.n 0),(12,.ptr h2.n 0),(15,.int .i64 J),(18,.ptr h4.n 0)],h6⟩) (aK.of (bL ?_) (OLe.refl _) (fun y hy=>hy) (Nat.le_refl _) (Nat.le_refl _)) ?_
   ·exact xSb
   clear hh6 c1
   refine Wp.seq (Wp.ex (β:=H × AV × AV) (fun b=>⟨tm [(0,.ptr tid 0),(1,.int .i64 i),(11,.ptr h.n 0),(12,.ptr h2.n 0)],b.1⟩) (fun b=>Ndy x T s1 h tid r (fun k=>decide (h1.n≤k∧k<h2.n)) h2.n (nks ks J R) (bQ (nus us J R)) b∧b.1.objs h.n=some (.cells [.str [],.int .i64 0])) ?_ ?_)
   ·cases hR:R.2 with
    |none=>
     have e3:decide (0≤spP R.2)=false:=by rw[hR];exact decide_eq_false (by simp[spP])
     refine rf0 (cj2 ns6 e3) ?_
     refine ⟨(h6,K,.tsl 1 c 0 us.length none),⟨⟨nn6,hKc2,rfl,?_,?_,g6,ht6,sm6,no6,by show h2.n<h6.n;omega,by show h.n≤h6.n;omega⟩,hn6⟩,aK.tm ?_⟩
     ·have e4:nks ks J R=ks:=by unfold nks rk;rw[hR];simp
      rw[e4]
      exact rK6.unD fun a l c' e=>by have:=hKd a l c' e;simpa using ⟨this.1,this.2.1⟩
     ·rw[←hkk0 hR]
      have e5:us.length=(ints kI).length:=by simp[ints,hk1l]
      rw[e5]
      exact yi oc6 (by simpa using ⟨hc1,hc2⟩)
     ·exact xSb
    |some q=>
     have e3:decide (0≤spP R.2)=true:=by rw[hR];exact decide_eq_true (by simp[spP])
     have hkl':ks.length≤1000:=hsm.2.k
     refine Wp.aR (xAd (cj2 ns6 e3)) ?_
     refine an.nil ?_
     refine Wp.cond_true (by simp only[go_sem,reduceIte,Nat.reduceEqDiff,Nat.reduceAdd,bx,e3]) ?_
     refine Wp.seq (Wp.DL ?_)
     refine an.op1 ae (by simp only[go_sem,reduceIte,Nat.reduceEqDiff,Nat.reduceAdd,bx,ax,if_true,if_false,Nat.reduceMul,Nat.reduceLeDiff,nn6,ns6,hKc];exact rfl) ?_
     simp only[bY]
     refine an.op1 ae (by simp only[go_sem,reduceIte,Nat.reduceEqDiff,Nat.reduceAdd,bx,ax,if_true,if_false,Nat.reduceMul,Nat.reduceLeDiff,nn6,ns6,hKc];exact rfl) ?_
     simp only[bY]
     refine an.op1 ae (by simp only[go_sem,reduceIte,Nat.reduceEqDiff,Nat.reduceAdd,bx,ax,if_true,if_false,Nat.reduceMul,Nat.reduceLeDiff,nn6,ns6,hKc];exact rfl) ?_
     simp only[bY]
     refine an.op1 ae (by simp only[go_sem,reduceIte,Nat.reduceEqDiff,Nat.reduceAdd,bx,ax,if_true,if_false,Nat.reduceMul,Nat.reduceLeDiff,nn6,ns6,hKc];exact rfl) ?_
     simp only[bY]
     refine an.op1 ae (by simp only[go_sem,reduceIte,Nat.reduceEqDiff,Nat.reduceAdd,bx,ax,if_true,if_false,Nat.reduceMul,Nat.reduceLeDiff,nn6,ns6,hKc];exact rfl) ?_
     simp only[bY]
     refine an.opT ae (by simp only[gC,go_sem,reduceIte,Nat.reduceEqDiff,Nat.reduceAdd,bx];exact rfl) ?_
     simp only[bY]
     have q7:∀j,j≠h6.n→(upd h6.objs h6.n (some (.cells (List.flatMap cellsOf [AV.str (spK R.2)]))):Nat→Option Av.Obj) j=h6.objs j:=fun j hj=>by simp only[upd];rw[if_neg hj]
     refine an.aY (vals:=[K,.int .i64 (J:Int),.tsl 1 h6.n 0 1 none]) ae xA4 (Ar (c:=c) (n0:=h1.n) (K:=K) (id2:=h6.n) ks J (spK R.2) hj ab (rK6.keep (by simp only;omega) (fun j _ b _=>q7 j ab) (fun a _ h=>h)) (by simp[upd,cellsOf]) fun a e=>by have:=hKd a _ _ e;omega) fun w h7 ⟨hw,l1,l2,l3,a0,ha0,l4⟩ n7 m7=>?_
     subst hw
     simp only at l1 l2 l3
     have l4:∀j,h7.objs j=if j=a0 then none else (upd h6.objs h6.n (some (.cells (List.flatMap cellsOf [AV.str (spK R.2)]))):Nat→Option Av.Obj) j:=l4
     have p7:∀j,j<h6.n→(∀l c',K≠ .tsl 1 j 0 l c')→h7.objs j=h6.objs j:=fun j hj hn=>by
      rw[l4 j,if_neg,q7 j ab]
      rintro rfl
      rcases ha0 with e|e
      ·exact hn _ _ e
      ·omega
     have nn7:=(p7 h2.n ab (fun l c' e=>by have:=hKd _ _ _ e;omega)).trans nn6
     have ns7:=(p7 h4.n ab (fun l c' e=>by have:=hKd _ _ _ e;omega)).trans ns6
     have oc7:=(p7 c ab (fun l c' e=>by have:=hKd _ _ _ e;omega)).trans oc6
     have hn7:=(p7 h.n ab (fun l c' e=>by have:=hKd _ _ _ e;omega)).trans hn6
     have ht7:=(p7 tid ab (fun l c' e=>by have:=hKd _ _ _ e;omega)).trans ht6
     have f7:∀j,h7.n≤j→h7.objs j=none:=fun j hj=>by
      rw[l4 j]
      split
      ·rfl
      ·rw[q7 j ab];exact g6.fresh j ab
     have g7:PgH x s1 T h7:=g6.at (fun j hj=>by
      have hj2:j<h.n:=by
       rcases Nat.lt_or_ge j h.n with e|e
       ·exact e
       ·exact absurd (ew g e) hj
      exact p7 j ab (fun l c' e=>by have:=hKd _ _ _ e;omega)) ab f7 l3 ab
     have o7:∀j,(h7.objs j).isSome=true→(h6.objs j).isSome=true∨j=h6.n:=fun j hj=>by
      rw[l4 j] at hj
      split at hj
      ·cases hj
      ·by_cases e:j=h6.n
       ·exact .inr e
       ·rw[q7 j e] at hj;exact .inl hj
     refine an.evF (xAd nn7) ?_
     refine an.nil ?_
     have hpk:ks.take J++spK R.2::ks.drop J=nks ks J R:=by unfold nks rk spK;rw[hR];rfl
     rw[hpk]
     obtain ⟨h8,hh8⟩:∃h8:H,h8= {h7 with objs:=upd h7.objs h2.n (some (.cells [.bool false,.sl 1 (strs (nks ks J R)) .any,.sl 1 [] (.exact 0),.tsl 1 c 0 us.length none]))}:=⟨_,rfl⟩
     have c8:∀j,j≠h2.n→h8.objs j=h7.objs j:=fun j hj=>by rw[hh8];simp only[upd];rw[if_neg hj]
     have nn8:h8.objs h2.n=some (.cells [.bool false,.sl 1 (strs (nks ks J R)) .any,.sl 1 [] (.exact 0),.tsl 1 c 0 us.length none]):=by rw[hh8];simp[upd]
     have n8:h8.n=h7.n:=by rw[hh8]
     have g8:PgH x s1 T h8:=by
      rw[hh8]
      exact g7.other ab (by have:=tids h2.n ab;simp only[Tid,ne_eq,eq_comm] at this ⊢;exact this)
     rw[←hh8]
     refine Wp.le (s':=⟨tm [(0,.ptr tid 0),(1,.int .i64 i),(11,.ptr h.n 0),(12,.ptr h2.n 0),(15,.int .i64 J),(18,.ptr h4.n 0)],h8⟩) (aK.of (bL ?_) (OLe.refl _) (fun y hy=>hy) (Nat.le_refl _) (Nat.le_refl _)) ?_
     ·exact xSb
     clear hh8
     have wJ:IntKind.i64.wrap ((J:Int)+1)=((J+1:Nat):Int):=by rw[IntWalk.i64_in _ ab];rfl
     have ns8:=(c8 h4.n ab).trans ns7
     refine Wp.DL ?_
     refine an.op1 ae (by simp only[go_sem,reduceIte,Nat.reduceEqDiff,Nat.reduceAdd,bx,ax,if_true,if_false,Nat.reduceMul,Nat.reduceLeDiff,nn8,ns8,wJ];exact rfl) ?_
     simp only[bY]
     refine an.op1 ae (by simp only[go_sem,reduceIte,Nat.reduceEqDiff,Nat.reduceAdd,bx,ax,if_true,if_false,Nat.reduceMul,Nat.reduceLeDiff,nn8,ns8,wJ];exact rfl) ?_
     simp only[bY]
     refine an.op1 ae (by simp only[go_sem,reduceIte,Nat.reduceEqDiff,Nat.reduceAdd,bx,ax,if_true,if_false,Nat.reduceMul,Nat.reduceLeDiff,nn8,ns8,wJ];exact rfl) ?_
     simp only[bY]
     refine an.op1 ae (by simp only[go_sem,reduceIte,Nat.reduceEqDiff,Nat.reduceAdd,bx,ax,if_true,if_false,Nat.reduceMul,Nat.reduceLeDiff,nn8,ns8,wJ];exact rfl) ?_
     simp only[bY]
     refine an.op1 ae (by simp only[go_sem,reduceIte,Nat.reduceEqDiff,Nat.reduceAdd,bx,ax,if_true,if_false,Nat.reduceMul,Nat.reduceLeDiff,nn8,ns8,wJ];exact rfl) ?_
     simp only[bY]
     refine an.op1 ae (by simp only[go_sem,reduceIte,Nat.reduceEqDiff,Nat.reduceAdd,bx,ax,if_true,if_false,Nat.reduceMul,Nat.reduceLeDiff,nn8,ns8,wJ];exact rfl) ?_
     simp only[bY]
     refine an.opT ae (by simp only[gC,go_sem,reduceIte,Nat.reduceEqDiff,Nat.reduceAdd,bx];exact rfl) ?_
     simp only[bY]
     have q8:∀j,j≠h8.n→(upd h8.objs h8.n (some (.cells (List.flatMap cellsOf [AV.int .i64 (spP R.2)]))):Nat→Option Av.Obj) j=h8.objs j:=fun j hj=>by simp only[upd];rw[if_neg hj]
     have hio:=As (h:=⟨upd h8.objs h8.n (some (.cells (List.flatMap cellsOf [AV.int .i64 (spP R.2)]))),h8.n+1,h8.toks,h8.m⟩) (c:=c) (id2:=h8.n) kI (J+1) (spP R.2) ab ab ab ((q8 c ab).trans ((c8 c ab).trans oc7)) (by simp[upd,cellsOf]) ab
     rw[hk1l] at hio
     refine an.aY (vals:=[.tsl 1 c 0 us.length none,.int .i64 ((J+1:Nat):Int),.tsl 1 h8.n 0 1 none]) ae xA4 hio fun w h9 ⟨hw,l5,l6,l7,b0,hb0,l8⟩ n9 m9=>?_
     subst hw hb0
     simp only at l5 l6 l7
     have l8:∀j,h9.objs j=if j=b0 then none else (upd h8.objs h8.n (some (.cells (List.flatMap cellsOf [AV.int .i64 (spP R.2)]))):Nat→Option Av.Obj) j:=l8
     have p9:∀j,j<h8.n→j≠b0→h9.objs j=h8.objs j:=fun j hj hn=>by rw[l8 j,if_neg hn,q8 j ab]
     have nn9:=(p9 h2.n ab ab).trans nn8
     have f9:∀j,h9.n≤j→h9.objs j=none:=fun j hj=>by
      rw[l8 j]
      split
      ·rfl
      ·rw[q8 j ab];exact g8.fresh j ab
     have g9:PgH x s1 T h9:=g8.at (fun j hj=>by
      have hj2:j<h.n:=by
       rcases Nat.lt_or_ge j h.n with e|e
       ·exact e
       ·exact absurd (ew g e) hj
      exact p9 j ab ab) ab f9 l7 ab
     refine an.evF (xAd nn9) ?_
     refine an.nil ?_
     have hpp:kI.take (J+1)++spP R.2::kI.drop (J+1)=bQ (nus us J R):=by rw[←hkk1 q hR,hR];rfl
     rw[hpp]
     have cA:∀j,j≠h2.n→(upd h9.objs h2.n (some (.cells [.bool false,.sl 1 (strs (nks ks J R)) .any,.sl 1 [] (.exact 0),.sl 1 (ints (bQ (nus us J R))) .any])):Nat→Option Av.Obj) j=h9.objs j:=fun j hj=>by simp only[upd];rw[if_neg hj]
     have pA:∀j,j<h1.n→j≠b0→(upd h9.objs h2.n (some (.cells [.bool false,.sl 1 (strs (nks ks J R)) .any,.sl 1 [] (.exact 0),.sl 1 (ints (bQ (nus us J R))) .any])):Nat→Option Av.Obj) j=h6.objs j:=fun j hj hn=>(cA j ab).trans ((p9 j ab hn).trans ((c8 j ab).trans (p7 j ab (fun l c' e=>by have:=hKd _ _ _ e;omega))))
     refine ⟨(⟨upd h9.objs h2.n (some (.cells [.bool false,.sl 1 (strs (nks ks J R)) .any,.sl 1 [] (.exact 0),.sl 1 (ints (bQ (nus us J R))) .any])),h9.n,h9.toks,h9.m⟩,.sl 1 (strs (nks ks J R)) .any,.sl 1 (ints (bQ (nus us J R))) .any),⟨⟨by simp[upd],rfl,rfl,by simp only[unT];exact ay.refl _,by simp only[unT];exact ay.refl _,?_,(pA tid ab ab).trans ht6,?_,?_,by show h2.n<h9.n;omega,by show h.n≤h9.n;omega⟩,(pA h.n ab ab).trans hn6⟩,aK.tm ?_⟩
     ·exact g9.other ab (by have:=tids h2.n ab;simp only[Tid,ne_eq,eq_comm] at this ⊢;exact this)
     ·exact fun j hj a1 a2 a3 a4 a5 a6=>(pA j ab ab).trans (sm6 j hj a1 a2 a3 a4 a5 a6)
     ·refine aq.trans (fun j hj=>?_) (aq.set nn9) (show h.n≤h9.n by omega) (Nat.le_refl _)
      by_cases e1:j=h8.n
      ·exact .inr ⟨ab,ab⟩
      ·rw[l8 j] at hj
       split at hj
       ·cases hj
       ·rw[q8 j e1] at hj
        by_cases e2:j=h2.n
        ·exact .inr ⟨ab,ab⟩
        ·rw[c8 j e2] at hj
         rcases o7 j hj with e|e
         ·exact (no6 j e).imp id fun z=>⟨z.1,ab⟩
         ·exact .inr ⟨ab,ab⟩
     ·exact xSb
   ·rintro b s' ⟨nd,hnb⟩ le
    refine Wp.le le ?_
    have hdK:∀k,decide (h1.n≤k∧k<h2.n)=true→h.n≤k∧k<h2.n:=fun k hk=>by
     have:=of_decide_eq_true hk
     omega
    have d1:decide (h1.n≤tid∧tid<h2.n)=false:=decide_eq_false ab
    have d2:decide (h1.n≤h.n∧h.n<h2.n)=false:=decide_eq_false ab
    have d3:decide (h1.n≤h2.n∧h2.n<h2.n)=false:=decide_eq_false ab
    obtain ⟨h8,le8,nn8,g8,ht8,sm8,no8,n8,k8⟩:=nd.go (l:=[(0,.ptr tid 0),(1,.int .i64 i),(11,.ptr h.n 0),(12,.ptr h2.n 0)]) (t:=tm [(0,.ptr tid 0),(1,.int .i64 i),(11,.ptr h.n 0),(12,.ptr h2.n 0)]) g hdK hlt ab (by
     simp only[ba,go_sem,reduceIte,Nat.reduceEqDiff,unT,d1,d2,d3,Bool.false_eq_true,if_false]
     exact ⟨ay.refl _,ay.refl _,ay.refl _,ay.refl _,trivial⟩) (by
     exact xSb
     )
    refine Wp.le le8 ?_
    have hn8:h8.objs h.n=some (.cells [.str [],.int .i64 0]):=(k8 h.n (by simpa using d2) ab).trans hnb
    have nb:=nd.ln
    unfold az at nn8
    rcases hst s1 R h8 hQ g8 ht8 hA with hst|⟨v,h',hp1,hm1,l⟩
    rotate_left
    ·repeat (first
      |((first|apply Wp.aR|apply Wp.cB);(· simp only[go_sem,reduceIte,Nat.reduceEqDiff,Nat.reduceAdd,bx,ax,if_true,if_false,Nat.reduceMul,Nat.reduceLeDiff,nn8];exact rfl);refine an.nil ?_)
      |(apply Wp.bu;(· simp only[go_sem,reduceIte,Nat.reduceEqDiff,Nat.reduceAdd,bx,ax,if_true,if_false,Nat.reduceMul,Nat.reduceLeDiff,nn8];exact rfl);(· rfl))
      |refine Wp.skip ?_
      |refine Wp.label ?_
      |refine Wp.block ?_
      |refine Wp.exit ?_
      |refine Wp.seq ?_)
     refine Wp.dQ (vals:=[.ptr tid 0,.int .i64 (i:Int),aC (av L (nks ks J R) (nus us J R))]) (xAd (cj2 nn8 @aC.eq_1)) xAb (hm1) (hp1) ?_
     exact .inr ⟨_,rfl,l.pre (hlo s1 R hQ).1 (hlo s1 R hQ).2.1 (hlo s1 R hQ).2.2 sm8 no8 ab hm1.1 ab⟩
    refine rf0 nn8 ?_
    refine an.aY (vals:=[.ptr tid 0,.int .i64 (i:Int),aC (av L (nks ks J R) (nus us J R))]) ae xA4 hst fun q h9 ⟨s2,R2,hq,g9,sm9,no9,hQ2⟩ n9 _=>?_
    subst hq
    have hn9:=(cH sm9 ab (tids h.n (Nat.le_refl _))).trans hn8
    unfold js AA
    refine an.evF (xAd hn9) ?_
    refine an.nil ?_
    refine Wp.ret ?_
    have lt:=g.lt
    refine .inl ⟨trivial,.tup [.int .i64 (R2.1.pg:Nat),.agg [.str (spK R2.2),.int .i64 (spP R2.2)]],?_,s1,R,hQ,?_,?_,.inr ⟨hA,s2,R2,rfl,g9.other (j0:=h.n) ab ab,hQ2⟩⟩
    ·simp[cJ,rvs,rv,tm,upd,Av.part,shaped,aP]
    ·intro j hj a1 a2 a3 a4 a5 a6
     have e:(upd h9.objs h.n (some (.cells [.str (spK R2.2),.int .i64 (spP R2.2)])):Nat→Option Av.Obj) j=h9.objs j:=by simp only[upd];rw[if_neg ab]
     exact e.trans ((sm8.trans sm9 ab) j hj a1 a2 a3 a4 a5 a6)
    ·exact aq.trans (aq.trans no8 no9 ab n9) (aq.set hn9) ab (Nat.le_refl _)
end
section
variable {x:PgI} {T:List Nat}
def CR (x:PgI) (T:List Nat) (L:Nat) (t:Tr L) (lo:Bs) (hi:Option Bs) (s:PgS) (h:H) (tid d:Nat) (r:Int) (key vl:Bs):Prop:=
 PgH x s T h→bP s→h.objs tid=some (trO x r)→Tid x tid→Live s L lo hi t→inB lo hi key→key.length≤128→vl.length≤200→d+L≤20→s.p.length+16*(L+1)<900000→
  cG Tryz.prog 56 [.ptr tid 0,.int .i64 (t.pg:Nat),.int .i64 (d:Nat),.str key,.str vl] h (fun q h'=>∃s' R,q=js R∧Stp x T s h (fun j=>j∈bp L t) (fun j=>j∈cy L R) (2*(L+1)) s' h'∧CD L lo hi t (fy (aN L t) key vl) s' R) (Lst x T s h (16*L+8))
theorem xc {L:Nat} {i:Nat} {ks:List Bs} {us:List (Tr L)} {lo:Bs} {hi:Option Bs} {s:PgS} {h:H} {tid d:Nat} {r:Int} {key vl:Bs} (ih:∀(u:Tr L) lo hi h,CR x T L u lo hi s h tid (d+1) r key vl):CR x T (L+1) (mkT L i ks us) lo hi s h tid d r key vl:=by
  intro g ok ht htx lv hb hk hv hd hp
  obtain ⟨hr,hz,hw⟩:=lv.wf
  have hw:bH (WF L) lo hi ks us:=hw
  have hr:right (av L ks us)=true:=hr
  have hz:size (av L ks us)≤1024:=hz
  obtain ⟨hs,hi'⟩:=lv.st i (by show i∈i::bf (L+1) us;simp)
  obtain ⟨pa1,pa2,pa3⟩:=gr (key:=key) hr
  obtain ⟨u,hu,wu,-⟩:=hw.at pa3
  obtain ⟨cp1,cp2,cp3⟩:=iJ hw hb _ pa3 pa1 pa2
  have hum:u∈us:=List.mem_of_getElem? hu
  have hpg:=gK (i:=i) (ks:=ks) hu
  have hnd:=lv.nd
  have hst:=lv.st
  rw[hpg] at hnd hst
  have hpr:aN (L+1) (mkT L i ks us)=((us.take (place (av L ks us) key)).map (aN L)).flatten++(aN L u++((us.drop (place (av L ks us) key+1)).map (aN L)).flatten):=nz (f:=aN L) hu
  have hon:∀u∈us,On s L u:=dT.1 lv.on.2
  have lu:Live s L (dM lo ks (place (av L ks us) key)) (eR hi ks (place (av L ks us) key)) u:=by
   refine ⟨hon u hum,wu,?_,fun j hj=>hst j (by simp[hj])⟩
   simp only[List.nodup_cons,List.nodup_append] at hnd
   exact hnd.2.2.1.1
  have hpA:∀v∈us,v.pg<16384:=fun v hv=>by
   have:=(lv.st v.pg (by
    show v.pg∈i::bf (L+1) us
    exact List.mem_cons_of_mem _ (gu hv _ (by simp[bp])))).2
   have:=ok.np1
   omega
  have hH:Has s i (av L ks us):=lv.on.1
  have W:=AF (val:=vl) (c1:=16*L+8) (c2:=16*(L+1)) (c0:=16*(L+1)+8) (Q:=fun s1 R=>bP s1∧Mv s s1 (fun j=>j∈bp L u) (fun j=>j∈cy L R)∧free s≤free s1+2*(L+1)∧s1.p.length≤s.p.length+8*(2*(L+1))∧CD L (dM lo ks (place (av L ks us) key)) (eR hi ks (place (av L ks us) key)) u (fy (aN L u) key vl) s1 R)
   (Q2:=fun s1 R s2 R2=>bP s2∧Mv s1 s2 (fun j=>j=i) (top R2)∧free s1≤free s2+2∧s2.p.length≤s1.p.length+16∧Std (L+1) lo hi (nks ks (place (av L ks us) key) R) (nus us (place (av L ks us) key) R) s2 R2) g ok ht htx hi' hs hH hr hz hu pa3 ab ab
   (fun h1 g1 ht1=>(ih u _ _ h1 g1 ok ht1 htx lu cp3 hk hv ab ab).mono (fun q h' ⟨s1,R,e,st,pr⟩=>⟨s1,R,e,st.pg,st.sm,st.no,st.ok,st.mv,st.fr,st.pl,pr⟩) (fun _ _ e=>e)) (fun s1 R o=>⟨o.2.1.lo,by have:=o.2.2.2.1;omega,by have:=o.2.2.1;omega⟩) ab ab
   (fun s1 R h1 ⟨o1,o2,o3,o4,o5⟩ g1 ht1 hne=>by
    have md:=oe o2 hnd o5.nd hst
    have hp2:∀v∈rt R,v.pg<16384:=fun v hv=>by
     have:=(md.st v.pg (by simp[CI hv])).2
     have:=ok.np1
     omega
    obtain ⟨c1,c2,c3,c4⟩:=od hw hr hz pa3 o5.wf hpA hp2
    have e1:=(md.bt i (.inl rfl)).1
    have e2:=o2.np
    exact (yq (L:=L+1) (lo:=lo) (hi:=hi) (ks:=nks ks (place (av L ks us) key) R) (kids:=nus us (place (av L ks us) key) R) g1 o1 ht1 htx ab ab c2 c3 c1 ab).mono (fun q h' ⟨s2,R2,e,st,sd⟩=>⟨s2,R2,e,st.pg,st.sm,st.no,st.ok,st.mv,st.fr,st.pl,sd⟩) (fun _ _ e=>e))
  rcases W with ⟨q,h',ca,n1,m1,s1,R,⟨o1,o2,o3,o4,o5⟩,sm,no,cs⟩|w
  rotate_left
  ·exact .inr w
  refine .inl ⟨q,h',ca,n1,m1,?_⟩
  clear ca ih
  have md:=oe o2 hnd o5.nd hst
  have hp2:∀v∈rt R,v.pg<16384:=fun v hv=>by
   have:=(md.st v.pg (by simp[CI hv])).2
   have:=ok.np1
   omega
  obtain ⟨c1,c2,c3,c4⟩:=od hw hr hz pa3 o5.wf hpA hp2
  have hps:((nus us (place (av L ks us) key) R).map (aN L)).flatten=fy (aN (L+1) (mkT L i ks us)) key vl:=by
   rw[hpr,qo cp1 cp2,uY,←o5.ps];rfl
  have hkA:∀v∈nus us (place (av L ks us) key) R,On s1 L v:=by
   intro v hv
   unfold nus at hv
   simp only[List.mem_append] at hv
   rcases hv with hv|hv|hv
   ·exact (hon v (List.mem_of_mem_take hv)).congr fun j hj=>(md.bt j (.inr (.inl (gu hv j hj)))).2
   ·exact FE o5 v hv
   ·exact (hon v (List.mem_of_mem_drop hv)).congr fun j hj=>(md.bt j (.inr (.inr (gu hv j hj)))).2
  have hpn:=En (us:=us) (k:=place (av L ks us) key) (R:=R)
  generalize hJ:place (av L ks us) key=J at*
  rcases cs with ⟨rfl,e1,e2,gp⟩|⟨hne,s2,R2,rfl,gp,u1,u2,u3,u4,sd⟩
  ·have hks:nks ks J R=ks:=by unfold nks rk;rw[e2];simp
   rw[hks] at c1 c2 c3 c4
   have hin:=u0 hu e1 e2 ks
   refine ⟨s1,(mkT L i ks (nus us J R),none),rfl,⟨gp,o1,md.mv.congr (fun j=>by rw[hpg]) (fun j=>?_),ab,ab,sm,no,n1⟩,⟨?_,fun q hq=>(by cases hq),⟨c2,c4 e2,c1⟩,?_,?_,?_⟩⟩
   ·show j∈(i::bf (L+1) (nus us J R))++[]↔_
    rw[hpn,List.append_nil]
   ·refine ⟨?_,dT.2 hkA⟩
    show Has s1 i (av L ks (nus us J R))
    rw[hin]
    exact hH.congr (md.bt i (.inl rfl)).2
   ·show ((nus us J R).map (aN L)).flatten++[]=_
    rw[List.append_nil,hps]
   ·show ((i::bf (L+1) (nus us J R))++[]).Nodup
    rw[hpn,List.append_nil]
    exact md.nd
   ·exact CH hu o5.pot (List.append_nil (α:=Tr L) _) (fun q hq=>by cases hq)
  ·have hq0:∀j,j∈bf (L+1) (nus us J R)→¬j=i:=by
    intro j hj e
    rw[hpn] at hj
    subst e
    exact (List.nodup_cons.1 md.nd).1 hj
   have hq1:∀j,j∈bf (L+1) (nus us J R)→stt s1 j≠0:=by
    intro j hj
    rw[hpn] at hj
    have:=(md.st j (List.mem_cons_of_mem _ hj)).1
    omega
   have ap:=u2.apart (Q:=fun j=>j∈bf (L+1) (nus us J R)) hq0 hq1
   have mm:=u2.ext (Q:=fun j=>j∈bf (L+1) (nus us J R)) hq0 hq1
   have hkd:bf (L+1) R2.1.kids++more (fun t:Tr (L+1)=>bf (L+1) t.kids) R2.2=bf (L+1) (nus us J R):=by
    rw[←sd.kd,Az]
    obtain ⟨t1,o⟩:=R2
    cases o<;>rfl
   have hmem:∀j,j∈cy (L+1) R2↔top R2 j∨j∈bf (L+1) (nus us J R):=by
    intro j
    rw[←hkd]
    obtain ⟨t1,o⟩:=R2
    unfold cy top
    cases o with
    |none=>
     show j∈(t1.pg::bf (L+1) t1.kids)++[]↔_
     simp[more]
    |some q=>
     show j∈(t1.pg::bf (L+1) t1.kids)++(q.2.pg::bf (L+1) q.2.kids)↔_
     simp only[more,List.mem_append,List.mem_cons,Option.some.injEq,exists_eq_left']
     constructor
     ·rintro ((a|a)|(a|a))<;>simp[a]
     ·rintro ((a|a)|(a|a))<;>simp[a]
   have m1':Mv s s1 (fun j=>j∈bp (L+1) (mkT L i ks us)) (fun j=>j=i∨j∈bf (L+1) (nus us J R)):=md.mv.congr (fun j=>by rw[hpg]) (fun j=>by rw[hpn];simp)
   have hnk:(bf (L+1) (nus us J R)).Nodup:=by rw[hpn];exact (List.nodup_cons.1 md.nd).2
   have hk2:∀v∈nus us J R,On s2 L v:=fun v hv=>(hkA v hv).congr fun j hj=>(ap j (by rw[eJ];exact gu hv j hj)).2.2
   have hkk:∀v:Tr L,v∈(R2.1.kids:List (Tr L))→v∈nus us J R:=fun v hv=>by
    rw[←sd.kd]
    exact List.mem_append_left (α:=Tr L) _ hv
   refine ⟨s2,R2,rfl,⟨gp,u1,(m1'.trans mm).congr (fun j=>Iff.rfl) hmem,ab,ab,sm,no,n1⟩,⟨⟨sd.h1,dT.2 fun v hv=>hk2 v (hkk v hv)⟩,fun q hq=>⟨(sd.h2 q hq).1,dT.2 fun v hv=>hk2 v ?_⟩,sd.wf,?_,?_,?_⟩⟩
   ·rw[←sd.kd,hq]
    exact List.mem_append_right (α:=Tr L) _ hv
   ·rw[sd.ps,←hps];rfl
   ·rw[←hkd] at hnk ap
    have hh2:=sd.h2
    obtain ⟨t1,o⟩:=R2
    cases o with
    |none=>
     simp only[more,List.append_nil] at hnk ap
     show ((t1.pg::bf (L+1) t1.kids)++[]).Nodup
     rw[List.append_nil,List.nodup_cons]
     exact ⟨fun hm=>(ap _ hm).1 (.inl rfl),hnk⟩
    |some q=>
     simp only[more,List.nodup_append] at hnk
     have hne2:=(hh2 q rfl).2
     have ap:∀j,j∈bf (L+1) t1.kids∨j∈bf (L+1) q.2.kids→¬top (t1,some q) j:=fun j hj=>(ap j (by simpa [more] using hj)).1
     show ((t1.pg::bf (L+1) t1.kids)++(q.2.pg::bf (L+1) q.2.kids)).Nodup
     simp only[List.nodup_append,List.nodup_cons,List.mem_cons]
     refine ⟨⟨fun hm=>ap _ (.inl hm) (.inl rfl),hnk.1⟩,⟨fun hm=>ap _ (.inr hm) (.inr ⟨q,rfl,rfl⟩),hnk.2.1⟩,?_⟩
     rintro a (rfl|ha) b (rfl|hb) e
     ·exact hne2 e
     ·exact ap _ (.inr hb) (.inl e.symm)
     ·exact ap _ (.inl ha) (.inr ⟨q,rfl,e⟩)
     ·exact hnk.2.2 a ha b hb e
   ·refine CH hu o5.pot sd.kd fun q hq=>?_
    obtain ⟨n2,n3,n4⟩:=sd.cn q hq (Nat.succ_pos _)
    exact ⟨fun e=>sd.nf q hq (c4 e),n2,n3,n4⟩
theorem EN:∀(L:Nat) (t:Tr L) (lo:Bs) (hi:Option Bs) (s:PgS) (h:H) (tid d:Nat) (r:Int) (key vl:Bs),CR x T L t lo hi s h tid d r key vl
 |0,t,lo,hi,s,h,tid,d,r,key,vl=>fun g ok ht htx lv hb hk hv hd hp=>by
  obtain ⟨i,ks,vs⟩:=(t:Nd Bs)
  obtain ⟨h1,h2,h3,h4⟩:=lv.wf
  obtain ⟨hs,hi'⟩:=lv.st i (by simp[bp])
  refine (AE (lo:=lo) (hi:=hi) g ok ht htx hi' hs lv.on.1 h1 h2 h4 hb hk hv ab ab).mono ?_ (fun _ _ e=>e.more ab)
  rintro q h' ⟨s',R,rfl,st,pr⟩
  refine ⟨s',R,rfl,⟨st.pg,st.ok,st.mv.congr (fun j=>?_) (fun j=>?_),st.fr,st.pl,st.sm,st.no,st.ln⟩,pr⟩
  ·simp[bp,bf]
  ·obtain ⟨t1,o⟩:=R
   cases o with
   |none=>simp[cy,more,bp,bf,top]
   |some q=>simp[cy,more,bp,bf,top]
 |L+1,t,lo,hi,s,h,tid,d,r,key,vl=>xc (i:=t.pg) (ks:=t.ks) (us:=t.kids) fun u lo hi h=>EN L u lo hi s h tid (d+1) r key vl
end
section
variable {x:PgI} {s:PgS} {T:List Nat} {h:H}
theorem CS {L k:Nat} {t1 t2:Tr L} {key:Bs} (h:qq L [] none (t1,some (key,t2))) (hp1:t1.pg<16384) (hp2:t2.pg<16384):bH (WF L) [] none [key] [t1,t2]∧right (av L [key] [t1,t2])=true∧size (av L [key] [t1,t2])≤1024:=by
 have c:bH (WF L) [] none [key] [t1,t2]:=rW h
 have hl:key.length≤128:=h.2.2.2.2
 refine ⟨c,ig c (fun k hk=>?_) (fun u hu=>?_),?_⟩
 ·obtain rfl:=List.mem_singleton.1 hk;exact hl
 ·simp only[List.mem_cons,List.not_mem_nil,or_false] at hu
  rcases hu with rfl|rfl
  ·exact hp1
  ·exact hp2
 ·have e:size (av L [key] [t1,t2])=7+5*1+tot [key]:=rfl
  rw[e]
  simp[tot];omega
end
section
variable {x:PgI} {s:PgS} {T:List Nat} {h:H}
theorem Lst.grow {c:Nat} {v:Value} {h':H} (l:Lst x T s h c v h') {n m:Nat} (hn:h'.n≤n) (hm:h'.m≤m):Lst x T s h c v {h' with n:=n,m:=m}:=by
 obtain ⟨s',a,b,e,f⟩:=l.ex
 exact ⟨l.v,l.fe,⟨s',a.keep (fun _ _=>rfl) hn (fun j hj=>a.fresh j (Nat.le_trans hn hj)) rfl hm,b,e,f⟩,l.sm,fun j hj=>(l.no j hj).imp id fun z=>⟨z.1,Nat.lt_of_lt_of_le z.2 hn⟩⟩
set_option maxHeartbeats 2000000 in
theorem xd {tid b0 b1 b2 B:Nat} {key vl:Bs} (g:Ts x T tid s none B h) (h0:h.objs b0=some (.cells [.ptr tid 0])) (h1:h.objs b1=some (.cells [.str key])) (h2:h.objs b2=some (.cells [.str vl])) (t0:Tid x b0)
  (hk:key.length≤128) (hv:vl.length≤200) (hp:s.p.length+200<900000):
  cG Tryz.prog 54 [.ptr b1 0,.ptr b2 0,.ptr b0 0] h (fun q h'=>∃s' R',eC x T tid s none h (B+1) s' R' h'∧aJ R'=fy [] key vl) (Lst x T s h 0):=by
 refine f54.gD af ?_
 unfold c54 zz
 have d1:decide ((128:Int)<(key.length:Int))=false:=decide_eq_false ab
 have d2:decide ((200:Int)<(vl.length:Int))=false:=decide_eq_false ab
 have ot:h.objs tid=some (.cells [.ptr x.P 0,.int .i64 (-1)]):=g.ot
 have d3:decide ((-1:Int)<0)=true:=by decide
 have hr:right (aA [key] [vl])=true:=by
  refine (bA (n:=aA [key] [vl]) rfl).2 ⟨⟨fun k hk'=>?_,List.pairwise_singleton _ _⟩,rfl,rfl,fun v hv'=>?_⟩
  ·obtain rfl:=List.mem_singleton.1 hk';exact hk
  ·obtain rfl:=List.mem_singleton.1 hv';exact hv
 have hz:size (aA [key] [vl])≤1024:=by
  rw[size_leaf rfl]
  simp[aA,tot];omega
 have hsm:=bG (L:=0) (ks:=[key]) (kids:=[vl]) hr (by show size (aA [key] [vl])≤1355;omega)
 refine rf0 (cj7 h0 h1 h2 ot d1 d2 d3) ?_
 have hc:=tq g.pg g.ok g.ot hsm.1 (iQ hr hz) ab
 rcases hc with hc|⟨v,h',hp1,hm1,l⟩
 rotate_left
 ·refine Wp.pN ?_
  refine aZ.eval (dg (xAd (cj5 h0 h1 h2 @and_self @decide_true))) ?_
  refine aZ.GD (vals:=[.ptr tid 0,aC (aA [key] [vl])]) (by simp only[go_sem,reduceIte,Nat.reduceEqDiff,List.map];exact au.cons (ay.refl _) (au.cons (ay.bn (ks:=[key]) (vs:=[vl]) (is:=[])) au.nil)) (fun j hj=>g.pg.ltn hj) (hm1) (hp1) (l.no) (g.pg.ltn (j:=b0) (by rw[h0];rfl)) (cH l.sm (g.pg.ltn (by rw[h0];rfl)) t0) (by simp only[jV,oC,iE,bT,bR,tmpsOf,List.filterMap_cons,List.filterMap_nil,List.contains_cons,List.contains_nil,List.any_cons,List.any_nil,List.elem_cons,List.elem_nil,Option.toList_some,Option.toList_none,List.singleton_append,Prod.mk.injEq,Nat.reduceBEq,Bool.or_false,Bool.false_or,Bool.true_or,Bool.or_true,Bool.and_true,Bool.true_and,Bool.not_true,Bool.not_false,go_sem,reduceIte,Nat.reduceEqDiff,Nat.reduceAdd];exact rfl) (by simp[aV,apart,aT]) (by simp[uj,kr,aT,Nat.beq]) ?_
  exact .inr ⟨_,rfl,l⟩
 refine Wp.reg ?_
 refine ao.part 7 (xAd (cj5 h0 h1 h2 @and_self @decide_true)) ?_
 simp only[List.drop_succ_cons,List.drop_zero,List.drop_nil]
 refine ao.Fc (b:=b0) (vals:=[.ptr tid 0,aC (aA [key] [vl])]) ae (by
  simp only[go_sem,reduceIte,Nat.reduceEqDiff,List.map]
  exact au.cons (ay.refl _) (au.cons (ay.bn (ks:=[key]) (vs:=[vl]) (is:=[])) au.nil)) (fun j hj=>g.pg.ltn hj) (g.pg.ltn (by rw[h0];rfl)) hc (fun r h' ⟨s',k,e,st,hh⟩=>⟨st.no,cH st.sm (g.pg.ltn (by rw[h0];rfl)) t0⟩) fun r h3 ⟨s',k,e,st,hh⟩ n3 m3=>?_
 subst e
 have ot3:h3.objs tid=some (.cells [.ptr x.P 0,.int .i64 (-1)]):=(cH st.sm g.lt g.tx).trans ot
 refine ao.part 3 (xAe ot3) ?_
 simp only[List.drop_succ_cons,List.drop_zero,List.drop_nil]
 refine ao.nil ⟨by simp[bw,aV,apart,aT],?_⟩
 refine Wp.ret ?_
 have mk:=st.mv.new k rfl id
 refine .inl ⟨trivial,.tup [],?_,s',some ⟨0,⟨k,[key],[vl]⟩⟩,⟨⟨st.pg.vd g.tx (by have:=g.lt;omega) _,st.ok,?_,g.tx,⟨⟨⟨hh,trivial⟩,⟨hr,hz,by show 0<1;decide,fun k' hk'=>?_⟩,by simp[bp,bf],fun j hj=>?_⟩,?_⟩⟩,st.mv.congr (fun j=>by simp[cM]) (fun j=>by simp[cM,bp,bf]),by have:=st.pl;omega,(eK.of st.sm).trans eK.set st.ln,aq.trans st.no (aq.set ot3) st.ln (Nat.le_refl _),st.ln⟩,?_⟩
 ·simp[cJ,rvs]
 ·simp[upd,trO,rpg]
 ·obtain rfl:=List.mem_singleton.1 hk'
  exact ⟨dc _,fun _ e=>by cases e⟩
 ·have e:j=k:=by simpa [bp,bf] using hj
  subst e
  have:=st.mv.np
  exact ⟨.inr mk.2.1,ab⟩
 ·refine ⟨fun _=>1,by simp only;omega,fun j hj=>?_,fun j hj=>absurd hj (Nat.not_lt_zero _)⟩
  obtain rfl:j=0:=by omega
  exact Nat.le_refl _
 ·simp[aJ,aN,mf,fy]
  rfl
set_option maxHeartbeats 2000000 in
theorem xe {L tid b0 b1 b2 B:Nat} {t:Tr L} {key vl:Bs} (g:Ts x T tid s (some ⟨L,t⟩) B h) (h0:h.objs b0=some (.cells [.ptr tid 0])) (h1:h.objs b1=some (.cells [.str key])) (h2:h.objs b2=some (.cells [.str vl])) (t0:Tid x b0) (n0:b0≠tid)
  (hk:key.length≤128) (hv:vl.length≤200) (hL:L≤6) (hp:s.p.length+200<900000):
  cG Tryz.prog 54 [.ptr b1 0,.ptr b2 0,.ptr b0 0] h (fun q h'=>∃s' R',eC x T tid s (some ⟨L,t⟩) h (B+1) s' R' h'∧aJ R'=fy (aN L t) key vl) (Lst x T s h (16*(L+1))):=by
 refine f54.gD af ?_
 unfold c54 zz
 have d1:decide ((128:Int)<(key.length:Int))=false:=decide_eq_false ab
 have d2:decide ((200:Int)<(vl.length:Int))=false:=decide_eq_false ab
 have ot:h.objs tid=some (.cells [.ptr x.P 0,.int .i64 ((t.pg:Nat):Int)]):=g.ot
 have d3:decide (((t.pg:Nat):Int)<0)=false:=decide_eq_false ab
 obtain ⟨lv,bd⟩:Live s L [] none t∧Bnd L t B:=g.rk
 refine rf0 (cj7 h0 h1 h2 ot d1 d2 d3) ?_
 have hc:=EN (x:=x) (T:=T) L t [] none s h tid 1 ((t.pg:Nat):Int) key vl g.pg g.ok g.ot g.tx lv ⟨dc _,fun _ e=>by cases e⟩ hk hv ab ab
 rcases hc with hc|⟨v,h',hp1,hm1,l⟩
 rotate_left
 ·obtain ⟨s1,q1,q2,q3,q4⟩:=l.ex
  have lt0:=g.pg.ltn (j:=b0) (by rw[h0];rfl)
  have lt1:=g.pg.ltn (j:=b1) (by rw[h1];rfl)
  have lt2:=g.pg.ltn (j:=b2) (by rw[h2];rfl)
  have ltt:=g.lt
  have nn1:=hm1.1
  refine Wp.pN ?_
  refine aZ.eval (dg (xAd (cj4 h0 h1 h2 ot))) ?_
  refine aZ.GC (vals:=[.ptr tid 0,.int .i64 (t.pg:Nat),.int .i64 ((1:Nat):Int),.str key,.str vl]) xA4 (fun j hj=>g.pg.ltn hj) (hm1) (hp1) (l.no) (by simp only[mG,xD,oC,iE,bT,bR,tmpsOf,List.filterMap_cons,List.filterMap_nil,List.contains_cons,List.contains_nil,List.any_cons,List.any_nil,List.elem_cons,List.elem_nil,Option.toList_some,Option.toList_none,List.singleton_append,Prod.mk.injEq,Nat.reduceBEq,Bool.or_false,Bool.false_or,Bool.true_or,Bool.or_true,Bool.and_true,Bool.true_and,Bool.not_true,Bool.not_false,go_sem,reduceIte,Nat.reduceEqDiff,Nat.reduceAdd];exact rfl) (by simp[aV,apart,aT];exact ⟨ab,ab,ab,ab,fun id a=>by omega⟩) (DM rfl (by simp[aT,q1.fresh _ (Nat.le_refl _)])) ?_
  exact fun n m hn hm=> .inr ⟨_,rfl,(l.grow hn hm).more ab⟩
 refine Wp.reg ?_
 refine ao.part 7 (xAe (cj4 h0 h1 h2 ot)) ?_
 simp only[List.drop_succ_cons,List.drop_zero,List.drop_nil]
 refine ao.aY (vals:=[.ptr tid 0,.int .i64 (t.pg:Nat),.int .i64 ((1:Nat):Int),.str key,.str vl]) ae xA4 (fun j hj=>g.pg.ltn hj) hc (fun r h' ⟨s',R,e,st,hh⟩=>st.no) fun r h3 ⟨s1,R,e,st,pr⟩ n3 m3=>?_
 subst e
 have lt0:=g.pg.ltn (j:=b0) (by rw[h0];rfl)
 have lt1:=g.pg.ltn (j:=b1) (by rw[h1];rfl)
 have lt2:=g.pg.ltn (j:=b2) (by rw[h2];rfl)
 have ltt:=g.lt
 have ot3:h3.objs tid=some (.cells [.ptr x.P 0,.int .i64 ((t.pg:Nat):Int)]):=(cH st.sm g.lt g.tx).trans ot
 have h03:h3.objs b0=some (.cells [.ptr tid 0]):=(cH st.sm lt0 t0).trans h0
 unfold js AA
 refine ao.part 6 xA1 ?_
 simp only[List.drop_succ_cons,List.drop_zero,List.drop_nil]
 rw[bg]
 refine ao.nil ⟨by simp[bw,aV,apart,aT];exact ⟨ab,ab,ab,ab,fun id a=>by omega⟩,?_⟩
 obtain ⟨t1,o⟩:=R
 have g4:=st.pg.new (.cells [.str (spK o),.int .i64 (spP o)])
 have ln4:(H.new h3 (.cells [.str (spK o),.int .i64 (spP o)])).n=h3.n+1:=rfl
 have ot4:(H.new h3 (.cells [.str (spK o),.int .i64 (spP o)])).objs tid=_:=(aH ab).trans ot3
 have h04:(H.new h3 (.cells [.str (spK o),.int .i64 (spP o)])).objs b0=_:=(aH ab).trans h03
 have sm4:ct x h (H.new h3 (.cells [.str (spK o),.int .i64 (spP o)])):=st.sm.trans bK n3
 have no4:aq h (H.new h3 (.cells [.str (spK o),.int .i64 (spP o)])):=aq.trans st.no bC n3 (Nat.le_succ _)
 have nn4:=bV (h:=h3) (o:= .cells [.str (spK o),.int .i64 (spP o)])
 refine Wp.le (s':=⟨tm [(2,.ptr b0 0),(3,.int .i64 (t1.pg:Nat)),(4,.ptr h3.n 0)],H.new h3 (.cells [.str (spK o),.int .i64 (spP o)])⟩) (aK.of (bL ?_) (OLe.refl _) (fun y hy=>hy) (Nat.le_refl _) (Nat.le_refl _)) ?_
 ·exact xSb
 generalize H.new h3 (.cells [.str (spK o),.int .i64 (spP o)])=h4 at*
 have hps:=pr.ps
 have hin:∀j∈cy L (t1,o),(stt s1 j=1∨stt s1 j=2)∧j<s1.np:=by
  intro j hj
  have hnp:=st.mv.np
  by_cases hjt:j∈bp L t
  ·have q:=st.mv.stay j hj hjt
   have:=lv.st j hjt
   omega
  ·have q:=st.mv.new j hj hjt
   omega
 cases o with
 |none=>
  have e3:decide (0≤spP (none:Option (Bs × Tr L)))=false:=decide_eq_false (by simp[spP])
  refine rf0 (cj4 nn4 e3 h04 ot4) ?_
  refine .inl ⟨trivial,.tup [],by simp[cJ,rvs],s1,some ⟨L,t1⟩,⟨⟨g4.vd g.tx ab _,st.ok,by simp[upd,trO,rpg],g.tx,⟨⟨pr.on,pr.wf,by have:=pr.nd;simpa [cy,more] using this,fun j hj=>hin j (by simpa [cy,more] using hj)⟩,CO pr.pot bd rfl⟩⟩,st.mv.congr (fun j=>Iff.rfl) (fun j=>by simp[cM,cy,more]),by have:=st.pl;omega,(eK.of sm4).trans eK.set ab,aq.trans no4 (aq.set ot4) ab (Nat.le_refl _),by show h.n≤h4.n;omega⟩,?_⟩
  rw[←hps]
  simp[aJ,jt,more]
 |some q=>
  have e3:decide (0≤spP (some q))=true:=decide_eq_true (by simp only[spP];omega)
  have np1:=st.ok.np1
  obtain ⟨c1,c2,c3⟩:=CS (k:=0) (t1:=t1) (t2:=q.2) (key:=q.1) pr.wf (by have:=(hin t1.pg (by simp[cy,bp])).2;omega) (by have:=(hin q.2.pg (by simp[cy,more,bp])).2;omega)
  have hsm:=bG (L:=L+1) (ks:=[q.1]) (kids:=([t1,q.2]:List (Tr L))) c2 (by show size (av L [q.1] [t1,q.2])≤1355;omega)
  have fr:=st.fr
  have pl:=st.pl
  have hcf:=tq (n:=av L [q.1] [t1,q.2]) g4 st.ok ot4 hsm.1 (iQ c2 c3) ab
  rcases hcf with hcf|⟨v,h',hp1,hm1,l⟩
  rotate_left
  ·repeat (first
    |((first|apply Wp.aR|apply Wp.cB);(· simp only[go_sem,reduceIte,Nat.reduceEqDiff,Nat.reduceAdd,bx,ax,if_true,if_false,Nat.reduceMul,Nat.reduceLeDiff,nn4,e3,h04,ot4,Nat.reduceMul,Nat.reduceLeDiff,and_self,decide_true];exact rfl);refine an.nil ?_)
    |(apply Wp.bu;(· simp only[go_sem,reduceIte,Nat.reduceEqDiff,Nat.reduceAdd,bx,ax,if_true,if_false,Nat.reduceMul,Nat.reduceLeDiff,nn4,e3,h04,ot4,Nat.reduceMul,Nat.reduceLeDiff,and_self,decide_true];exact rfl);(· rfl))
    |refine Wp.skip ?_
    |refine Wp.label ?_
    |refine Wp.block ?_
    |refine Wp.exit ?_
    |refine Wp.seq ?_)
   refine Wp.dQ (vals:=[.ptr tid 0,aC (av L [q.1] [t1,q.2])]) (by simp only[go_sem,reduceIte,Nat.reduceEqDiff,Nat.reduceAdd,bx,ax,if_true,if_false,Nat.reduceMul,Nat.reduceLeDiff,nn4,h04,and_self,decide_true];exact rfl) (by
    simp only[go_sem,reduceIte,Nat.reduceEqDiff,List.map]
    exact au.cons (ay.refl _) (au.cons (ay.bn (ks:=[q.1]) (vs:=[]) (is:=[((t1.pg:Nat):Int),((q.2.pg:Nat):Int)])) au.nil)) hm1 hp1 ?_
   exact .inr ⟨_,rfl,l.pre (d:=8*(2*(L+1))) st.mv.lo pl ab sm4 no4 ab hm1.1 ab⟩
  refine rf0 (cj6 nn4 e3 h04 ot4 @and_self @decide_true) ?_
  refine an.aY (vals:=[.ptr tid 0,aC (av L [q.1] [t1,q.2])]) ae (by
   simp only[go_sem,reduceIte,Nat.reduceEqDiff,List.map]
   exact au.cons (ay.refl _) (au.cons (ay.bn (ks:=[q.1]) (vs:=[]) (is:=[((t1.pg:Nat):Int),((q.2.pg:Nat):Int)])) au.nil)) hcf fun r h5 ⟨s2,k,e,st2,hh⟩ n5 m5=>?_
  subst e
  have ot5:h5.objs tid=some (.cells [.ptr x.P 0,.int .i64 ((t.pg:Nat):Int)]):=(cH st2.sm ab g.tx).trans ot4
  have h05:h5.objs b0=some (.cells [.ptr tid 0]):=(cH st2.sm ab t0).trans h04
  refine an.evF xAc ?_
  refine an.nil ?_
  refine rf0 (cj2 h05 ot5) ?_
  have mk:=st2.mv.new k rfl id
  have hq0:∀j,j∈cy L (t1,some q)→stt s1 j≠0:=fun j hj=>by have:=(hin j hj).1;omega
  have ap:=st2.mv.apart (Q:=fun j=>j∈cy L (t1,some q)) (fun _ _=>id) hq0
  have mm:=st.mv.trans ((st2.mv.ext (Q:=fun j=>j∈cy L (t1,some q)) (fun _ _=>id) hq0).congr (A:=fun j=>j∈cy L (t1,some q)) (A':=fun j=>j=k∨j∈cy L (t1,some q)) (fun j=>by simp) (fun j=>Iff.rfl))
  have hpg:bp (L+1) (mkT L k [q.1] [t1,q.2])=k::cy L (t1,some q):=by
   show k::(([t1,q.2]:List (Tr L)).map (bp L)).flatten=_
   simp[cy,more]
  have hun:∀u∈([t1,q.2]:List (Tr L)),On s2 L u:=fun u hu=>by
   simp only[List.mem_cons,List.not_mem_nil,or_false] at hu
   rcases hu with rfl|rfl
   ·exact pr.on.congr fun j hj=>(ap j (by simp[cy,hj])).2.2
   ·exact (pr.on2 q rfl).congr fun j hj=>(ap j (by simp[cy,more,hj])).2.2
  have hpl2:=st2.pl
  have hnp2:=st2.mv.np
  refine .inl ⟨trivial,.tup [],by simp[cJ,rvs],s2,some ⟨L+1,mkT L k [q.1] [t1,q.2]⟩,⟨⟨st2.pg.vd g.tx ab _,st2.ok,by simp[upd,trO,rpg,mkT],g.tx,⟨⟨⟨hh,(dT (us:=([t1,q.2]:List (Tr L)))).2 hun⟩,⟨c2,c3,c1⟩,?_,fun j hj=>?_⟩,CP pr.pot bd rfl⟩⟩,mm.congr (fun j=>Iff.rfl) (fun j=>?_),ab,(eK.of (sm4.trans st2.sm ab)).trans eK.set ab,aq.trans (aq.trans no4 st2.no ab ab) (aq.set ot5) ab (Nat.le_refl _),by show h.n≤h5.n;omega⟩,?_⟩
  ·rw[hpg]
   exact List.nodup_cons.2 ⟨fun hm=>(ap k hm).1 rfl,pr.nd⟩
  ·rw[hpg] at hj
   rcases List.mem_cons.1 hj with rfl|hj
   ·exact ⟨.inr mk.2.1,ab⟩
   ·have a:=ap j hj
    have b:=hin j hj
    omega
  ·show j∈bp (L+1) (mkT L k [q.1] [t1,q.2])↔_
   rw[hpg];simp
  ·rw[←hps]
   show (([t1,q.2]:List (Tr L)).map (aN L)).flatten=_
   simp[jt,more]
end
section
variable {x:PgI} {s:PgS} {T:List Nat} {h:H}
theorem CT {b0 b1 b2:Nat} {key vl:Bs} (h1:h.objs b1=some (.cells [.str key])) (h2:h.objs b2=some (.cells [.str vl])) (hk:128<key.length∨200<vl.length):
  ∃h',cV Tryz.prog 54 [.ptr b1 0,.ptr b2 0,.ptr b0 0] h (jo 2) h'∧h.n≤h'.n∧h.m≤h'.m∧h'=h:=by
 obtain ⟨v,h',hc,⟨hn,hm⟩,rfl,rfl⟩:=aW.mP (Q:=fun v h'=>v=jo 2∧h'=h) (args:=[.ptr b1 0,.ptr b2 0,.ptr b0 0]) (h:=h) f54 af (by
  unfold c54 zz
  refine Wp.seq ?_
  by_cases ha:128<key.length
  ·have d1:decide ((128:Int)<(key.length:Int))=true:=decide_eq_true ab
   refine Wp.aR (by simp only[go_sem,reduceIte,Nat.reduceEqDiff,Nat.reduceAdd,bx,h1,h2,d1];exact rfl) ?_
   refine an.nil ?_
   refine Wp.cond_true (by simp only[go_sem,reduceIte,Nat.reduceEqDiff]) ?_
   refine Wp.pN (aZ.eval (dg xA1) ?_)
   refine aZ.here (R:=fun v h'=>∃v',aQ.panic v= .panic v'∧v'=jo 2∧h'=h) (en:=aT) rfl (bF _) (fun ops i o ho hit=>fl ho hit rfl rfl rfl) (fun l hl=>by cases hl) ?_
   exact ⟨_,rfl,rfl,rfl⟩
  ·have d1:decide ((128:Int)<(key.length:Int))=false:=decide_eq_false ab
   have d2:decide ((200:Int)<(vl.length:Int))=true:=decide_eq_true ab
   refine Wp.aR (by simp only[go_sem,reduceIte,Nat.reduceEqDiff,Nat.reduceAdd,bx,h1,h2,d1,d2];exact rfl) ?_
   refine an.nil ?_
   refine Wp.cond_true (by simp only[go_sem,reduceIte,Nat.reduceEqDiff]) ?_
   refine Wp.pN (aZ.eval (dg xA1) ?_)
   refine aZ.here (R:=fun v h'=>∃v',aQ.panic v= .panic v'∧v'=jo 2∧h'=h) (en:=aT) rfl (bF _) (fun ops i o ho hit=>fl ho hit rfl rfl rfl) (fun l hl=>by cases hl) ?_
   exact ⟨_,rfl,rfl,rfl⟩)
 exact ⟨_,hc,hn,hm,rfl⟩
theorem ROk.more {R:Rt} {B B':Nat} (h:ROk s B R) (hB:B≤B'):ROk s B' R:=by
 cases R with
 |none=>trivial
 |some r=>
  obtain ⟨L,t⟩:=r
  obtain ⟨lv,c,h0,h1,h2⟩:=h
  exact ⟨lv,c,ab,h1,h2⟩
theorem Ts.keep {tid:Nat} {R:Rt} {B B':Nat} {h':H} (g:Ts x T tid s R B h) (pg:PgH x s T h') (k:h'.objs tid=h.objs tid) (hB:B≤B'):Ts x T tid s R B' h':=⟨pg,g.ok,k.trans g.ot,g.tx,g.rk.more hB⟩
theorem eC.pre {tid:Nat} {R R':Rt} {B:Nat} {s':PgS} {h1 h':H} (m:eC x T tid s R h1 B s' R' h') (sm:eK x tid h h1) (no:aq h h1) (ln:h.n≤h1.n):eC x T tid s R h B s' R' h':=
 ⟨m.ts,m.mv,m.pl,sm.trans m.sm ln,aq.trans no m.no ln m.ln,Nat.le_trans ln m.ln⟩
theorem eC.none {tid:Nat} {R:Rt} {B:Nat} {h':H} (g:Ts x T tid s R B h') (sm:eK x tid h h') (no:aq h h') (ln:h.n≤h'.n):eC x T tid s R h B s R h':=
 ⟨g,Mv.same rfl rfl rfl rfl,ab,sm,no,ln⟩
theorem eU {tid:Nat} {R:Rt} {B:Nat} (g:Ts x T tid s R B h):oJ h tid:=⟨_,_,_,g.ot⟩
structure fJ (x:PgI) (T:List Nat) (tid:Nat) (s:PgS) (R:Rt) (B:Nat) (h h1:H):Prop where
 ts:Ts x T tid s R B h1
 sm:eK x tid h h1
 no:aq h h1
 ln:h.n≤h1.n
 kp:∀j,j<h.n→h1.objs j=h.objs j
theorem fJ.refl {tid:Nat} {R:Rt} {B:Nat} (g:Ts x T tid s R B h):fJ x T tid s R B h h:=⟨g,fun _ _ _ _=>rfl,aq.refl h,Nat.le_refl _,fun _ _=>rfl⟩
theorem fJ.new {tid:Nat} {R:Rt} {B:Nat} {h1:H} (b:fJ x T tid s R B h h1) (o:Av.Obj):fJ x T tid s R B h (H.new h1 o):=
 ⟨b.ts.keep (b.ts.pg.new o) (aH b.ts.lt) (Nat.le_refl _),b.sm.trans (eK.of bK) b.ln,aq.trans b.no bC b.ln (Nat.le_succ _),Nat.le_succ_of_le b.ln,fun j hj=>(aH (Nat.lt_of_lt_of_le hj b.ln)).trans (b.kp j hj)⟩
end
section
variable {x:PgI} {s:PgS} {T:List Nat} {h:H}
def Er:Rt→Nat
 |none=>0
 |some ⟨L,_⟩=>16*(L+1)
def FF:Rt→Nat
 |none=>0
 |some ⟨L,_⟩=>8*L
structure Full (x:PgI) (T:List Nat) (s:PgS) (m:Nat) (h h':H):Prop where
 fe:8*free s≤m
 ex:∃s',PgH x s' T h'∧bP s'∧Lo s s'∧s'.p.length≤s.p.length+200
 no:aq h h'
 ln:h.n≤h'.n
theorem Lst.full {v:Value} {h':H} {m:Nat} (l:Lst x T s h m v h') (n:h.n≤h'.n) (hm:m≤200):Full x T s m h h':=⟨l.fe,(l.more hm).ex,l.no,n⟩
theorem Full.pre {m:Nat} {h1 h':H} (f:Full x T s m h1 h') (no:aq h h1) (n:h.n≤h1.n):Full x T s m h h':=⟨f.fe,f.ex,aq.trans no f.no n f.ln,Nat.le_trans n f.ln⟩
set_option maxHeartbeats 1000000 in
theorem EO {tid B:Nat} {R:Rt} {key vl:Bs} (g:Ts x T tid s R B h) (hL:∀L t,R=some ⟨L,t⟩→L≤6) (hp:s.p.length+200<900000):
  aM Tryz.prog 24 [.ptr tid 0,.str key,.str vl] h fun q h'=>(∃s' R',eC x T tid s R h (B+1) s' R' h'∧((key.length≤128∧vl.length≤200∧q= .int .i64 0∧aJ R'=fy (aJ R) key vl)∨((128<key.length∨200<vl.length)∧q= .int .i64 2∧R'=R∧s'=s)))∨(key.length≤128∧vl.length≤200∧q= .int .i64 10∧Full x T s (Er R) h h'):=by
 refine f24.cq af ?_
 unfold c24 zz
 have bb:=(((fJ.refl g).new (.cells [.ptr tid 0])).new (.cells [.str key])).new (.cells [.str vl])
 have lt:=g.lt
 have ln3:(H.new (H.new (H.new h (.cells [.ptr tid 0])) (.cells [.str key])) (.cells [.str vl])).n=h.n+1+1+1:=rfl
 have e0:(H.new (H.new (H.new h (.cells [.ptr tid 0])) (.cells [.str key])) (.cells [.str vl])).objs h.n=some (.cells [.ptr tid 0]):=(aH (Nat.lt_succ_of_lt (Nat.lt_succ_self _))).trans ((aH (Nat.lt_succ_self _)).trans bV)
 have e1:(H.new (H.new (H.new h (.cells [.ptr tid 0])) (.cells [.str key])) (.cells [.str vl])).objs (h.n+1)=some (.cells [.str key]):=(aH (Nat.lt_succ_self _)).trans (bV (h:=H.new h (.cells [.ptr tid 0])))
 have e2:(H.new (H.new (H.new h (.cells [.ptr tid 0])) (.cells [.str key])) (.cells [.str vl])).objs (h.n+1+1)=some (.cells [.str vl]):=bV (h:=H.new (H.new h (.cells [.ptr tid 0])) (.cells [.str key]))
 refine Wp.aR (xAd @and_self) ?_
 refine an.nil ?_
 refine Wp.le (s':=⟨tm [(3,.ptr h.n 0),(4,.ptr (h.n+1) 0),(5,.ptr (h.n+1+1) 0)],H.new (H.new (H.new h (.cells [.ptr tid 0])) (.cells [.str key])) (.cells [.str vl])⟩) (aK.of (bL ?_) (OLe.refl _) (fun y hy=>hy) (Nat.le_refl _) (Nat.le_refl _)) ?_
 ·exact xSb
 generalize H.new (H.new (H.new h (.cells [.ptr tid 0])) (.cells [.str key])) (.cells [.str vl])=h3 at*
 have key2:aM Tryz.prog 34 [.ptr tid 0,.clo (.func 54) [] [.ptr (h.n+1) 0,.ptr (h.n+1+1) 0,.ptr h.n 0]] h3 fun q h'=>(∃s' R',eC x T tid s R h3 (B+1) s' R' h'∧((key.length≤128∧vl.length≤200∧q= .int .i64 0∧aJ R'=fy (aJ R) key vl)∨((128<key.length∨200<vl.length)∧q= .int .i64 2∧R'=R∧s'=s)))∨(key.length≤128∧vl.length≤200∧q= .int .i64 10∧Full x T s (Er R) h3 h'):=by
  by_cases hs:key.length≤128∧vl.length≤200
  ·obtain ⟨hk,hv⟩:=hs
   have hc:cG Tryz.prog 54 [.ptr (h.n+1) 0,.ptr (h.n+1+1) 0,.ptr h.n 0] h3 (fun q h'=>∃s' R',eC x T tid s R h3 (B+1) s' R' h'∧aJ R'=fy (aJ R) key vl) (Lst x T s h3 (Er R)):=by
    cases R with
    |none=>exact xd bb.ts e0 e1 e2 (ew g.pg (Nat.le_refl _)) hk hv hp
    |some r=>
     obtain ⟨L,t⟩:=r
     exact xe bb.ts e0 e1 e2 (ew g.pg (Nat.le_refl _)) ab hk hv (hL L t rfl) hp
   rcases hc with hc|⟨v,h',hp1,hm1,l⟩
   rotate_left
   ·obtain rfl:=l.v
    refine (vc (k:=10) (Q:=fun h'=>Full x T s (Er R) h3 h') (eU bb.ts) Tryz.func54 rfl (of_decide_eq_true (by kernel_rfl)) ⟨h',hp1,hm1.1,hm1.2,l.full hm1.1 (by cases R with|none=>exact Nat.zero_le _|some r=>obtain ⟨L,t⟩:=r;have:=hL L t rfl;show 16*(L+1)≤200;omega)⟩).mono ?_
    rintro q h' ⟨rfl,hfu⟩
    exact .inr ⟨hk,hv,rfl,hfu⟩
   refine (vb (eU bb.ts) Tryz.func54 rfl (of_decide_eq_true (by kernel_rfl)) hc).mono ?_
   rintro q h' ⟨rfl,r,s',R',m,e⟩
   exact .inl ⟨s',R',m,.inl ⟨hk,hv,rfl,e⟩⟩
  ·have hs2:128<key.length∨200<vl.length:=by omega
   refine (vc (Q:=fun h'=>h'=h3) (eU bb.ts) Tryz.func54 rfl (of_decide_eq_true (by kernel_rfl)) (CT e1 e2 hs2)).mono ?_
   rintro q h' ⟨rfl,rfl⟩
   exact .inl ⟨s,R,eC.none (bb.ts.keep bb.ts.pg rfl (Nat.le_succ _)) (fun _ _ _ _=>rfl) (aq.refl _) (Nat.le_refl _),.inr ⟨hs2,rfl,rfl,rfl⟩⟩
 refine rf0 e0 ?_
 refine an.aY (vals:=[.ptr tid 0,.clo (.func 54) [] [.ptr (h.n+1) 0,.ptr (h.n+1+1) 0,.ptr h.n 0]]) ae xA4 key2 fun q h4 cs n4 _=>?_
 refine an.evF xAc ?_
 refine an.nil ?_
 refine rf0 @and_self ?_
 refine Wp.ret ?_
 refine ⟨trivial,q,?_,?_⟩
 ·simp only[go_sem]
  exact rfl
 ·rcases cs with ⟨s',R',m,cs⟩|⟨hk,hv,e,f⟩
  ·exact .inl ⟨s',R',m.pre bb.sm bb.no bb.ln,cs⟩
  ·exact .inr ⟨hk,hv,e,f.pre bb.no bb.ln⟩
end
section
variable {x:PgI} {s:PgS} {T:List Nat} {h:H}
theorem xf {tid d:Nat} {r:Int} {lo:Bs} {hi:Option Bs} {i:Nat} {ks vs:List Bs} {key:Bs} (g:PgH x s T h) (ok:bP s) (ht:h.objs tid=some (trO x r)) (htx:Tid x tid) (hi':i<s.np) (hs:stt s i=1∨stt s i=2) (hH:Has s i (aA ks vs)) (hr:right (aA ks vs)=true) (hz:size (aA ks vs)≤1024)
  (hw:∀k∈ks,inB lo hi k) (hfo:bE (aA ks vs) key=true) (hd:d≤20) (hp:s.p.length+16<900000):
  cG Tryz.prog 46 [.ptr tid 0,.int .i64 (i:Int),.int .i64 (d:Int),.str key] h (fun q h'=>∃s' o,q= .int .i64 (opg o)∧Stp x T s h (fun j=>j=i) (fun j=>j∈fb 0 o) 1 s' h'∧yk 0 lo hi ⟨i,ks,vs⟩ key s' o) (Lst x T s h 0):=by
 refine f46.gD af ?_
 unfold c46 zz
 have hlt:tid<h.n:=by
  rcases Nat.lt_or_ge tid h.n with q|q
  ·exact q
  ·rw[g.fresh _ q] at ht;cases ht
 obtain ⟨ks',vs',p1,p3,p4,p6,p7,p8⟩:=Ay hr hfo
 have hsm:=bG (L:=0) hr (by have:size (aA ks vs)≤1024:=hz;show size (aA ks vs)≤1355;omega)
 have cp:=B5 (aA ks vs) hsm.1 hsm.2 key
 rw[p1,hfo] at cp
 have hsm':=bG (L:=0) (ks:=ks') (kids:=vs') p3 (by show size (aA ks' vs')≤1355;omega)
 have hnd:=iP g ok ht hi' (by show stt s i≠0;omega) ab hd hH.1
 rw[hH.2] at hnd
 refine rf0 @and_self ?_
 refine an.aY (vals:=[.ptr tid 0,.int .i64 (i:Int),.int .i64 (d:Int)]) ae xA4 hnd fun q h2 ⟨hq,g2,k2,no2⟩ n2 _=>?_
 subst hq
 have ht2:=(k2 tid ab).trans ht
 have g3:=(g2.new (az (aA ks vs))).new (az (aA ks' vs'))
 have ln3:(H.new (H.new h2 (az (aA ks vs))) (az (aA ks' vs'))).n=h2.n+1+1:=rfl
 have ht3:(H.new (H.new h2 (az (aA ks vs))) (az (aA ks' vs'))).objs tid=some (trO x r):=(aH (Nat.lt_succ_of_lt ab)).trans ((aH ab).trans ht2)
 have sm3:ct x h (H.new (H.new h2 (az (aA ks vs))) (az (aA ks' vs'))):=(dA k2).trans (bK.trans bK (Nat.le_succ _)) ab
 have no3:aq h (H.new (H.new h2 (az (aA ks vs))) (az (aA ks' vs'))):=aq.trans no2 (aq.trans bC bC (Nat.le_succ _) (Nat.le_succ _)) ab ab
 have nn3:=bV (h:=H.new h2 (az (aA ks vs))) (o:=az (aA ks' vs'))
 unfold aC at cp
 unfold aC
 refine an.evF xAc ?_
 rw[bg]
 refine an.nil ?_
 have lks:(strs (aA ks' vs').keys).length=ks'.length:=by simp[strs,aA]
 refine rf1 (cj3 @and_self @Bool.not_true lks) cp ?_
 rw[bg]
 refine Wp.le (s':=⟨tm [(0,.ptr tid 0),(1,.int .i64 i),(10,.ptr (h2.n+1) 0),(34,.bool (decide (((ks'.length:Nat):Int)=0)))],H.new (H.new h2 (az (aA ks vs))) (az (aA ks' vs'))⟩) (aK.of (bL ?_) (OLe.refl _) (fun y hy=>hy) (Nat.le_refl _) (Nat.le_refl _)) ?_
 ·exact xSb
 have nn3:(H.new (H.new h2 (az (aA ks vs))) (az (aA ks' vs'))).objs (h2.n+1)=some (az (aA ks' vs')):=nn3
 generalize H.new (H.new h2 (az (aA ks vs))) (az (aA ks' vs'))=h3 at*
 by_cases hk0:ks'.length=0
 ·have d0:decide (((ks'.length:Nat):Int)=0)=true:=decide_eq_true ab
  have ht4:=ht3
  unfold trO at ht4
  refine rf0 (cj2 ht4 d0) ?_
  refine an.aY (vals:=[.ptr x.P 0,.int .i64 (i:Int)]) ae xA4 (CJ g3 ok hi' hs) fun q h4 ⟨hq,s',st⟩ n4 _=>?_
  subst hq
  refine an.cx xA2 xAb (by exact ⟨Nat.le_refl _,Nat.le_refl _⟩) (dN) ?_
  refine an.nil ?_
  refine rf0 @and_self ?_
  refine Wp.ret ?_
  have st2:=st.pre sm3 no3 ab
  have e0:ks'=[]:=List.length_eq_zero_iff.1 hk0
  refine .inl ⟨trivial,.int .i64 (-1),?_,s',none,rfl,⟨st2.pg,st2.ok,st2.mv.congr (fun j=>Iff.rfl) (fun j=>by simp[fb]),by have:=st2.fr;omega,by have:=st2.pl;omega,st2.sm,st2.no,st2.ln⟩,⟨fun t' e=>(by cases e),fun t' e=>(by cases e),?_,List.nodup_nil,fun t' e=>(by cases e)⟩⟩
  ·simp only[go_sem]
   exact rfl
  ·show []=dS (List.zipWith Pr.mk ks vs) key
   rw[←p7,e0];rfl
 ·have d0:decide (((ks'.length:Nat):Int)=0)=false:=decide_eq_false ab
  unfold az at nn3
  have hz':size (aA ks' vs')≤1024:=by omega
  rcases tr g3 ok ht3 htx hsm'.1 (iQ p3 hz') hi' hs ab with hov|⟨v,h',hp1,hm1,l⟩
  rotate_left
  ·repeat (first
    |((first|apply Wp.aR|apply Wp.cB);(· simp only[go_sem,reduceIte,Nat.reduceEqDiff,Nat.reduceAdd,bx,ax,if_true,if_false,Nat.reduceMul,Nat.reduceLeDiff,nn3,d0];exact rfl);refine an.nil ?_)
    |(apply Wp.bu;(· simp only[go_sem,reduceIte,Nat.reduceEqDiff,Nat.reduceAdd,bx,ax,if_true,if_false,Nat.reduceMul,Nat.reduceLeDiff,nn3,d0];exact rfl);(· rfl))
    |refine Wp.skip ?_
    |refine Wp.label ?_
    |refine Wp.block ?_
    |refine Wp.exit ?_
    |refine Wp.seq ?_)
   refine Wp.dQ (vals:=[.ptr tid 0,.int .i64 (i:Int),aC (aA ks' vs')]) (xAd (cj2 nn3 @aC.eq_1)) xAb (hm1) (hp1) ?_
   exact .inr ⟨_,rfl,l.pre (d:=0) (.refl s) (Nat.le_refl _) (Nat.le_refl _) sm3 no3 ab hm1.1 (Nat.le_refl _)⟩
  refine rf0 (cj2 nn3 d0) ?_
  refine an.aY (vals:=[.ptr tid 0,.int .i64 (i:Int),aC (aA ks' vs')]) ae xA4 hov fun q h4 ⟨s',k,hq,st,hh⟩ n4 _=>?_
  subst hq
  refine an.evF xAc ?_
  refine an.nil ?_
  refine Wp.ret ?_
  have st2:=st.pre sm3 no3 ab
  refine .inl ⟨trivial,.int .i64 (k:Nat),?_,s',some ⟨k,ks',vs'⟩,rfl,⟨st2.pg,st2.ok,st2.mv.congr (fun j=>Iff.rfl) (fun j=>by simp[fb,bp,bf]),st2.fr,st2.pl,st2.sm,st2.no,st2.ln⟩,⟨fun t' e=>(by cases e;exact ⟨hh,trivial⟩),fun t' e=>(by cases e;exact ⟨p3,hz',by show 0<ks'.length;omega,fun k hk=>hw k (p6 k hk)⟩),?_,by simp[fb,bp,bf],fun t' e j=>(by cases e;exact ⟨Nat.le_refl _,Nat.le_refl _⟩)⟩⟩
  ·simp only[go_sem]
   exact rfl
  ·show List.zipWith Pr.mk ks' vs'=dS (List.zipWith Pr.mk ks vs) key
   exact p7
set_option maxHeartbeats 2000000 in
theorem xg {L tid d i c1 c2 c0:Nat} {r:Int} {ks:List Bs} {us:List (Tr L)} {key:Bs} {u:Tr L} {Q:PgS→Option (Tr L)→Prop} {Q2:PgS→Option (Tr L)→PgS→Nat→Prop} {Q3:PgS→PgS→Prop}
  (g:PgH x s T h) (ok:bP s) (ht:h.objs tid=some (trO x r)) (htx:Tid x tid) (hi':i<s.np) (hs:stt s i=1∨stt s i=2) (hH:Has s i (av L ks us)) (hr:right (av L ks us)=true) (hz:size (av L ks us)≤1024)
  (hu:us[place (av L ks us) key]? =some u) (hj:place (av L ks us) key≤ks.length) (hd:d≤20) (hp:s.p.length<900000)
  (ih:∀h1,PgH x s T h1→h1.objs tid=some (trO x r)→cG Tryz.prog 46 [.ptr tid 0,.int .i64 (u.pg:Nat),.int .i64 ((d+1:Nat):Int),.str key] h1 (fun q h'=>∃s1 o,q= .int .i64 (opg o)∧PgH x s1 T h'∧ct x h1 h'∧aq h1 h'∧Q s1 o) (Lst x T s h1 c1))
  (hlo:∀s1 o,Q s1 o→Lo s s1∧s1.p.length≤s.p.length+c2∧8*free s≤8*free s1+c2) (hc1:c1≤c0) (hc2:c2≤c0)
  (hov:∀s1 o h1,Q s1 o→PgH x s1 T h1→h1.objs tid=some (trO x r)→(∀t',o=some t'→t'.pg≠u.pg)→(o=none→2≤us.length)→cG Tryz.prog 78 [.ptr tid 0,.int .i64 (i:Int),aC (av L (dks ks (place (av L ks us) key) o) (dus us (place (av L ks us) key) o))] h1 (fun q h'=>∃s2 k,q= .int .i64 (k:Nat)∧PgH x s2 T h'∧ct x h1 h'∧aq h1 h'∧Q2 s1 o s2 k) (Lst x T s1 h1 0))
  (hrel:∀s1 h1,Q s1 none→us.length=1→PgH x s1 T h1→aM Tryz.prog 48 [.ptr x.P 0,.int .i64 (i:Int)] h1 fun q h'=>q= .int .i64 0∧∃s2,PgH x s2 T h'∧ct x h1 h'∧aq h1 h'∧Q3 s1 s2):
  cG Tryz.prog 46 [.ptr tid 0,.int .i64 (i:Int),.int .i64 (d:Int),.str key] h (fun q h'=>∃s1 o,Q s1 o∧ct x h h'∧aq h h'∧((q= .int .i64 (i:Int)∧(∃t',o=some t'∧t'.pg=u.pg)∧PgH x s1 T h')∨(q= .int .i64 (-1)∧o=none∧us.length=1∧∃s2,PgH x s2 T h'∧Q3 s1 s2)∨((∀t',o=some t'→t'.pg≠u.pg)∧(o=none→2≤us.length)∧∃s2 k,q= .int .i64 (k:Nat)∧PgH x s2 T h'∧Q2 s1 o s2 k))) (Lst x T s h c0):=by
 refine f46.gD af ?_
 unfold c46 zz
 have hlt:tid<h.n:=by
  rcases Nat.lt_or_ge tid h.n with q|q
  ·exact q
  ·rw[g.fresh _ q] at ht;cases ht
 have hsm:=bG (L:=L+1) (ks:=ks) (kids:=us) hr (by show size (av L ks us)≤1355;omega)
 have hul:us.length=ks.length+1:=by
  have q:=((cO (n:=av L ks us) rfl).1 hr).2.2.1
  simpa [av] using q
 refine rf0 @and_self ?_
 have hnd:=Cy g ok ht hi' (by show stt s i≠0;omega) hp hd hH.1 (by rw[hH.2];rfl)
 rw[hH.2] at hnd
 refine an.aY (vals:=[.ptr tid 0,.int .i64 (i:Int),.int .i64 (d:Int)]) ae xA4 hnd fun q h2 ⟨K,c,hq,oc,rK,hc1,hc2,g2,k2,no2⟩ n2 _=>?_
 subst hq
 have hkl:(av L ks us).kids.length=us.length:=by simp[av]
 have hkk:(av L ks us).kids=bQ us:=rfl
 have hks:(av L ks us).keys=ks:=rfl
 rw[hkl]
 rw[hkk] at oc
 rw[hks] at rK
 have ht2:=(k2 tid ab).trans ht
 have hKc:=rK.cell
 have hKc2:=hKc
 unfold aP at hKc
 obtain ⟨nO,hnO⟩:∃nO:Av.Obj,nO= .cells [.bool false,K,.sl 1 [] (.exact 0),.tsl 1 c 0 us.length none]:=⟨_,rfl⟩
 have g3:=g2.new nO
 have ln3:(H.new h2 nO).n=h2.n+1:=rfl
 have ht3:(H.new h2 nO).objs tid=some (trO x r):=(aH ab).trans ht2
 have nn3:=bV (h:=h2) (o:=nO)
 have oc3:(H.new h2 nO).objs c=some (.cells (ints (bQ us))):=(aH hc2).trans oc
 have rK3:dC (H.new h2 nO) h.n K (strs ks) c:=rK.keep (Nat.le_succ _) (fun j a b _=>aH b) (fun a _ h=>h)
 have sm3:ct x h (H.new h2 nO):=(dA k2).trans bK ab
 have no3:aq h (H.new h2 nO):=aq.trans no2 bC ab ab
 have hKd:∀a l c',K= .tsl 1 a 0 l c'→h.n≤a∧a<h2.n∧a≠c:=by
  intro a l c' e
  rcases rK with ⟨-,k2⟩|⟨a',k1,-,k3,k4,k5,-⟩
  ·rw[e] at k2;cases k2
  ·rw[e] at k1;cases k1;exact ⟨k3,k4,k5⟩
 refine an.evF (xAd hKc) ?_
 rw[bg]
 refine an.nil ?_
 refine Wp.le (s':=⟨tm [(0,.ptr tid 0),(1,.int .i64 i),(2,.int .i64 d),(3,.str key),(9,.ptr h2.n 0)],H.new h2 nO⟩) (aK.of (bL ?_) (by rw[hnO];exact OLe.refl _) (fun y hy=>hy) (Nat.le_refl _) (Nat.le_refl _)) ?_
 ·exact xSb
 generalize H.new h2 nO=h3 at*
 rw[hnO] at nn3
 have cf:=CF (key:=key) rK3 oc3 hr hsm.1
 generalize hJ:place (av L ks us) key=J at*
 have hJu:J<us.length:=by omega
 have x1:(0:Int)≤(J:Int):=by omega
 have x2:(J:Int)<(us.length:Int):=by omega
 have wd:IntKind.i64.wrap ((d:Int)+1)=((d+1:Nat):Int):=by rw[IntWalk.i64_in _ ab];rfl
 have hgo:(ints (bQ us))[J]? =some (.int .i64 (u.pg:Nat)):=by
  have:(bQ us)[J]? =some ((u.pg:Nat):Int):=by simp[bQ,hu]
  simp[ints,this]
 rcases ih h3 g3 ht3 with hih|⟨v,h',hp1,hm1,l⟩
 rotate_left
 ·repeat (first
   |((first|apply Wp.aR|apply Wp.cB);(· simp only[go_sem,reduceIte,Nat.reduceEqDiff,Nat.reduceAdd,bx,ax,if_true,if_false,Nat.reduceMul,Nat.reduceLeDiff,nn3,x1,x2,oc3,hgo,wd,Int.toNat_natCast,Nat.mul_one,Nat.zero_add,and_self];exact rfl);(repeat ((first
     |(refine an.cx ?_ ?_ (by constructor<;>first|exact Nat.le_refl _|assumption) (cf) ?_;(· simp only[go_sem,reduceIte,Nat.reduceEqDiff,Nat.reduceAdd,bx]);(· simp only[go_sem,reduceIte,Nat.reduceEqDiff,Nat.reduceAdd,bx,List.map,ax,if_true,if_false,Nat.reduceMul,Nat.reduceLeDiff,nn3,x1,x2,oc3,hgo,wd,Int.toNat_natCast,Nat.mul_one,Nat.zero_add,and_self];first|exact au.refl _|(repeat (first|exact au.nil|refine au.cons xA5 ?_)))));apply an.evF;(· simp only[go_sem,reduceIte,Nat.reduceEqDiff,Nat.reduceAdd,bx,ax,if_true,if_false,Nat.reduceMul,Nat.reduceLeDiff,nn3,x1,x2,oc3,hgo,wd,Int.toNat_natCast,Nat.mul_one,Nat.zero_add,and_self];exact rfl)));refine an.nil ?_)
   |(apply Wp.bu;(· simp only[go_sem,reduceIte,Nat.reduceEqDiff,Nat.reduceAdd,bx,ax,if_true,if_false,Nat.reduceMul,Nat.reduceLeDiff,nn3,x1,x2,oc3,hgo,wd,Int.toNat_natCast,Nat.mul_one,Nat.zero_add,and_self];exact rfl);(· rfl))
   |refine Wp.skip ?_
   |refine Wp.label ?_
   |refine Wp.block ?_
   |refine Wp.exit ?_
   |refine Wp.seq ?_)
  refine Wp.dQ (vals:=[.ptr tid 0,.int .i64 (u.pg:Nat),.int .i64 ((d+1:Nat):Int),.str key]) (xAd (mN nn3 x1 x2 oc3 hgo wd @Int.toNat_natCast @Nat.mul_one @Nat.zero_add @and_self)) xAb (hm1) (hp1) ?_
  exact .inr ⟨_,rfl,l.pre (d:=0) (.refl s) (Nat.le_refl _) (Nat.le_refl _) sm3 no3 ab hm1.1 ab⟩
 refine rg1 (mN nn3 x1 x2 oc3 hgo wd @Int.toNat_natCast @Nat.mul_one @Nat.zero_add @and_self) cf ?_
 refine an.aY (vals:=[.ptr tid 0,.int .i64 (u.pg:Nat),.int .i64 ((d+1:Nat):Int),.str key]) ae xA4 hih fun q h4 ⟨s1,o,hq,g4,sm4,no4,hQ⟩ n4 _=>?_
 subst hq
 have tids:∀j,h.n≤j→Tid x j:=fun j hj=>ew g hj
 have nn4:=(cH sm4 ab (tids h2.n ab)).trans nn3
 have ht4:=(cH sm4 ab htx).trans ht3
 have oc4:=(cH sm4 ab (tids c ab)).trans oc3
 have rK4:=rK3.same sm4 n4 tids
 have sm5:ct x h h4:=sm3.trans sm4 ab
 have no5:aq h h4:=aq.trans no3 no4 ab ab
 refine an.evF xAc ?_
 refine an.nil ?_
 refine Wp.le (s':=⟨tm [(0,.ptr tid 0),(1,.int .i64 i),(9,.ptr h2.n 0),(12,.int .i64 J),(14,.int .i64 (opg o))],h4⟩) (aK.of (bL ?_) (OLe.refl _) (fun y hy=>hy) (Nat.le_refl _) (Nat.le_refl _)) ?_
 ·exact xSb
 clear cf hnd
 by_cases hA:opg o=(u.pg:Nat)
 ·have e1:decide (opg o=((u.pg:Nat):Int))=true:=decide_eq_true hA
  refine rf0 (mN nn4 x1 x2 oc4 hgo e1 @Int.toNat_natCast @Nat.mul_one @Nat.zero_add @and_self) ?_
  refine Wp.ret ?_
  refine .inl ⟨trivial,.int .i64 (i:Int),?_,s1,o,hQ,sm5,no5,.inl ⟨rfl,?_,g4⟩⟩
  ·simp only[go_sem]
   exact rfl
  ·cases o with
   |none=>simp[opg] at hA
   |some t'=>
    have hA:((t'.pg:Nat):Int)=((u.pg:Nat):Int):=hA
    exact ⟨t',rfl,ab⟩
 ·have e1:decide (opg o=((u.pg:Nat):Int))=false:=decide_eq_false hA
  have hkL:(bQ us).length=us.length:=by simp[bQ]
  have x3:J+1≤us.length:=by omega
  have hkl':ks.length≤1000:=hsm.2.k
  by_cases hC:o=none∧us.length=1
  ·obtain ⟨hC1,hC2⟩:=hC
   subst hC1
   have e2:decide ((0:Int)≤opg (none:Option (Tr L)))=false:=decide_eq_false (by simp[opg])
   have e3:decide (((us.length:Nat):Int)=1)=true:=decide_eq_true ab
   have ht5:=ht4
   unfold trO at ht5
   refine rf0 (cT nn4 x1 x2 oc4 hgo e1 e2 e3 ht5 @Int.toNat_natCast @Nat.mul_one (cj2 @Nat.zero_add @and_self)) ?_
   refine an.aY (vals:=[.ptr x.P 0,.int .i64 (i:Int)]) ae xA4 (hrel s1 h4 hQ hC2 g4) fun q h5 ⟨hq,s2,g5,sm5',no5',hQ3⟩ n5 _=>?_
   subst hq
   refine an.cx xA2 xAb (by exact ⟨Nat.le_refl _,Nat.le_refl _⟩) (dN) ?_
   refine an.nil ?_
   refine rf0 @and_self ?_
   refine Wp.ret ?_
   refine .inl ⟨trivial,.int .i64 (-1),?_,s1,none,hQ,sm5.trans sm5' ab,aq.trans no5 no5' ab ab,.inr (.inl ⟨rfl,rfl,hC2,s2,g5,hQ3⟩)⟩
   simp only[go_sem]
   exact rfl
  ·have hne:∀t',o=some t'→t'.pg≠u.pg:=fun t' e e2=>hA (by rw[e,←e2];rfl)
   have hge:o=none→2≤us.length:=fun e=>by
    rcases Nat.lt_or_ge us.length 2 with a|a
    ·exact absurd ⟨e,ab⟩ hC
    ·exact a
   refine Wp.seq (Wp.ex (β:=H × AV × AV) (fun b=>⟨tm [(0,.ptr tid 0),(1,.int .i64 i),(9,.ptr h2.n 0)],b.1⟩) (fun b=>Ndy x T s1 h tid r (fun k=>decide (h.n≤k∧k<h2.n)) h2.n (dks ks J o) (bQ (dus us J o)) b) ?_ ?_)
   ·cases o with
    |some t'=>
     have e2:decide ((0:Int)≤opg (some t'))=true:=decide_eq_true (by simp only[opg];omega)
     refine rf0 (cT nn4 x1 x2 x3 hkL oc4 hgo e1 e2 @Int.toNat_natCast @Nat.mul_one (cj3 @Nat.zero_add @and_self @kD)) ?_
     have hs1:List.take J (ints (bQ us))++[AV.int IntKind.i64 (opg (some t'))]++List.drop (J+1) (ints (bQ us))=ints (bQ (nus us J (t',none))):=by
      rw[←yh (R:=(t',none)) rfl];simp[ints,opg]
     rw[hs1]
     have c1:∀j,j≠c→(upd h4.objs c (some (.cells (ints (bQ (nus us J (t',none)))))):Nat→Option Av.Obj) j=h4.objs j:=fun j hj=>by simp only[upd];rw[if_neg hj]
     have hkn:us.length=(ints (bQ (nus us J (t',none)))).length:=by simp[ints,bQ,nus,rt];omega
     refine ⟨(⟨upd h4.objs c (some (.cells (ints (bQ (nus us J (t',none)))))),h4.n,h4.toks,h4.m⟩,K,.tsl 1 c 0 us.length none),⟨(c1 h2.n ab).trans nn4,hKc2,rfl,?_,?_,?_,(c1 tid ab).trans ht4,fun j hj a1 a2 a3 a4 a5 a6=>(c1 j ab).trans (sm5 j hj a1 a2 a3 a4 a5 a6),?_,by show h2.n<h4.n;omega,by show h.n≤h4.n;omega⟩,aK.tm ?_⟩
     ·have rK5:dC ⟨upd h4.objs c (some (.cells (ints (bQ (nus us J (t',none)))))),h4.n,h4.toks,h4.m⟩ h.n K (strs ks) c:=rK4.keep (Nat.le_refl _) (fun j _ _ hj=>c1 j hj) (fun a _ h=>h)
      exact rK5.unD fun a l c' e=>by have:=hKd a l c' e;simpa using ⟨this.1,this.2.1⟩
     ·show ay (unT _ _ (.tsl 1 c 0 us.length none)) (.sl 1 (ints (bQ (nus us J (t',none)))) .any)
      rw[hkn]
      exact yi (by simp[upd]) (by simpa using ⟨hc1,hc2⟩)
     ·exact g4.other ab (by have:=tids c ab;simp only[Tid,ne_eq,eq_comm] at this ⊢;exact this)
     ·exact aq.trans no5 (aq.set oc4) ab (Nat.le_refl _)
     ·exact xSb
    |none=>
     have e2:decide ((0:Int)≤opg (none:Option (Tr L)))=false:=decide_eq_false (by simp[opg])
     have e3:decide (((us.length:Nat):Int)=1)=false:=decide_eq_false (by have:=hge rfl;omega)
     have wJ:IntKind.i64.wrap ((J:Int)+1)=((J+1:Nat):Int):=by rw[IntWalk.i64_in _ ab];rfl
     have hg2:=hge rfl
     refine rf0 (cT nn4 x1 x2 oc4 hgo e1 e2 e3 wJ @Int.toNat_natCast @Nat.mul_one (cj2 @Nat.zero_add @and_self)) ?_
     have hdl:=Au (h:=h4) (bQ us) J ab ab oc4
     rw[hkL] at hdl
     refine an.aY (vals:=[.tsl 1 c 0 us.length none,.int .i64 (J:Int),.int .i64 ((J+1:Nat):Int)]) ae xA4 hdl fun w h7 ⟨hw,l1,l2,l3,a0,ha0,l4⟩ n7 m7=>?_
     subst hw ha0
     have hwk:(bQ us).take J++(bQ us).drop (J+1)=bQ (wo us J):=by simp[bQ,wo]
     rw[hwk]
     have p7:∀j,j≠a0→h7.objs j=h4.objs j:=fun j hn=>by rw[l4 j,if_neg hn]
     have nn7:=(p7 h2.n ab).trans nn4
     have f7:∀j,h7.n≤j→h7.objs j=none:=fun j hj=>by
      rw[l4 j]
      split
      ·rfl
      ·exact g4.fresh j ab
     have g7:PgH x s1 T h7:=g4.at (fun j hj=>by
      have hj2:j<h.n:=by
       rcases Nat.lt_or_ge j h.n with e|e
       ·exact e
       ·exact absurd (ew g e) hj
      exact p7 j ab) ab f7 l3 ab
     have rK7:dC h7 h.n K (strs ks) a0:=rK4.keep ab (fun j _ _ hj=>p7 j hj) (fun a _ h=>h)
     refine an.evF (xAd nn7) ?_
     refine an.nil ?_
     obtain ⟨h8,hh8⟩:∃h8:H,h8= {h7 with objs:=upd h7.objs h2.n (some (.cells [.bool false,K,.sl 1 [] (.exact 0),.sl 1 (ints (bQ (wo us J))) .any]))}:=⟨_,rfl⟩
     have c8:∀j,j≠h2.n→h8.objs j=h7.objs j:=fun j hj=>by rw[hh8];simp only[upd];rw[if_neg hj]
     have nn8:h8.objs h2.n=some (.cells [.bool false,K,.sl 1 [] (.exact 0),.sl 1 (ints (bQ (wo us J))) .any]):=by rw[hh8];simp[upd]
     have n8:h8.n=h7.n:=by rw[hh8]
     have g8:PgH x s1 T h8:=by
      rw[hh8]
      exact g7.other ab (by have:=tids h2.n ab;simp only[Tid,ne_eq,eq_comm] at this ⊢;exact this)
     have rK8:dC h8 h.n K (strs ks) a0:=rK7.GV ab (fun a l c' e=>c8 a (by have:=hKd a l c' e;omega))
     rw[←hh8]
     refine Wp.le (s':=⟨tm [(0,.ptr tid 0),(1,.int .i64 i),(9,.ptr h2.n 0),(12,.int .i64 J)],h8⟩) (aK.of (bL ?_) (OLe.refl _) (fun y hy=>hy) (Nat.le_refl _) (Nat.le_refl _)) ?_
     ·exact xSb
     clear hh8
     have wm:IntKind.i64.wrap ((J:Int) - 1)=(J:Int) - 1:=IntWalk.i64_in _ ab
     have em:(if (0:Int)<(J:Int) - 1 then (J:Int) - 1 else 0)=((J - 1:Nat):Int):=by split<;>omega
     have wJ2:IntKind.i64.wrap (((J - 1:Nat):Int)+1)=((J - 1+1:Nat):Int):=by rw[IntWalk.i64_in _ ab];rfl
     refine rf0 (cj5 nn8 hKc wm em wJ2) ?_
     refine an.aY (vals:=[K,.int .i64 ((J - 1:Nat):Int),.int .i64 ((J - 1+1:Nat):Int)]) ae xA4 (At ks (J - 1) ab ab rK8) fun w h9 ⟨hw,l5,l6,l7,b0,hb0,l8⟩ n9 m9=>?_
     subst hw
     have hb:=hKd _ _ _ hb0
     have p9:∀j,j≠b0→h9.objs j=h8.objs j:=fun j hn=>by rw[l8 j,if_neg hn]
     have nn9:=(p9 h2.n ab).trans nn8
     have f9:∀j,h9.n≤j→h9.objs j=none:=fun j hj=>by
      rw[l8 j]
      split
      ·rfl
      ·exact g8.fresh j ab
     have g9:PgH x s1 T h9:=g8.at (fun j hj=>by
      have hj2:j<h.n:=by
       rcases Nat.lt_or_ge j h.n with e|e
       ·exact e
       ·exact absurd (ew g e) hj
      exact p9 j ab) ab f9 l7 ab
     refine an.evF (xAd nn9) ?_
     refine an.nil ?_
     have cA:∀j,j≠h2.n→(upd h9.objs h2.n (some (.cells [.bool false,.sl 1 (strs (ks.take (J - 1)++ks.drop (J - 1+1))) .any,.sl 1 [] (.exact 0),.sl 1 (ints (bQ (wo us J))) .any])):Nat→Option Av.Obj) j=h9.objs j:=fun j hj=>by simp only[upd];rw[if_neg hj]
     have pA:∀j,j≠h2.n→j≠a0→j≠b0→(upd h9.objs h2.n (some (.cells [.bool false,.sl 1 (strs (ks.take (J - 1)++ks.drop (J - 1+1))) .any,.sl 1 [] (.exact 0),.sl 1 (ints (bQ (wo us J))) .any])):Nat→Option Av.Obj) j=h4.objs j:=fun j e1 e2 e3=>(cA j e1).trans ((p9 j e3).trans ((c8 j e1).trans (p7 j e2)))
     refine ⟨(⟨upd h9.objs h2.n (some (.cells [.bool false,.sl 1 (strs (ks.take (J - 1)++ks.drop (J - 1+1))) .any,.sl 1 [] (.exact 0),.sl 1 (ints (bQ (wo us J))) .any])),h9.n,h9.toks,h9.m⟩,.sl 1 (strs (ks.take (J - 1)++ks.drop (J - 1+1))) .any,.sl 1 (ints (bQ (wo us J))) .any),⟨by simp[upd],rfl,rfl,by simp only[unT];exact ay.refl _,by simp only[unT];exact ay.refl _,?_,(pA tid ab ab ab).trans ht4,?_,?_,by show h2.n<h9.n;omega,by show h.n≤h9.n;omega⟩,aK.tm ?_⟩
     ·exact g9.other ab (by have:=tids h2.n ab;simp only[Tid,ne_eq,eq_comm] at this ⊢;exact this)
     ·exact fun j hj a1 a2 a3 a4 a5 a6=>(pA j ab ab ab).trans (sm5 j hj a1 a2 a3 a4 a5 a6)
     ·refine aq.trans (fun j hj=>?_) (aq.set nn9) (show h.n≤h9.n by omega) (Nat.le_refl _)
      rw[l8 j] at hj
      split at hj
      ·cases hj
      ·by_cases e2:j=h2.n
       ·exact .inr ⟨ab,ab⟩
       ·rw[c8 j e2,l4 j] at hj
        split at hj
        ·cases hj
        ·exact (no5 j hj).imp id fun z=>⟨z.1,ab⟩
     ·exact xSb
   ·rintro b s' nd le
    refine Wp.le le ?_
    have hdK:∀k,decide (h.n≤k∧k<h2.n)=true→h.n≤k∧k<h2.n:=fun k hk=>of_decide_eq_true hk
    have d1:decide (h.n≤tid∧tid<h2.n)=false:=decide_eq_false ab
    have d3:decide (h.n≤h2.n∧h2.n<h2.n)=false:=decide_eq_false ab
    obtain ⟨h8,le8,nn8,g8,ht8,sm8,no8,n8,k8⟩:=nd.go (l:=[(0,.ptr tid 0),(1,.int .i64 i),(9,.ptr h2.n 0)]) (t:=tm [(0,.ptr tid 0),(1,.int .i64 i),(9,.ptr h2.n 0)]) g hdK hlt ab (by
     simp only[ba,go_sem,reduceIte,Nat.reduceEqDiff,unT,d1,d3,Bool.false_eq_true,if_false]
     exact ⟨ay.refl _,ay.refl _,ay.refl _,trivial⟩) (by
     exact xSb
     )
    refine Wp.le le8 ?_
    have nb:=nd.ln
    unfold az at nn8
    rcases hov s1 o h8 hQ g8 ht8 hne hge with hov|⟨v,h',hp1,hm1,l⟩
    rotate_left
    ·repeat (first
      |((first|apply Wp.aR|apply Wp.cB);(· simp only[go_sem,reduceIte,Nat.reduceEqDiff,Nat.reduceAdd,bx,ax,if_true,if_false,Nat.reduceMul,Nat.reduceLeDiff,nn8];exact rfl);refine an.nil ?_)
      |(apply Wp.bu;(· simp only[go_sem,reduceIte,Nat.reduceEqDiff,Nat.reduceAdd,bx,ax,if_true,if_false,Nat.reduceMul,Nat.reduceLeDiff,nn8];exact rfl);(· rfl))
      |refine Wp.skip ?_
      |refine Wp.label ?_
      |refine Wp.block ?_
      |refine Wp.exit ?_
      |refine Wp.seq ?_)
     refine Wp.dQ (vals:=[.ptr tid 0,.int .i64 (i:Int),aC (av L (dks ks J o) (dus us J o))]) (xAd (cj2 nn8 @aC.eq_1)) xAb (hm1) (hp1) ?_
     exact .inr ⟨_,rfl,l.pre (hlo s1 o hQ).1 (hlo s1 o hQ).2.1 (hlo s1 o hQ).2.2 sm8 no8 ab hm1.1 ab⟩
    refine rf0 nn8 ?_
    refine an.aY (vals:=[.ptr tid 0,.int .i64 (i:Int),aC (av L (dks ks J o) (dus us J o))]) ae xA4 hov fun q h9 ⟨s2,k,hq,g9,sm9,no9,hQ2⟩ n9 _=>?_
    subst hq
    refine an.evF xAc ?_
    refine an.nil ?_
    refine Wp.ret ?_
    refine .inl ⟨trivial,.int .i64 (k:Nat),?_,s1,o,hQ,sm8.trans sm9 ab,aq.trans no8 no9 ab n9,.inr (.inr ⟨hne,hge,s2,k,rfl,g9,hQ2⟩)⟩
    simp only[go_sem]
    exact rfl
end
section
variable {x:PgI} {T:List Nat}
def xh (x:PgI) (T:List Nat) (L:Nat) (t:Tr L) (lo:Bs) (hi:Option Bs) (s:PgS) (h:H) (tid d:Nat) (r:Int) (key:Bs):Prop:=
 PgH x s T h→bP s→h.objs tid=some (trO x r)→Tid x tid→Live s L lo hi t→inB lo hi key→(∃p∈aN L t,p.k=key)→d+L≤20→s.p.length+16*(L+1)<900000→
  cG Tryz.prog 46 [.ptr tid 0,.int .i64 (t.pg:Nat),.int .i64 (d:Nat),.str key] h (fun q h'=>∃s' o,q= .int .i64 (opg o)∧Stp x T s h (fun j=>j∈bp L t) (fun j=>j∈fb L o) (L+1) s' h'∧yk L lo hi t key s' o) (Lst x T s h (8*L))
theorem vf {L:Nat} {i:Nat} {ks:List Bs} {us:List (Tr L)} {lo:Bs} {hi:Option Bs} {s:PgS} {h:H} {tid d:Nat} {r:Int} {key:Bs} (ih:∀(u:Tr L) lo hi h,xh x T L u lo hi s h tid (d+1) r key):xh x T (L+1) (mkT L i ks us) lo hi s h tid d r key:=by
  intro g ok ht htx lv hb hex hd hp
  obtain ⟨hr,hz,hw⟩:=lv.wf
  have hw:bH (WF L) lo hi ks us:=hw
  have hr:right (av L ks us)=true:=hr
  have hz:size (av L ks us)≤1024:=hz
  obtain ⟨hs,hi'⟩:=lv.st i (by show i∈i::bf (L+1) us;simp)
  obtain ⟨pa1,pa2,pa3⟩:=gr (key:=key) hr
  obtain ⟨u,hu,wu,-⟩:=hw.at pa3
  obtain ⟨cp1,cp2,cp3⟩:=iJ hw hb _ pa3 pa1 pa2
  have hum:u∈us:=List.mem_of_getElem? hu
  have hpg:=gK (i:=i) (ks:=ks) hu
  have hnd:=lv.nd
  have hst:=lv.st
  rw[hpg] at hnd hst
  have hpr:aN (L+1) (mkT L i ks us)=((us.take (place (av L ks us) key)).map (aN L)).flatten++(aN L u++((us.drop (place (av L ks us) key+1)).map (aN L)).flatten):=nz (f:=aN L) hu
  have hexu:∃p∈aN L u,p.k=key:=by
   obtain ⟨p,hp,e⟩:=hex
   rw[hpr] at hp
   simp only[List.mem_append] at hp
   rcases hp with hp|hp|hp
   ·exact absurd e (ne_of_lt (cp1 p hp))
   ·exact ⟨p,hp,e⟩
   ·exact absurd e.symm (ne_of_lt (cp2 p hp))
  have hon:∀u∈us,On s L u:=dT.1 lv.on.2
  have lu:Live s L (dM lo ks (place (av L ks us) key)) (eR hi ks (place (av L ks us) key)) u:=by
   refine ⟨hon u hum,wu,?_,fun j hj=>hst j (by simp[hj])⟩
   simp only[List.nodup_cons,List.nodup_append] at hnd
   exact hnd.2.2.1.1
  have hpA:∀v∈us,v.pg<16384:=fun v hv=>by
   have:=(lv.st v.pg (by
    show v.pg∈i::bf (L+1) us
    exact List.mem_cons_of_mem _ (gu hv _ (by simp[bp])))).2
   have:=ok.np1
   omega
  have hH:Has s i (av L ks us):=lv.on.1
  have prep:∀s1 (o:Option (Tr L)),Mv s s1 (fun j=>j∈bp L u) (fun j=>j∈fb L o)→yk L (dM lo ks (place (av L ks us) key)) (eR hi ks (place (av L ks us) key)) u key s1 o→(o=none→2≤us.length)→
    bH (WF L) lo hi (dks ks (place (av L ks us) key) o) (dus us (place (av L ks us) key) o)∧right (av L (dks ks (place (av L ks us) key) o) (dus us (place (av L ks us) key) o))=true∧size (av L (dks ks (place (av L ks us) key) o) (dus us (place (av L ks us) key) o))≤1024:=by
   intro s1 o o2 o5 hn
   have md:=oe o2 hnd o5.nd hst
   refine xb hw hr hz pa3 o5.wf hn hpA fun v hv=>?_
   cases o with
   |none=>simp[ol] at hv
   |some t=>
    simp only[ol,List.mem_singleton] at hv
    subst hv
    have:=(md.st v.pg (by simp[fb,bp])).2
    have:=ok.np1
    omega
  have W:=xg (c1:=8*L) (c2:=8*(L+1)) (c0:=8*(L+1)) (Q:=fun s1 o=>bP s1∧Mv s s1 (fun j=>j∈bp L u) (fun j=>j∈fb L o)∧free s≤free s1+(L+1)∧s1.p.length≤s.p.length+8*(L+1)∧yk L (dM lo ks (place (av L ks us) key)) (eR hi ks (place (av L ks us) key)) u key s1 o)
   (Q2:=fun s1 o s2 k=>bP s2∧Mv s1 s2 (fun j=>j=i) (fun j=>j=k)∧free s1≤free s2+1∧s2.p.length≤s1.p.length+8∧Has s2 k (av L (dks ks (place (av L ks us) key) o) (dus us (place (av L ks us) key) o)))
   (Q3:=fun s1 s2=>bP s2∧Mv s1 s2 (fun j=>j=i) (fun _=>False)∧free s1≤free s2∧s2.p.length≤s1.p.length) g ok ht htx hi' hs hH hr hz hu pa3 ab ab
   (fun h1 g1 ht1=>(ih u _ _ h1 g1 ok ht1 htx lu cp3 hexu ab ab).mono (fun q h' ⟨s1,o,e,st,pr⟩=>⟨s1,o,e,st.pg,st.sm,st.no,st.ok,st.mv,st.fr,st.pl,pr⟩) (fun _ _ e=>e)) (fun s1 o q=>⟨q.2.1.lo,q.2.2.2.1,by have:=q.2.2.1;omega⟩) ab ab
   (fun s1 o h1 ⟨o1,o2,o3,o4,o5⟩ g1 ht1 hne hge=>by
    have md:=oe o2 hnd o5.nd hst
    obtain ⟨c1,c2,c3⟩:=prep s1 o o2 o5 hge
    have e1:=(md.bt i (.inl rfl)).1
    have e2:=o2.np
    have sm:=bG (L:=L+1) (ks:=dks ks (place (av L ks us) key) o) (kids:=dus us (place (av L ks us) key) o) c2 (by show size (av L _ _)≤1355;omega)
    exact (tr g1 o1 ht1 htx sm.1 (iQ c2 c3) ab ab ab).mono (fun q h' ⟨s2,k,e,st,hh⟩=>⟨s2,k,e,st.pg,st.sm,st.no,st.ok,st.mv,st.fr,st.pl,hh⟩) (fun _ _ e=>e))
   (fun s1 h1 ⟨o1,o2,o3,o4,o5⟩ h1' g1=>by
    have md:=oe o2 hnd o5.nd hst
    have e1:=(md.bt i (.inl rfl)).1
    have e2:=o2.np
    exact (CJ g1 o1 (i:=i) ab ab).mono fun q h' ⟨e,s2,st⟩=>⟨e,s2,st.pg,st.sm,st.no,st.ok,st.mv,st.fr,by have:=st.pl;omega⟩)
  rcases W with ⟨q,h',ca,n1,m1,s1,o,⟨o1,o2,o3,o4,o5⟩,sm,no,cs⟩|w
  rotate_left
  ·exact .inr w
  refine .inl ⟨q,h',ca,n1,m1,?_⟩
  clear ca ih
  have md:=oe o2 hnd o5.nd hst
  have hpo:xa L o=dS (aN L u) key:=by
   have:=o5.ps
   cases o<;>exact this
  have hps:((dus us (place (av L ks us) key) o).map (aN L)).flatten=dS (aN (L+1) (mkT L i ks us)) key:=by
   rw[hpr,rR cp1 cp2,u6,CM,hpo]
  have hkA:∀v∈dus us (place (av L ks us) key) o,On s1 L v:=by
   intro v hv
   rw[qt] at hv
   simp only[List.mem_append] at hv
   rcases hv with hv|hv|hv
   ·exact (hon v (List.mem_of_mem_take hv)).congr fun j hj=>(md.bt j (.inr (.inl (gu hv j hj)))).2
   ·cases o with
    |none=>simp[ol] at hv
    |some t=>simp only[ol,List.mem_singleton] at hv;subst hv;exact o5.on v rfl
   ·exact (hon v (List.mem_of_mem_drop hv)).congr fun j hj=>(md.bt j (.inr (.inr (gu hv j hj)))).2
  have hpn:bf (L+1) (dus us (place (av L ks us) key) o)=((us.take (place (av L ks us) key)).map (bp L)).flatten++(fb L o++((us.drop (place (av L ks us) key+1)).map (bp L)).flatten):=by
   rw[eJ,u6,CL]
  have prep2:=prep s1 o o2 o5
  clear prep
  generalize hJ:place (av L ks us) key=J at*
  rcases cs with ⟨rfl,⟨t',e1,e2⟩,gp⟩|⟨rfl,e1,e2,s2,gp,u1,u2,u3,u4⟩|⟨hne,hge,s2,k,rfl,gp,u1,u2,u3,u4,u5⟩
  ·subst e1
   obtain ⟨c1,c2,c3⟩:=prep2 (fun e=>by cases e)
   have hin:av L ks (dus us J (some t'))=av L ks us:=u0 (R:=(t',none)) hu e2 rfl ks
   refine ⟨s1,some (mkT L i ks (dus us J (some t'))),rfl,⟨gp,o1,md.mv.congr (fun j=>by rw[hpg]) (fun j=>?_),ab,ab,sm,no,n1⟩,⟨fun t e=>?_,fun t e=>?_,?_,?_,fun t e j=>?_⟩⟩
   ·show j∈(i::bf (L+1) (dus us J (some t')))↔_
    rw[hpn]
   ·cases e
    refine ⟨?_,dT.2 hkA⟩
    show Has s1 i (av L ks (dus us J (some t')))
    rw[hin]
    exact hH.congr (md.bt i (.inl rfl)).2
   ·cases e
    exact ⟨c2,c3,c1⟩
   ·show ((dus us J (some t')).map (aN L)).flatten=_
    rw[hps]
   ·show (i::bf (L+1) (dus us J (some t'))).Nodup
    rw[hpn]
    exact md.nd
   ·cases e
    exact u7 hu o5.cnt j
  ·subst e1
   obtain ⟨w1,w2⟩:=Eo e2 hu
   have hq0:∀j,j∈bf (L+1) (dus us J none)→¬j=i:=by
    intro j hj e
    rw[hpn] at hj
    subst e
    exact (List.nodup_cons.1 md.nd).1 hj
   have m1':Mv s s1 (fun j=>j∈bp (L+1) (mkT L i ks us)) (fun j=>j=i):=md.mv.congr (fun j=>by rw[hpg]) (fun j=>by rw[w1,w2];simp[fb])
   refine ⟨s2,none,rfl,⟨gp,u1,(m1'.trans u2).congr (fun j=>Iff.rfl) (fun j=>by simp[fb]),ab,ab,sm,no,n1⟩,⟨fun t e=>(by cases e),fun t e=>(by cases e),?_,List.nodup_nil,fun t e=>(by cases e)⟩⟩
   show []=_
   rw[←hps,qt,w1,w2]
   simp[ol]
  ·obtain ⟨c1,c2,c3⟩:=prep2 hge
   have hq0:∀j,j∈bf (L+1) (dus us J o)→¬j=i:=by
    intro j hj e
    rw[hpn] at hj
    subst e
    exact (List.nodup_cons.1 md.nd).1 hj
   have hq1:∀j,j∈bf (L+1) (dus us J o)→stt s1 j≠0:=by
    intro j hj
    rw[hpn] at hj
    have:=(md.st j (List.mem_cons_of_mem _ hj)).1
    omega
   have ap:=u2.apart (Q:=fun j=>j∈bf (L+1) (dus us J o)) hq0 hq1
   have mm:=u2.ext (Q:=fun j=>j∈bf (L+1) (dus us J o)) hq0 hq1
   have m1':Mv s s1 (fun j=>j∈bp (L+1) (mkT L i ks us)) (fun j=>j=i∨j∈bf (L+1) (dus us J o)):=md.mv.congr (fun j=>by rw[hpg]) (fun j=>by rw[hpn];simp)
   have hnk:(bf (L+1) (dus us J o)).Nodup:=by rw[hpn];exact (List.nodup_cons.1 md.nd).2
   have hk2:∀v∈dus us J o,On s2 L v:=fun v hv=>(hkA v hv).congr fun j hj=>(ap j (by rw[eJ];exact gu hv j hj)).2.2
   refine ⟨s2,some (mkT L k (dks ks J o) (dus us J o)),rfl,⟨gp,u1,(m1'.trans mm).congr (fun j=>Iff.rfl) (fun j=>?_),ab,ab,sm,no,n1⟩,⟨fun t e=>?_,fun t e=>?_,?_,?_,fun t e j=>?_⟩⟩
   ·show j∈(k::bf (L+1) (dus us J o))↔_
    simp
   ·cases e
    exact ⟨u5,dT.2 hk2⟩
   ·cases e
    exact ⟨c2,c3,c1⟩
   ·show ((dus us J o).map (aN L)).flatten=_
    rw[hps]
   ·show (k::bf (L+1) (dus us J o)).Nodup
    exact List.nodup_cons.2 ⟨fun hm=>(ap _ hm).1 rfl,hnk⟩
   ·cases e
    exact u7 hu o5.cnt j
theorem CU:∀(L:Nat) (t:Tr L) (lo:Bs) (hi:Option Bs) (s:PgS) (h:H) (tid d:Nat) (r:Int) (key:Bs),xh x T L t lo hi s h tid d r key
 |0,t,lo,hi,s,h,tid,d,r,key=>fun g ok ht htx lv hb hex hd hp=>by
  obtain ⟨i,ks,vs⟩:=(t:Nd Bs)
  obtain ⟨h1,h2,h3,h4⟩:=lv.wf
  obtain ⟨hs,hi'⟩:=lv.st i (by simp[bp])
  refine (xf (lo:=lo) (hi:=hi) g ok ht htx hi' hs lv.on.1 h1 h2 h4 ((qp h1).2 hex) ab ab).mono ?_ (fun _ _ e=>e.more ab)
  rintro q h' ⟨s',o,rfl,st,pr⟩
  exact ⟨s',o,rfl,⟨st.pg,st.ok,st.mv.congr (fun j=>by simp[bp,bf]) (fun j=>Iff.rfl),st.fr,st.pl,st.sm,st.no,st.ln⟩,pr⟩
 |L+1,t,lo,hi,s,h,tid,d,r,key=>vf (i:=t.pg) (ks:=t.ks) (us:=t.kids) fun u lo hi h=>CU L u lo hi s h tid (d+1) r key
end
section
variable {x:PgI} {s:PgS} {T:List Nat}
def oN (x:PgI) (T:List Nat) (s:PgS) (f:FuncId) (args:List AV) (h:H) (k:Int):Prop:=∃h',cV Tryz.prog f args h (jo k) h'∧(h.n≤h'.n∧h.m≤h'.m)∧PgH x s T h'∧Kept h h'∧aq h h'
theorem xi {L:Nat} {ks:List Bs} {us:List (Tr L)} {key:Bs} (hr:right (av L ks us)=true) (hn:Nb (av L ks us)):
  bc Tryz.prog 42 [aC (av L ks us),.str key] (.tup [.int .i64 (place (av L ks us) key:Nat),.bool false]):=by
 have f:=nQ (av L ks us) hn key
 have e1:dR (av L ks us) key=place (av L ks us) key:=by unfold dR;rw[if_pos hr]
 have e2:bE (av L ks us) key=false:=by unfold bE found;simp[av]
 rw[e1,e2] at f
 exact f
theorem vg:∀(L:Nat) (t:Tr L) (lo:Bs) (hi:Option Bs) (h:H) (tid d:Nat) (r:Int) (key:Bs),PgH x s T h→bP s→h.objs tid=some (trO x r)→Live s L lo hi t→inB lo hi key→(∀p∈aN L t,p.k≠key)→d+L≤20→s.p.length<900000→
  oN x T s 46 [.ptr tid 0,.int .i64 (t.pg:Nat),.int .i64 (d:Nat),.str key] h 7
 |0,t,lo,hi,h,tid,d,r,key,g,ok,ht,lv,hb,hno,hd,hp=>by
  obtain ⟨i,ks,vs⟩:=(t:Nd Bs)
  obtain ⟨hr,hz,h3,h4⟩:=lv.wf
  have hr:right (aA ks vs)=true:=hr
  have hz:size (aA ks vs)≤1024:=hz
  obtain ⟨hs,hi'⟩:=lv.st i (by simp[bp])
  have hH:Has s i (aA ks vs):=lv.on.1
  have hfo:bE (aA ks vs) key=false:=by
   cases e:bE (aA ks vs) key with
   |false=>rfl
   |true=>
    obtain ⟨p,hp,e2⟩:=(qp hr).1 e
    exact absurd e2 (hno p hp)
  have hsm:=bG (L:=0) hr (by show size (aA ks vs)≤1355;omega)
  have cp:=B5 (aA ks vs) hsm.1 hsm.2 key
  rw[hfo] at cp
  have e9:oG (aA ks vs) key=gY:=by unfold oG;rw[hfo];rfl
  rw[e9] at cp
  have hnd:=iP g ok ht hi' (by show stt s i≠0;omega) hp ab hH.1
  rw[hH.2] at hnd
  obtain ⟨v,h',hc,hn,rfl,hq⟩:=aW.mP (Q:=fun v h'=>v=jo 7∧PgH x s T h'∧Kept h h'∧aq h h') (args:=[.ptr tid 0,.int .i64 (i:Nat),.int .i64 (d:Nat),.str key]) (h:=h) f46 af (by
   unfold c46 zz
   refine rf0 @and_self ?_
   refine an.aY (vals:=[.ptr tid 0,.int .i64 (i:Int),.int .i64 (d:Int)]) ae xA4 hnd fun q h2 ⟨hq,g2,k2,no2⟩ n2 _=>?_
   subst hq
   have g3:=(g2.new (az (aA ks vs))).new (az gY)
   have k3:Kept h (H.new (H.new h2 (az (aA ks vs))) (az gY)):=fun j hj=>(aH (Nat.lt_succ_of_lt ab)).trans ((aH ab).trans (k2 j hj))
   have no3:aq h (H.new (H.new h2 (az (aA ks vs))) (az gY)):=aq.trans no2 (aq.trans bC bC (Nat.le_succ _) (Nat.le_succ _)) ab (Nat.le_add_right _ 2)
   unfold aC at cp
   unfold aC
   refine an.evF xAc ?_
   rw[bg]
   refine an.nil ?_
   have hlf:(aA ks vs).leaf=true:=rfl
   refine Wp.seq ?_
   refine Wp.aR (xAd hlf) ?_
   refine an.nil ?_
   refine Wp.cond_true (by simp only[go_sem,reduceIte,Nat.reduceEqDiff,Nat.reduceAdd,bx,hlf]) ?_
   refine Wp.aR (xAd @and_self) ?_
   refine an.cd ae xA4 cp ?_
   refine an.evF xAc ?_
   rw[bg]
   refine an.nil ?_
   refine Wp.le (s':=⟨tm [(11,.bool false)],H.new (H.new h2 (az (aA ks vs))) (az gY)⟩) (aK.of (bL ?_) (OLe.refl _) (fun y hy=>hy) (Nat.le_refl _) (Nat.le_refl _)) ?_
   ·exact xSb
   have ln3:(H.new (H.new h2 (az (aA ks vs))) (az gY)).n=h2.n+1+1:=rfl
   generalize H.new (H.new h2 (az (aA ks vs))) (az gY)=h3 at*
   refine Wp.seq (Wp.seq ?_)
   refine Wp.cB (xAd @Bool.not_false) ?_
   refine an.nil ?_
   refine Wp.cond_true (by simp only[go_sem,reduceIte,Nat.reduceEqDiff,Nat.reduceAdd,bx,Bool.not_false]) ?_
   refine Wp.pN (aZ.eval (dg xA1) ?_)
   refine aZ.here (R:=fun v h'=>∃v',aQ.panic v= .panic v'∧v'=jo 7∧PgH x s T h'∧Kept h h'∧aq h h') (en:=aT) rfl (bF _) (fun ops i o ho hit=>fl ho hit rfl rfl rfl) (fun l hl=>by cases hl) ?_
   exact ⟨_,rfl,rfl,g3,k3,no3⟩)
  exact ⟨h',hc,hn,hq⟩
 |L+1,t,lo,hi,h,tid,d,r,key,g,ok,ht,lv,hb,hno,hd,hp=>by
  obtain ⟨i,ks,us'⟩:=t
  have key0:∀us:List (Tr L),Live s (L+1) lo hi (mkT L i ks us)→(∀p∈aN (L+1) (mkT L i ks us),p.k≠key)→oN x T s 46 [.ptr tid 0,.int .i64 (i:Nat),.int .i64 (d:Nat),.str key] h 7:=by
   intro us lv hno
   obtain ⟨hr,hz,hw⟩:=lv.wf
   have hw:bH (WF L) lo hi ks us:=hw
   have hr:right (av L ks us)=true:=hr
   have hz:size (av L ks us)≤1024:=hz
   obtain ⟨hs,hi'⟩:=lv.st i (by show i∈i::bf (L+1) us;simp)
   obtain ⟨pa1,pa2,pa3⟩:=gr (key:=key) hr
   obtain ⟨u,hu,wu,-⟩:=hw.at pa3
   obtain ⟨cp1,cp2,cp3⟩:=iJ hw hb _ pa3 pa1 pa2
   have hum:u∈us:=List.mem_of_getElem? hu
   have hpg:=gK (i:=i) (ks:=ks) hu
   have hnd:=lv.nd
   have hst:=lv.st
   rw[hpg] at hnd hst
   have hpr:aN (L+1) (mkT L i ks us)=((us.take (place (av L ks us) key)).map (aN L)).flatten++(aN L u++((us.drop (place (av L ks us) key+1)).map (aN L)).flatten):=nz (f:=aN L) hu
   have hnu:∀p∈aN L u,p.k≠key:=fun p hp=>hno p (by rw[hpr];simp[hp])
   have lu:Live s L (dM lo ks (place (av L ks us) key)) (eR hi ks (place (av L ks us) key)) u:=by
    refine ⟨(dT.1 lv.on.2) u hum,wu,?_,fun j hj=>hst j (by simp[hj])⟩
    simp only[List.nodup_cons,List.nodup_append] at hnd
    exact hnd.2.2.1.1
   have hH:Has s i (av L ks us):=lv.on.1
   have hsm:=bG (L:=L+1) (ks:=ks) (kids:=us) hr (by show size (av L ks us)≤1355;omega)
   have cf:=xi (key:=key) hr hsm.1
   have hnd2:=iP (d:=d) g ok ht hi' (by show stt s i≠0;omega) hp ab hH.1
   rw[hH.2] at hnd2
   have hul:us.length=ks.length+1:=hw.len
   generalize hJ:place (av L ks us) key=J at*
   obtain ⟨v,h',hc,hn,rfl,hq⟩:=aW.mP (Q:=fun v h'=>v=jo 7∧PgH x s T h'∧Kept h h'∧aq h h') (args:=[.ptr tid 0,.int .i64 (i:Nat),.int .i64 (d:Nat),.str key]) (h:=h) f46 af (by
    unfold c46 zz
    have hlt:tid<h.n:=g.ltn (by rw[ht];rfl)
    have x1:(0:Int)≤(J:Int):=by omega
    have x2:(J:Int)<((av L ks us).kids.length:Int):=by simp[av];omega
    have wd:IntKind.i64.wrap ((d:Int)+1)=((d+1:Nat):Int):=by rw[IntWalk.i64_in _ ab];rfl
    have hgo:(ints (av L ks us).kids).getD J .any= .int .i64 (u.pg:Nat):=by
     have:(bQ us)[J]? =some ((u.pg:Nat):Int):=by simp[bQ,hu]
     show (ints (bQ us)).getD J .any=_
     simp[ints,List.getD,this]
    refine rf0 @and_self ?_
    refine an.aY (vals:=[.ptr tid 0,.int .i64 (i:Int),.int .i64 (d:Int)]) ae xA4 hnd2 fun q h2 ⟨hq,g2,k2,no2⟩ n2 _=>?_
    subst hq
    have g3:=g2.new (az (av L ks us))
    have k3:Kept h (H.new h2 (az (av L ks us))):=fun j hj=>(aH ab).trans (k2 j hj)
    have no3:aq h (H.new h2 (az (av L ks us))):=aq.trans no2 bC ab (Nat.le_succ _)
    have nn3:=bV (h:=h2) (o:=az (av L ks us))
    have ln3:(H.new h2 (az (av L ks us))).n=h2.n+1:=rfl
    have ht3:(H.new h2 (az (av L ks us))).objs tid=some (trO x r):=(k3 tid hlt).trans ht
    unfold aC at cf
    unfold aC
    refine an.evF xAc ?_
    rw[bg]
    refine an.nil ?_
    refine Wp.le (s':=⟨tm [(0,.ptr tid 0),(1,.int .i64 i),(2,.int .i64 d),(3,.str key),(9,.ptr h2.n 0)],H.new h2 (az (av L ks us))⟩) (aK.of (bL ?_) (OLe.refl _) (fun y hy=>hy) (Nat.le_refl _) (Nat.le_refl _)) ?_
    ·exact xSb
    generalize H.new h2 (az (av L ks us))=h3 at*
    obtain ⟨h4,hc4,hn4,g4,k4,no4⟩:=vg L u _ _ h3 tid (d+1) r key g3 ok ht3 lu cp3 hnu ab hp
    unfold az at nn3
    have hlf:(av L ks us).leaf=false:=rfl
    rw[hlf] at nn3 cf
    refine Wp.seq ?_
    refine Wp.aR (by simp only[go_sem,reduceIte,Nat.reduceEqDiff,Nat.reduceAdd,bx,nn3];exact rfl) ?_
    refine an.nil ?_
    refine Wp.cond_false (by simp only[go_sem,reduceIte,Nat.reduceEqDiff]) ?_
    refine Wp.skip ?_
    refine Wp.aR (by simp only[go_sem,reduceIte,Nat.reduceEqDiff,Nat.reduceAdd,bx,nn3];exact rfl) ?_
    refine an.cd ae xA4 cf ?_
    refine an.evF xAc ?_
    refine an.nil ?_
    refine Wp.uv (by simp only[go_sem,reduceIte,Nat.reduceEqDiff,Nat.reduceAdd,bx,nn3,x1,x2,hgo,wd,and_self,if_true,Int.toNat_natCast];exact rfl) xA4 hn4 hc4 ?_
    exact ⟨_,rfl,rfl,g4,fun j hj=>(k4 j ab).trans (k3 j hj),aq.trans no3 no4 ab hn4.1⟩)
   exact ⟨h',hc,hn,hq⟩
  exact key0 us' lv hno
end
section
variable {x:PgI} {s:PgS} {T:List Nat} {h:H}
def lev:Rt→Nat
 |none=>0
 |some ⟨L,_⟩=>L
structure Dn (x:PgI) (T:List Nat) (tid:Nat) (s:PgS) (R0:Rt) (B:Nat) (h:H) (ps:List Pr) (R:Rt) (s1:PgS) (h1:H):Prop where
 pg:PgH x s1 T h1
 ok:bP s1
 ot:h1.objs tid=some (trO x (rpg R0))
 rk:ROk s1 B R
 ps:aJ R=ps
 mv:Mv s s1 (fun j=>j∈cM R0) (fun j=>j∈cM R)
 pl:s1.p.length≤s.p.length+200
 sm:ct x h h1
 no:aq h h1
 ln:h.n≤h1.n
theorem Es {L:Nat} {B i:Nat} {ks:List Bs} {u:Tr L} (h:Bnd (L+1) (mkT L i ks [u]) B):Bnd L u B:=by
 obtain ⟨c,h0,h1,h2⟩:=h
 refine ⟨c,h0,fun j hj=>?_,fun j hj=>?_⟩
 ·have:=h1 j ab
  rw[fj,if_neg ab] at this
  have e:(((mkT L i ks [u]).kids:List (Tr L)).map (eS L j)).sum=eS L j u:=by
   show (([u]:List (Tr L)).map (eS L j)).sum=_
   simp
  omega
 ·have:=h2 j ab
  rw[fY,if_neg ab] at this
  have e:(((mkT L i ks [u]).kids:List (Tr L)).map (exT L (j+1))).sum=exT L (j+1) u:=by
   show (([u]:List (Tr L)).map (exT L (j+1))).sum=_
   simp
  omega
end
section
variable {x:PgI} {s:PgS} {T:List Nat} {h:H}
theorem xj {tid b0 b1:Nat} (g:PgH x s T h) (ot:h.objs tid=some (trO x (-1))) (h0:h.objs b0=some (.cells [.ptr tid 0])):
  oN x T s 45 [.ptr b0 0,.ptr b1 0] h 7:=by
 have ot:h.objs tid=some (.cells [.ptr x.P 0,.int .i64 (-1)]):=ot
 have d3:decide ((-1:Int)<0)=true:=by decide
 obtain ⟨v,h',hc,hn,rfl,rfl⟩:=aW.mP (Q:=fun v h'=>v=jo 7∧h'=h) (args:=[.ptr b0 0,.ptr b1 0]) (h:=h) f45 af (by
  unfold c45 zz
  refine Wp.seq (Wp.seq ?_)
  refine Wp.cB (xAd (cj3 h0 ot d3)) ?_
  refine an.nil ?_
  refine Wp.cond_true (by simp only[go_sem,reduceIte,Nat.reduceEqDiff,Nat.reduceAdd,bx,d3]) ?_
  refine Wp.pN (aZ.eval (dg xA1) ?_)
  refine aZ.here (R:=fun v h'=>∃v',aQ.panic v= .panic v'∧v'=jo 7∧h'=h) (en:=aT) rfl (bF _) (fun ops i o ho hit=>fl ho hit rfl rfl rfl) (fun l hl=>by cases hl) ?_
  exact ⟨_,rfl,rfl,rfl⟩)
 exact ⟨_,hc,hn,g,fun _ _=>rfl,aq.refl _⟩
theorem AG {L tid b0 b1 B:Nat} {t:Tr L} {key:Bs} (g:Ts x T tid s (some ⟨L,t⟩) B h) (h0:h.objs b0=some (.cells [.ptr tid 0])) (h1:h.objs b1=some (.cells [.str key]))
  (hno:∀p∈aN L t,p.k≠key) (hL:L≤6) (hp:s.p.length<900000):
  oN x T s 45 [.ptr b0 0,.ptr b1 0] h 7:=by
 have ot:h.objs tid=some (.cells [.ptr x.P 0,.int .i64 ((t.pg:Nat):Int)]):=g.ot
 have d3:decide (((t.pg:Nat):Int)<0)=false:=decide_eq_false ab
 obtain ⟨lv,bd⟩:Live s L [] none t∧Bnd L t B:=g.rk
 obtain ⟨h2,hc2,hn2,g2,k2,no2⟩:=vg (x:=x) (s:=s) (T:=T) L t [] none h tid 1 ((t.pg:Nat):Int) key g.pg g.ok g.ot lv ⟨dc _,fun _ e=>by cases e⟩ hno ab hp
 obtain ⟨v,h',hc,hn,rfl,hq⟩:=aW.mP (Q:=fun v h'=>v=jo 7∧PgH x s T h'∧Kept h h'∧aq h h') (args:=[.ptr b0 0,.ptr b1 0]) (h:=h) f45 af (by
  unfold c45 zz
  refine Wp.seq (Wp.seq ?_)
  refine Wp.cB (xAd (cj3 h0 ot d3)) ?_
  refine an.nil ?_
  refine Wp.cond_false (by simp only[go_sem,reduceIte,Nat.reduceEqDiff,d3]) ?_
  refine Wp.skip ?_
  refine Wp.seq ?_
  refine Wp.pN ?_
  refine aZ.eval (dg (by simp only[go_sem,reduceIte,Nat.reduceEqDiff,Nat.reduceAdd,bx,h0,h1,ot];exact rfl)) ?_
  refine aZ.Dz (vals:=[.ptr tid 0,.int .i64 (t.pg:Nat),.int .i64 ((1:Nat):Int),.str key]) xA4 (fun j hj=>g.pg.ltn hj) hn2 hc2 no2 (by simp only[jV,oC,iE,bT,bR,tmpsOf,List.filterMap_cons,List.filterMap_nil,List.contains_cons,List.contains_nil,List.any_cons,List.any_nil,List.elem_cons,List.elem_nil,Option.toList_some,Option.toList_none,List.singleton_append,Prod.mk.injEq,Nat.reduceBEq,Bool.or_false,Bool.false_or,Bool.true_or,Bool.or_true,Bool.and_true,Bool.true_and,Bool.not_true,Bool.not_false,go_sem,reduceIte,Nat.reduceEqDiff,Nat.reduceAdd];exact rfl) (by simp[aV,apart,aT]) (by simp[uj,kr,aT]) ?_
  exact ⟨_,rfl,rfl,g2,k2,no2⟩)
 exact ⟨_,hc,hn,hq⟩
theorem fJ.GW {tid B:Nat} {R:Rt} {h1 h':H} (b:fJ x T tid s R B h h1) (g:PgH x s T h') (k:Kept h1 h') (no:aq h1 h') (ln:h1.n≤h'.n):eC x T tid s R h B s R h':=
 eC.none (b.ts.keep g (k tid b.ts.lt) (Nat.le_refl _)) (b.sm.trans (eK.of (dA k)) b.ln) (aq.trans b.no no b.ln ln) (Nat.le_trans b.ln ln)
end
section
variable {x:PgI} {s:PgS} {T:List Nat} {h:H}
set_option maxHeartbeats 2000000 in
theorem vi {L tid b0 b1 B:Nat} {t:Tr L} {key:Bs} (g:Ts x T tid s (some ⟨L,t⟩) B h) (h0:h.objs b0=some (.cells [.ptr tid 0])) (h1:h.objs b1=some (.cells [.str key])) (t0:Tid x b0) (n0:b0≠tid)
  (hex:∃p∈aN L t,p.k=key) (hL:L≤6) (hp:s.p.length+200<900000):
  cG Tryz.prog 45 [.ptr b0 0,.ptr b1 0] h (fun q h'=>∃s' R',eC x T tid s (some ⟨L,t⟩) h B s' R' h'∧aJ R'=dS (aN L t) key) (Lst x T s h (8*L)):=by
 refine f45.gD af ?_
 unfold c45 zz
 have ot:h.objs tid=some (.cells [.ptr x.P 0,.int .i64 ((t.pg:Nat):Int)]):=g.ot
 have d3:decide (((t.pg:Nat):Int)<0)=false:=decide_eq_false ab
 obtain ⟨lv,bd⟩:Live s L [] none t∧Bnd L t B:=g.rk
 have lt0:=g.pg.ltn (j:=b0) (by rw[h0];rfl)
 have ltt:=g.lt
 refine rf0 (cj4 h0 h1 ot d3) ?_
 have hc:=CU (x:=x) (T:=T) L t [] none s h tid 1 ((t.pg:Nat):Int) key g.pg g.ok g.ot g.tx lv ⟨dc _,fun _ e=>by cases e⟩ hex ab ab
 rcases hc with hc|⟨v,h',hp1,hm1,l⟩
 rotate_left
 ·refine Wp.pN ?_
  refine aZ.eval (dg (xAd (cj3 h0 h1 ot))) ?_
  refine aZ.Dz (vals:=[.ptr tid 0,.int .i64 (t.pg:Nat),.int .i64 ((1:Nat):Int),.str key]) xA4 (fun j hj=>g.pg.ltn hj) (hm1) (hp1) (l.no) (by simp only[jV,oC,iE,bT,bR,tmpsOf,List.filterMap_cons,List.filterMap_nil,List.contains_cons,List.contains_nil,List.any_cons,List.any_nil,List.elem_cons,List.elem_nil,Option.toList_some,Option.toList_none,List.singleton_append,Prod.mk.injEq,Nat.reduceBEq,Bool.or_false,Bool.false_or,Bool.true_or,Bool.or_true,Bool.and_true,Bool.true_and,Bool.not_true,Bool.not_false,go_sem,reduceIte,Nat.reduceEqDiff,Nat.reduceAdd];exact rfl) (by simp[aV,apart,aT]) (by simp[uj,kr,aT,Nat.beq]) ?_
  exact .inr ⟨_,rfl,l⟩
 refine Wp.reg ?_
 refine ao.part 6 (xAe (cj3 h0 h1 ot)) ?_
 simp only[List.drop_succ_cons,List.drop_zero,List.drop_nil]
 refine ao.aY (vals:=[.ptr tid 0,.int .i64 (t.pg:Nat),.int .i64 ((1:Nat):Int),.str key]) ae xA4 (fun j hj=>g.pg.ltn hj) hc (fun r h' ⟨s',R,e,st,hh⟩=>st.no) fun r h3 ⟨s1,o,e,st,pr⟩ n3 m3=>?_
 subst e
 refine ao.part 1 xA1 ?_
 simp only[List.drop_succ_cons,List.drop_zero,List.drop_nil]
 refine ao.nil ⟨by simp[bw,aV,apart,aT],?_⟩
 have D0:∃R:Rt,rpg R=opg o∧lev R≤L∧Dn x T tid s (some ⟨L,t⟩) B h (dS (aN L t) key) R s1 h3:=by
  have hps:=pr.ps
  have hin:∀j∈fb L o,(stt s1 j=1∨stt s1 j=2)∧j<s1.np:=by
   intro j hj
   have hnp:=st.mv.np
   by_cases hjt:j∈bp L t
   ·have q:=st.mv.stay j hj hjt
    have:=lv.st j hjt
    omega
   ·have q:=st.mv.new j hj hjt
    omega
  cases o with
  |none=>exact ⟨none,rfl,Nat.zero_le _,st.pg,st.ok,(cH st.sm ltt g.tx).trans g.ot,trivial,hps,st.mv.congr (fun j=>Iff.rfl) (fun j=>by simp[cM,fb]),by have:=st.pl;omega,st.sm,st.no,st.ln⟩
  |some t'=>
   obtain ⟨c,c0,c1,c2⟩:=bd
   refine ⟨some ⟨L,t'⟩,rfl,Nat.le_refl _,st.pg,st.ok,(cH st.sm ltt g.tx).trans g.ot,⟨⟨pr.on t' rfl,pr.wf t' rfl,pr.nd,hin⟩,c,c0,fun j hj=>Nat.le_trans (pr.cnt t' rfl j).1 (c1 j hj),fun j hj=>?_⟩,hps,st.mv,by have:=st.pl;omega,st.sm,st.no,st.ln⟩
   have:=(pr.cnt t' rfl (j+1)).2
   have:=c2 j hj
   omega
 obtain ⟨R0,e0,hlev,D0⟩:=D0
 rw[←e0]
 clear hc e0 pr st
 refine Wp.seq (Wp.ex (β:=Rt × PgS × H) (fun b=>⟨tm [(0,.ptr b0 0),(2,.int .i64 (rpg b.1))],b.2.2⟩) (fun b=>Dn x T tid s (some ⟨L,t⟩) B h (dS (aN L t) key) b.1 b.2.1 b.2.2) ?_ ?_)
 ·refine rf0 @and_self ?_
  refine Wp.eV [0] xA7 (fun b:Nat × Rt × PgS × H=>[(2,.int .i64 (rpg b.2.1)),(3,.int .i64 (b.1:Int))]) (fun b=>b.2.2.2) (fun b=>b.1+lev b.2.1≤7∧Dn x T tid s (some ⟨L,t⟩) B h (dS (aN L t) key) b.2.1 b.2.2.1 b.2.2.2) (fun b=>lev b.2.1) (1,R0,s1,h3) ⟨by simp only;omega,D0⟩ rfl ?_ ?_
  ·exact xSb
  clear D0 hlev
  rintro ⟨d,R,s2,h4⟩ ⟨hd,D⟩
  simp only at hd D
  have h04:h4.objs b0=some (.cells [.ptr tid 0]):=(cH D.sm lt0 t0).trans h0
  cases R with
  |none=>
   have e1:decide ((0:Int)≤rpg none)=false:=decide_eq_false (by simp[rpg])
   refine rf0 e1 ?_
   refine ⟨(none,s2,h4),D,aK.tm ?_⟩
   exact xSb
  |some q=>
   obtain ⟨L',t'⟩:=q
   have e1:decide ((0:Int)≤rpg (some ⟨L',t'⟩))=true:=decide_eq_true (by simp only[rpg];omega)
   obtain ⟨lv',bd'⟩:Live s2 L' [] none t'∧Bnd L' t' B:=D.rk
   obtain ⟨hs',hi'⟩:=lv'.st t'.pg (by simp[bp])
   have pl:=D.pl
   have hd':d+L'≤7:=hd
   have hnd:=iP (tid:=tid) (i:=t'.pg) (d:=d) D.pg D.ok D.ot hi' (by show stt s2 t'.pg≠0;omega) ab ab lv'.on.1.1
   rw[lv'.on.1.2] at hnd
   refine rf0 (cj2 e1 h04) ?_
   refine an.aY (vals:=[.ptr tid 0,.int .i64 (t'.pg:Nat),.int .i64 (d:Int)]) ae xA4 hnd fun q h5 ⟨hq,g5,k5,no5⟩ n5 _=>?_
   subst hq
   unfold aC
   refine an.evF xAc ?_
   rw[bg]
   refine an.nil ?_
   have g6:=g5.new (az (bn L' t'.ks t'.kids))
   have k6:Kept h4 (H.new h5 (az (bn L' t'.ks t'.kids))):=fun j hj=>(aH ab).trans (k5 j hj)
   have no6:aq h4 (H.new h5 (az (bn L' t'.ks t'.kids))):=aq.trans no5 bC n5 (Nat.le_succ _)
   have nn6:=bV (h:=h5) (o:=az (bn L' t'.ks t'.kids))
   have ln6:(H.new h5 (az (bn L' t'.ks t'.kids))).n=h5.n+1:=rfl
   have ln4:=D.ln
   have D6:Dn x T tid s (some ⟨L,t⟩) B h (dS (aN L t) key) (some ⟨L',t'⟩) s2 (H.new h5 (az (bn L' t'.ks t'.kids))):=
    ⟨g6,D.ok,(k6 tid (D.pg.ltn (by rw[D.ot];rfl))).trans D.ot,D.rk,D.ps,D.mv,D.pl,D.sm.trans (dA k6) ln4,aq.trans D.no no6 ln4 ab,ab⟩
   refine Wp.le (s':=⟨tm [(0,.ptr b0 0),(2,.int .i64 (t'.pg:Nat)),(3,.int .i64 (d:Int)),(4,.ptr h5.n 0)],H.new h5 (az (bn L' t'.ks t'.kids))⟩) (aK.of (bL ?_) (OLe.refl _) (fun y hy=>hy) (Nat.le_refl _) (Nat.le_refl _)) ?_
   ·exact xSb
   clear D hnd
   generalize H.new h5 (az (bn L' t'.ks t'.kids))=h6 at*
   have h06:h6.objs b0=some (.cells [.ptr tid 0]):=(cH D6.sm lt0 t0).trans h0
   cases L' with
   |zero=>
    have hlf:(bn 0 t'.ks t'.kids).leaf=true:=rfl
    unfold az at nn6
    rw[hlf] at nn6
    refine rf0 nn6 ?_
    refine ⟨(some ⟨0,t'⟩,s2,h6),D6,aK.tm ?_⟩
    exact xSb
   |succ L'=>
    obtain ⟨i,ks,us'⟩:=t'
    obtain ⟨us,hus⟩:∃us:List (Tr L'),us=us':=⟨us',rfl⟩
    subst hus
    have D6:Dn x T tid s (some ⟨L,t⟩) B h (dS (aN L t) key) (some ⟨L'+1,mkT L' i ks us⟩) s2 h6:=D6
    have nn6:h6.objs h5.n=some (az (av L' ks us)):=nn6
    have lv':Live s2 (L'+1) [] none (mkT L' i ks us):=lv'
    have bd':Bnd (L'+1) (mkT L' i ks us) B:=bd'
    have hs':stt s2 i=1∨stt s2 i=2:=hs'
    have hi':i<s2.np:=hi'
    obtain ⟨hr,hz,hw⟩:=lv'.wf
    have hw:bH (WF L') [] none ks us:=hw
    have hul:=hw.len
    have hlf:(av L' ks us).leaf=false:=rfl
    have hkl:(ints (av L' ks us).kids).length=us.length:=by simp[ints,av]
    unfold az at nn6
    rw[hlf] at nn6
    by_cases h1u:us.length=1
    ·obtain ⟨u,hu⟩:=List.length_eq_one_iff.1 h1u
     subst hu
     have hk0:ks=[]:=List.length_eq_zero_iff.1 (by simp only[List.length_singleton] at hul;omega)
     subst hk0
     have e2:decide ((1:Int)<((([u]:List (Tr L')).length:Nat):Int))=false:=by simp
     have hgo:(ints (av L' [] [u]).kids).getD 0 .any= .int .i64 (u.pg:Nat):=by simp[ints,av]
     have ot6:h6.objs tid=some (.cells [.ptr x.P 0,.int .i64 ((t.pg:Nat):Int)]):=D6.ot
     refine rf0 (cj5 nn6 hkl e2 h06 ot6) ?_
     refine an.aY (vals:=[.ptr x.P 0,.int .i64 (i:Int)]) ae xA4 (CJ D6.pg D6.ok hi' hs') fun q h7 ⟨hq,s3,st⟩ n7 _=>?_
     subst hq
     refine an.cx xA2 xAb (by exact ⟨Nat.le_refl _,Nat.le_refl _⟩) (dN) ?_
     refine an.nil ?_
     have nn7:=(cH st.sm ab (ew g.pg (j:=h5.n) ab)).trans nn6
     have e3:IntKind.i64.wrap ((d:Int)+1)=((d+1:Nat):Int):=by rw[IntWalk.i64_in _ ab];rfl
     have y0:(0:Int)≤(0:Int):=by omega
     have y1:(0:Int)<(((av L' [] [u]).kids.length:Nat):Int):=by simp[av]
     refine rf0 (cj7 nn7 hgo e3 y0 y1 @and_self Int.toNat_zero) ?_
     have hpu:bp (L'+1) (mkT L' i [] [u])=i::bp L' u:=by
      show i::(([u]:List (Tr L')).map (bp L')).flatten=_
      simp
     have hnd':=lv'.nd
     have hst':=lv'.st
     rw[hpu] at hnd' hst'
     have hq0:∀j,j∈bp L' u→¬j=i:=fun j hj e=>by subst e;exact (List.nodup_cons.1 hnd').1 hj
     have hq1:∀j,j∈bp L' u→stt s2 j≠0:=fun j hj=>by have:=(hst' j (List.mem_cons_of_mem _ hj)).1;omega
     have ap:=st.mv.apart (Q:=fun j=>j∈bp L' u) hq0 hq1
     have mm:=D6.mv.trans ((st.mv.ext (Q:=fun j=>j∈bp L' u) hq0 hq1).congr (A:=fun j=>j∈cM (some ⟨L'+1,mkT L' i [] [u]⟩)) (A':=fun j=>j∈bp L' u) (fun j=>by
      show j∈bp (L'+1) (mkT L' i [] [u])↔_
      rw[hpu];simp) (fun j=>by simp))
     have hps:=D6.ps
     have hpl:=D6.pl
     have hpl2:=st.pl
     have hnp:=st.mv.np
     have ln6:=D6.ln
     refine ⟨(d+1,some ⟨L',u⟩,s3,h7),⟨by show d+1+L'≤7;omega,⟨st.pg,st.ok,(cH st.sm ab g.tx).trans D6.ot,⟨⟨((dT (us:=([u]:List (Tr L')))).1 lv'.on.2 u af).congr fun j hj=>(ap j hj).2.2,hw,(List.nodup_cons.1 hnd').2,fun j hj=>?_⟩,Es bd'⟩,?_,mm,by show s3.p.length≤s.p.length+200;omega,D6.sm.trans st.sm ln6,aq.trans D6.no st.no ln6 n7,by show h.n≤h7.n;omega⟩⟩,by show L'<L'+1;omega,aK.tm ?_⟩
     ·have a:=ap j hj
      have b:=hst' j (List.mem_cons_of_mem _ hj)
      show (stt s3 j=1∨stt s3 j=2)∧j<s3.np
      omega
     ·rw[←hps]
      show aN L' u=(([u]:List (Tr L')).map (aN L')).flatten
      simp
     ·exact xSb
    ·have e2:decide ((1:Int)<((us.length:Nat):Int))=true:=decide_eq_true ab
     refine rf0 (cj3 nn6 hkl e2) ?_
     refine ⟨(some ⟨L'+1,mkT L' i ks us⟩,s2,h6),D6,aK.tm ?_⟩
     exact xSb
 ·rintro ⟨R,s2,h4⟩ s' D le
  refine Wp.le le ?_
  have D:Dn x T tid s (some ⟨L,t⟩) B h (dS (aN L t) key) R s2 h4:=D
  have h04:h4.objs b0=some (.cells [.ptr tid 0]):=(cH D.sm lt0 t0).trans h0
  have ot4:h4.objs tid=some (.cells [.ptr x.P 0,.int .i64 ((t.pg:Nat):Int)]):=D.ot
  have lt4:tid<h4.n:=D.pg.ltn (by rw[ot4];rfl)
  refine rf0 (cj2 h04 ot4) ?_
  refine .inl ⟨trivial,.tup [],by simp[cJ,rvs],s2,R,⟨⟨D.pg.vd g.tx lt4 _,D.ok,by simp[upd,trO],g.tx,D.rk⟩,D.mv,D.pl,(eK.of D.sm).trans eK.set D.ln,aq.trans D.no (aq.set ot4) D.ln (Nat.le_refl _),D.ln⟩,D.ps⟩
set_option maxHeartbeats 1000000 in
theorem CV {tid B:Nat} {R:Rt} {key:Bs} (g:Ts x T tid s R B h) (hL:∀L t,R=some ⟨L,t⟩→L≤6) (hp:s.p.length+200<900000):
  aM Tryz.prog 20 [.ptr tid 0,.str key] h fun q h'=>(∃s' R',eC x T tid s R h B s' R' h'∧(((∃p∈aJ R,p.k=key)∧q= .int .i64 0∧aJ R'=dS (aJ R) key)∨((∀p∈aJ R,p.k≠key)∧q= .int .i64 7∧R'=R∧s'=s)))∨((∃p∈aJ R,p.k=key)∧q= .int .i64 10∧Full x T s (FF R) h h'):=by
 refine f20.cq af ?_
 unfold c20 zz
 have bb:=((fJ.refl g).new (.cells [.ptr tid 0])).new (.cells [.str key])
 have lt:=g.lt
 have ln3:(H.new (H.new h (.cells [.ptr tid 0])) (.cells [.str key])).n=h.n+1+1:=rfl
 have e0:(H.new (H.new h (.cells [.ptr tid 0])) (.cells [.str key])).objs h.n=some (.cells [.ptr tid 0]):=(aH (Nat.lt_succ_self _)).trans bV
 have e1:(H.new (H.new h (.cells [.ptr tid 0])) (.cells [.str key])).objs (h.n+1)=some (.cells [.str key]):=bV (h:=H.new h (.cells [.ptr tid 0]))
 refine Wp.aR (xAd @and_self) ?_
 refine an.nil ?_
 refine Wp.le (s':=⟨tm [(2,.ptr h.n 0),(3,.ptr (h.n+1) 0)],H.new (H.new h (.cells [.ptr tid 0])) (.cells [.str key])⟩) (aK.of (bL ?_) (OLe.refl _) (fun y hy=>hy) (Nat.le_refl _) (Nat.le_refl _)) ?_
 ·exact xSb
 generalize H.new (H.new h (.cells [.ptr tid 0])) (.cells [.str key])=h3 at*
 have key2:aM Tryz.prog 34 [.ptr tid 0,.clo (.func 45) [] [.ptr h.n 0,.ptr (h.n+1) 0]] h3 fun q h'=>(∃s' R',eC x T tid s R h3 B s' R' h'∧(((∃p∈aJ R,p.k=key)∧q= .int .i64 0∧aJ R'=dS (aJ R) key)∨((∀p∈aJ R,p.k≠key)∧q= .int .i64 7∧R'=R∧s'=s)))∨((∃p∈aJ R,p.k=key)∧q= .int .i64 10∧Full x T s (FF R) h3 h'):=by
  have give:oN x T s 45 [.ptr h.n 0,.ptr (h.n+1) 0] h3 7→(∀p∈aJ R,p.k≠key)→aM Tryz.prog 34 [.ptr tid 0,.clo (.func 45) [] [.ptr h.n 0,.ptr (h.n+1) 0]] h3 fun q h'=>(∃s' R',eC x T tid s R h3 B s' R' h'∧(((∃p∈aJ R,p.k=key)∧q= .int .i64 0∧aJ R'=dS (aJ R) key)∨((∀p∈aJ R,p.k≠key)∧q= .int .i64 7∧R'=R∧s'=s)))∨((∃p∈aJ R,p.k=key)∧q= .int .i64 10∧Full x T s (FF R) h3 h'):=by
   rintro ⟨h',hc,hn,g',k',no'⟩ hno
   refine (vc (Q:=fun h'=>PgH x s T h'∧Kept h3 h'∧aq h3 h'∧h3.n≤h'.n) (eU bb.ts) Tryz.func45 rfl (of_decide_eq_true (by kernel_rfl)) ⟨h',hc,hn.1,hn.2,g',k',no',hn.1⟩).mono ?_
   rintro q h' ⟨rfl,g',k',no',ln'⟩
   exact .inl ⟨s,R,(fJ.refl bb.ts).GW g' k' no' ln',.inr ⟨hno,rfl,rfl,rfl⟩⟩
  cases R with
  |none=>
   exact give (xj bb.ts.pg bb.ts.ot e0) (by simp[aJ])
  |some r=>
   obtain ⟨L,t⟩:=r
   by_cases hex:∃p∈aN L t,p.k=key
   ·rcases vi bb.ts e0 e1 (ew g.pg (Nat.le_refl _)) ab hex (hL L t rfl) hp with hc|⟨v,h',hp1,hm1,l⟩
    ·refine (vb (eU bb.ts) Tryz.func45 rfl (of_decide_eq_true (by kernel_rfl)) hc).mono ?_
     rintro q h' ⟨rfl,r,s',R',m,e⟩
     exact .inl ⟨s',R',m,.inl ⟨hex,rfl,e⟩⟩
    ·obtain rfl:=l.v
     refine (vc (k:=10) (Q:=fun h'=>Full x T s (8*L) h3 h') (eU bb.ts) Tryz.func45 rfl (of_decide_eq_true (by kernel_rfl)) ⟨h',hp1,hm1.1,hm1.2,l.full hm1.1 (by have:=hL L t rfl;omega)⟩).mono ?_
     rintro q h' ⟨rfl,hfu⟩
     exact .inr ⟨hex,rfl,hfu⟩
   ·have hno:∀p∈aN L t,p.k≠key:=fun p hp e=>hex ⟨p,hp,e⟩
    exact give (AG bb.ts e0 e1 hno (hL L t rfl) ab) hno
 refine rf0 e0 ?_
 refine an.aY (vals:=[.ptr tid 0,.clo (.func 45) [] [.ptr h.n 0,.ptr (h.n+1) 0]]) ae xA4 key2 fun q h4 cs n4 _=>?_
 refine an.evF xAc ?_
 refine an.nil ?_
 refine rf0 @and_self ?_
 refine Wp.ret ?_
 refine ⟨trivial,q,?_,?_⟩
 ·simp only[go_sem]
  exact rfl
 ·rcases cs with ⟨s',R',m,cs⟩|⟨hk,e,f⟩
  ·exact .inl ⟨s',R',m.pre bb.sm bb.no bb.ln,cs⟩
  ·exact .inr ⟨hk,e,f.pre bb.no bb.ln⟩
theorem GX {tid B:Nat} {R:Rt} {key vl:Bs} (g:Ts x T tid s R B h) (hL:∀L t,R=some ⟨L,t⟩→L≤6) (hf:1≤free s∧∀L t,R=some ⟨L,t⟩→2*L+3≤free s) (hp:s.p.length+200<900000):
  aM Tryz.prog 24 [.ptr tid 0,.str key,.str vl] h fun q h'=>∃s' R',eC x T tid s R h (B+1) s' R' h'∧((key.length≤128∧vl.length≤200∧q= .int .i64 0∧aJ R'=fy (aJ R) key vl)∨((128<key.length∨200<vl.length)∧q= .int .i64 2∧R'=R∧s'=s)):=by
 refine (EO g hL hp).mono ?_
 rintro q h' (a|⟨-,-,-,f⟩)
 ·exact a
 ·exfalso
  have e:=f.fe
  cases R with
  |none=>have:8*free s≤0:=e;have:=hf.1;omega
  |some r=>obtain ⟨L,t⟩:=r;have:8*free s≤16*(L+1):=e;have:=hf.2 L t rfl;omega
theorem FG {tid B:Nat} {R:Rt} {key:Bs} (g:Ts x T tid s R B h) (hL:∀L t,R=some ⟨L,t⟩→L≤6) (hf:∀L t,R=some ⟨L,t⟩→L+1≤free s) (hp:s.p.length+200<900000):
  aM Tryz.prog 20 [.ptr tid 0,.str key] h fun q h'=>∃s' R',eC x T tid s R h B s' R' h'∧(((∃p∈aJ R,p.k=key)∧q= .int .i64 0∧aJ R'=dS (aJ R) key)∨((∀p∈aJ R,p.k≠key)∧q= .int .i64 7∧R'=R∧s'=s)):=by
 refine (CV g hL hp).mono ?_
 rintro q h' (a|⟨hx,-,f⟩)
 ·exact a
 ·exfalso
  have e:=f.fe
  cases R with
  |none=>obtain ⟨p,hp,-⟩:=hx;cases hp
  |some r=>obtain ⟨L,t⟩:=r;have:8*free s≤8*L:=e;have:=hf L t rfl;omega
end
end Go.Proofs.YtbgmofhgfnmaiaaGreat.Tree
end
section
set_option maxRecDepth 100000
namespace Go.Proofs.YtbgmofhgfnmaiaaGreat.Tree
open Go Go.Av Go.Proofs Go.Proofs.YtbgmofhgfnmaiaaGreat.C Go.Proofs.YtbgmofhgfnmaiaaGreat.Page
open Go.Proofs.YtbgmofhgfnmaiaaGreat.Batch (Bs Pr prs aS)
def tlC:AC→AC
 | .seq _ y=>y
 |c=>c
def fx (l:List Pr) (key:Bs):Option Pr:=l.find? fun p=>decide (p.k=key)
theorem qw {l:List Pr} {key:Bs} (h:∀p∈l,p.k≠key):fx l key=none:=by
 unfold fx
 rw[List.find?_eq_none]
 intro p hp
 simpa using h p hp
theorem r9 {a b c:List Pr} {k:Bs} (ha:∀p∈a,Lt p.k k) (hc:∀p∈c,Lt k p.k):fx (a++(b++c)) k=fx b k:=by
 have h1:=qw fun p hp=>ne_of_lt (ha p hp)
 have h2:=qw fun p hp=>(ne_of_lt (hc p hp)).symm
 unfold fx at h1 h2 ⊢
 rw[List.find?_append,h1,List.find?_append,h2]
 simp
theorem sa {ks vs:List Bs} {key:Bs} (h:right (aA ks vs)=true):fx (List.zipWith Pr.mk ks vs) key=if bE (aA ks vs) key=true then some ⟨key,vs.getD (place (aA ks vs) key) []⟩ else none:=by
 split
 ·rename_i hf
  obtain ⟨r1,r2,-⟩:=(bA (n:=aA ks vs) rfl).1 h
  obtain ⟨p1,p2,p3⟩:=jr h key
  obtain ⟨-,-,f1,f2,f3⟩:=dW hf
  have f1:place (aA ks vs) key<ks.length:=f1
  have f3:ks.getD (place (aA ks vs) key) []=key:=f3
  have r2:vs.length=ks.length:=r2
  have r1:mW ks:=r1
  generalize place (aA ks vs) key=i at*
  have hkk:ks[i]=key:=by rw[←f3,bD f1]
  have hd:=nZ r1.2 f1
  rw[hkk] at hd
  have e1:ks=ks.take i++key::ks.drop (i+1):=by rw[←hkk,←List.drop_eq_getElem_cons f1,List.take_append_drop]
  have e2:vs=vs.take i++vs[i]::vs.drop (i+1):=by rw[←List.drop_eq_getElem_cons,List.take_append_drop]
  have e3:List.zipWith Pr.mk ks vs=List.zipWith Pr.mk (ks.take i) (vs.take i)++([⟨key,vs[i]⟩]++List.zipWith Pr.mk (ks.drop (i+1)) (vs.drop (i+1))):=by
   conv=>lhs;rw[e1,e2]
   exact nA ak
  rw[e3,r9 (fun p hp=>p1 _ (eB hp)) (fun p hp=>hd _ (eB hp)),bD ab]
  simp[fx]
 ·rename_i hf
  refine qw fun p hp e=>hf ((qp h).2 ⟨p,hp,e⟩)
section
variable {x:PgI} {s:PgS} {T:List Nat} {h:H}
set_option maxHeartbeats 2000000 in
theorem vj {L tid b0 b1 b2 B:Nat} {t:Tr L} {key:Bs} {Q:aQ→St→Prop} (g:Ts x T tid s (some ⟨L,t⟩) B h) (h0:h.objs b0=some (.cells [.ptr tid 0])) (h1:h.objs b1=some (.cells [.str key])) (hL:L≤6) (hp:s.p.length<900000)
  (hK:∀(h':H) (nid i:Nat) (ks vs:List Bs),PgH x s T h'→Kept h h'→aq h h'→h.n≤h'.n→h'.objs nid=some (az (aA ks vs))→right (aA ks vs)=true→size (aA ks vs)≤1024→fx (List.zipWith Pr.mk ks vs) key=fx (aN L t) key→h.n≤nid→Wp Tryz.prog 54 (tlC (tlC (tlC c40))) ⟨tm [(1,.ptr b1 0),(2,.ptr b2 0),(3,.ptr nid 0)],h'⟩ Q):
  Wp Tryz.prog 54 c40 ⟨fB [.ptr b0 0,.ptr b1 0,.ptr b2 0],h⟩ Q:=by
 unfold c40 at hK ⊢
 simp only[tlC] at hK
 have ot:h.objs tid=some (.cells [.ptr x.P 0,.int .i64 ((t.pg:Nat):Int)]):=g.ot
 have d3:decide (((t.pg:Nat):Int)<0)=false:=decide_eq_false ab
 obtain ⟨lv,bd⟩:Live s L [] none t∧Bnd L t B:=g.rk
 have lt0:=g.pg.ltn (j:=b0) (by rw[h0];rfl)
 have lt1:=g.pg.ltn (j:=b1) (by rw[h1];rfl)
 have ltt:=g.lt
 obtain ⟨hs,hi'⟩:=lv.st t.pg (by simp[bp])
 have hnd:=iP (tid:=tid) (i:=t.pg) (d:=1) g.pg g.ok g.ot hi' (by show stt s t.pg≠0;omega) ab ab lv.on.1.1
 rw[lv.on.1.2] at hnd
 refine Wp.seq (Wp.seq ?_)
 refine Wp.cB (xAd (cj3 h0 ot d3)) ?_
 refine an.nil ?_
 refine Wp.cond_false (by simp only[go_sem,reduceIte,Nat.reduceEqDiff,d3]) ?_
 refine Wp.skip ?_
 refine Wp.seq (Wp.reg ?_)
 refine ao.part 5 (xAe (cj2 h0 ot)) ?_
 simp only[List.drop_succ_cons,List.drop_zero,List.drop_nil]
 refine ao.aY (vals:=[.ptr tid 0,.int .i64 (t.pg:Nat),.int .i64 ((1:Nat):Int)]) ae xA4 (fun j hj=>g.pg.ltn hj) hnd (fun r h' ⟨e,g',k',no'⟩=>no') fun q h2 ⟨hq,g2,k2,no2⟩ n2 _=>?_
 subst hq
 unfold aC
 refine ao.part 2 xA1 ?_
 simp only[List.drop_succ_cons,List.drop_zero,List.drop_nil]
 rw[bg]
 refine ao.nil ⟨by simp[bw,aV,apart,aT];exact ⟨ab,ab,fun id a=>by omega⟩,?_⟩
 have g3:=g2.new (az (bn L t.ks t.kids))
 have k3:Kept h (H.new h2 (az (bn L t.ks t.kids))):=fun j hj=>(aH ab).trans (k2 j hj)
 have no3:aq h (H.new h2 (az (bn L t.ks t.kids))):=aq.trans no2 bC n2 (Nat.le_succ _)
 have nn3:=bV (h:=h2) (o:=az (bn L t.ks t.kids))
 have ln3:(H.new h2 (az (bn L t.ks t.kids))).n=h2.n+1:=rfl
 refine Wp.le (s':=⟨tm [(0,.ptr b0 0),(1,.ptr b1 0),(2,.ptr b2 0),(3,.ptr h2.n 0)],H.new h2 (az (bn L t.ks t.kids))⟩) (aK.of (bL ?_) (OLe.refl _) (fun y hy=>hy) (Nat.le_refl _) (Nat.le_refl _)) ?_
 ·exact xSb
 generalize H.new h2 (az (bn L t.ks t.kids))=h3 at*
 generalize hnid:h2.n=nid at*
 clear hnd
 refine rf0 @and_self ?_
 refine Wp.eV [0,1,2,3] xA7 (fun b:Nat × ((L':Nat) × Tr L') × H=>[(4,.int .i64 (b.1:Int))]) (fun b=>b.2.2) (fun b=>b.1+b.2.1.1≤9∧(∃lo hi,Live s b.2.1.1 lo hi b.2.1.2∧inB lo hi key)∧fx (aN b.2.1.1 b.2.1.2) key=fx (aN L t) key∧PgH x s T b.2.2∧Kept h b.2.2∧aq h b.2.2∧h.n≤b.2.2.n∧nid<b.2.2.n∧b.2.2.objs nid=some (az (bn b.2.1.1 b.2.1.2.ks b.2.1.2.kids))) (fun b=>b.2.1.1) (2,⟨L,t⟩,h3) ⟨by simp only;omega,⟨[],none,lv,dc _,fun _ e=>by cases e⟩,rfl,g3,k3,no3,by simp only;omega,by simp only;omega,nn3⟩ rfl ?_ ?_
 ·exact xSb
 clear g3 k3 no3 nn3
 rintro ⟨d,⟨L',t'⟩,h4⟩ ⟨hd,⟨lo,hi,lv',hb⟩,hf,g4,k4,no4,ln4,lnid,nn4⟩
 simp only at hd lv' hf g4 k4 no4 ln4 lnid nn4
 have h04:=(k4 b0 lt0).trans h0
 have h14:=(k4 b1 lt1).trans h1
 cases L' with
 |zero=>
  have hlf:(bn 0 t'.ks t'.kids).leaf=true:=rfl
  have nn5:=nn4
  unfold az at nn4
  rw[hlf] at nn4
  refine Wp.seq (Wp.seq ?_)
  refine Wp.cB (xAd (cj2 nn4 @Bool.not_true)) ?_
  refine an.nil ?_
  refine Wp.cond_false (by simp only[go_sem,reduceIte,Nat.reduceEqDiff]) ?_
  refine Wp.exit ?_
  have W:=hK h4 nid t'.pg t'.ks t'.kids g4 k4 no4 ln4 nn5 lv'.wf.1 lv'.wf.2.1 hf ab
  refine Wp.le (aK.tm ?_) W
  exact xSb
 |succ L'=>
  obtain ⟨i,ks,us'⟩:=t'
  obtain ⟨us,hus⟩:∃us:List (Tr L'),us=us':=⟨us',rfl⟩
  subst hus
  have nn4:h4.objs nid=some (az (av L' ks us)):=nn4
  have lv':Live s (L'+1) lo hi (mkT L' i ks us):=lv'
  obtain ⟨hr,hz,hw⟩:=lv'.wf
  have hw:bH (WF L') lo hi ks us:=hw
  have hr:right (av L' ks us)=true:=hr
  have hz:size (av L' ks us)≤1024:=hz
  obtain ⟨pa1,pa2,pa3⟩:=gr (key:=key) hr
  obtain ⟨u,hu,wu,-⟩:=hw.at pa3
  obtain ⟨cp1,cp2,cp3⟩:=iJ hw hb _ pa3 pa1 pa2
  have hum:u∈us:=List.mem_of_getElem? hu
  have hpg:=gK (i:=i) (ks:=ks) hu
  have hnd:=lv'.nd
  have hst:=lv'.st
  rw[hpg] at hnd hst
  have hpr:aN (L'+1) (mkT L' i ks us)=((us.take (place (av L' ks us) key)).map (aN L')).flatten++(aN L' u++((us.drop (place (av L' ks us) key+1)).map (aN L')).flatten):=nz (f:=aN L') hu
  have lu:Live s L' (dM lo ks (place (av L' ks us) key)) (eR hi ks (place (av L' ks us) key)) u:=by
   refine ⟨(dT.1 lv'.on.2) u hum,wu,?_,fun j hj=>hst j (by simp[hj])⟩
   simp only[List.nodup_cons,List.nodup_append] at hnd
   exact hnd.2.2.1.1
  have hsm:=bG (L:=L'+1) (ks:=ks) (kids:=us) hr (by show size (av L' ks us)≤1355;omega)
  have cf:=xi (key:=key) hr hsm.1
  have hul:us.length=ks.length+1:=hw.len
  have hfu:fx (aN L' u) key=fx (aN L t) key:=by
   rw[←hf]
   show _=fx (aN (L'+1) (mkT L' i ks us)) key
   rw[hpr,r9 cp1 cp2]
  obtain ⟨hs5,hi5⟩:=lu.st u.pg (by simp[bp])
  have ot4:=(k4 tid ltt).trans g.ot
  have hd:d+(L'+1)≤9:=hd
  have hn2:=iP (tid:=tid) (i:=u.pg) (d:=d) g4 g.ok ot4 hi5 (by show stt s u.pg≠0;omega) hp ab lu.on.1.1
  rw[lu.on.1.2] at hn2
  generalize hJ:place (av L' ks us) key=J at*
  have x1:(0:Int)≤(J:Int):=by omega
  have x2:(J:Int)<((av L' ks us).kids.length:Int):=by simp[av];omega
  have hgo:(ints (av L' ks us).kids).getD J .any= .int .i64 (u.pg:Nat):=by
   have:(bQ us)[J]? =some ((u.pg:Nat):Int):=by simp[bQ,hu]
   show (ints (bQ us)).getD J .any=_
   simp[ints,List.getD,this]
  have e3:IntKind.i64.wrap ((d:Int)+1)=((d+1:Nat):Int):=by rw[IntWalk.i64_in _ ab];rfl
  have hlf:(av L' ks us).leaf=false:=rfl
  unfold az at nn4
  unfold aC at cf
  rw[hlf] at nn4 cf
  refine rf1 (cj3 nn4 h14 @Bool.not_false) cf ?_
  refine Wp.reg ?_
  refine ao.part 7 (xAd (cj7 h04 nn4 hgo x1 x2 @and_self @Int.toNat_natCast)) ?_
  simp only[List.drop_succ_cons,List.drop_zero,List.drop_nil]
  refine ao.aY (vals:=[.ptr tid 0,.int .i64 (u.pg:Nat),.int .i64 (d:Int)]) ae xA4 (fun j hj=>g4.ltn hj) hn2 (fun r h' ⟨e,g',k',no'⟩=>no') fun q h5 ⟨hq,g5,k5,no5⟩ n5 _=>?_
  subst hq
  have nn5:=(k5 nid lnid).trans nn4
  unfold aC
  refine ao.part 1 (xAe nn5) ?_
  simp only[List.drop_succ_cons,List.drop_zero,List.drop_nil]
  refine ao.nil ⟨by simp[bw,aV,apart,aT],?_⟩
  refine rf0 e3 ?_
  have q:∀j,j≠nid→(upd h5.objs nid (some (az (bn L' u.ks u.kids))):Nat→Option Av.Obj) j=h5.objs j:=fun j hj=>by simp only[upd];rw[if_neg hj]
  refine ⟨(d+1,⟨L',u⟩,⟨upd h5.objs nid (some (az (bn L' u.ks u.kids))),h5.n,h5.toks,h5.m⟩),⟨by simp only;omega,⟨_,_,lu,cp3⟩,hfu,?_,fun j hj=>(q j ab).trans ((k5 j ab).trans (k4 j hj)),aq.trans (aq.trans no4 no5 ln4 n5) (aq.set nn5) ab (Nat.le_refl _),by simp only;omega,by simp only;omega,by simp[upd]⟩,by show L'<L'+1;omega,aK.tm ?_⟩
  ·have:=ew g.pg (j:=nid) ab
   exact g5.vd this ab _
  ·exact xSb
end
section
variable {x:PgI} {s:PgS} {T:List Nat} {h:H}
theorem xk {ks vs:List Bs} {key:Bs} (hr:right (aA ks vs)=true) (hn:Nb (aA ks vs)):
  bc Tryz.prog 42 [aC (aA ks vs),.str key] (.tup [.int .i64 (place (aA ks vs) key:Nat),.bool (bE (aA ks vs) key)]):=by
 have f:=nQ (aA ks vs) hn key
 have e1:dR (aA ks vs) key=place (aA ks vs) key:=by unfold dR;rw[if_pos hr]
 rw[e1] at f
 exact f
theorem AH {tid b0 b1 b2:Nat} (g:PgH x s T h) (ot:h.objs tid=some (trO x (-1))) (h0:h.objs b0=some (.cells [.ptr tid 0])):
  oN x T s 40 [.ptr b0 0,.ptr b1 0,.ptr b2 0] h 7:=by
 have ot:h.objs tid=some (.cells [.ptr x.P 0,.int .i64 (-1)]):=ot
 have d3:decide ((-1:Int)<0)=true:=by decide
 obtain ⟨v,h',hc,hn,rfl,rfl⟩:=aW.mP (Q:=fun v h'=>v=jo 7∧h'=h) (args:=[.ptr b0 0,.ptr b1 0,.ptr b2 0]) (h:=h) f40 af (by
  unfold c40 zz
  refine Wp.seq (Wp.seq ?_)
  refine Wp.cB (xAd (cj3 h0 ot d3)) ?_
  refine an.nil ?_
  refine Wp.cond_true (by simp only[go_sem,reduceIte,Nat.reduceEqDiff,Nat.reduceAdd,bx,d3]) ?_
  refine Wp.pN (aZ.eval (dg xA1) ?_)
  refine aZ.here (R:=fun v h'=>∃v',aQ.panic v= .panic v'∧v'=jo 7∧h'=h) (en:=aT) rfl (bF _) (fun ops i o ho hit=>fl ho hit rfl rfl rfl) (fun l hl=>by cases hl) ?_
  exact ⟨_,rfl,rfl,rfl⟩)
 exact ⟨_,hc,hn,g,fun _ _=>rfl,aq.refl _⟩
theorem CW {L tid b0 b1 b2 B:Nat} {t:Tr L} {key:Bs} (g:Ts x T tid s (some ⟨L,t⟩) B h) (h0:h.objs b0=some (.cells [.ptr tid 0])) (h1:h.objs b1=some (.cells [.str key])) (hL:L≤6) (hp:s.p.length<900000) (hf:fx (aN L t) key=none):
  oN x T s 40 [.ptr b0 0,.ptr b1 0,.ptr b2 0] h 7:=by
 have lt1:=g.pg.ltn (j:=b1) (by rw[h1];rfl)
 obtain ⟨v,h',hc,hn,rfl,hq⟩:=aW.mP (Q:=fun v h'=>v=jo 7∧PgH x s T h'∧Kept h h'∧aq h h') (args:=[.ptr b0 0,.ptr b1 0,.ptr b2 0]) (h:=h) f40 af (vj g h0 h1 hL hp fun h4 nid i ks vs g4 k4 no4 ln4 nn4 hr hz hfl hnid=>by
  unfold c40 zz
  simp only[tlC]
  have hof:bE (aA ks vs) key=false:=by
   rw[sa hr,hf] at hfl
   split at hfl
   ·cases hfl
   ·rename_i hh;simpa using hh
  have hsm:=bG (L:=0) hr (by show size (aA ks vs)≤1355;omega)
  have cf:=xk (key:=key) hr hsm.1
  rw[hof] at cf
  have h14:=(k4 b1 lt1).trans h1
  unfold az at nn4
  unfold aC at cf
  refine Wp.aR (xAd (cj2 nn4 h14)) ?_
  refine an.cd ae xA4 cf ?_
  refine an.evF xAc ?_
  refine an.nil ?_
  refine Wp.seq (Wp.seq ?_)
  refine Wp.cB (xAd @Bool.not_false) ?_
  refine an.nil ?_
  refine Wp.cond_true (by simp only[go_sem,reduceIte,Nat.reduceEqDiff,Nat.reduceAdd,bx,Bool.not_false]) ?_
  refine Wp.pN (aZ.eval (dg xA1) ?_)
  refine aZ.here (R:=fun v h'=>∃v',aQ.panic v= .panic v'∧v'=jo 7∧PgH x s T h'∧Kept h h'∧aq h h') (en:=aT) rfl (bF _) (fun ops i o ho hit=>fl ho hit rfl rfl rfl) (fun l hl=>by cases hl) ?_
  exact ⟨_,rfl,rfl,g4,k4,no4⟩)
 exact ⟨_,hc,hn,hq⟩
theorem AI {L tid b0 b1 b2 B:Nat} {t:Tr L} {key:Bs} {p:Pr} (g:Ts x T tid s (some ⟨L,t⟩) B h) (h0:h.objs b0=some (.cells [.ptr tid 0])) (h1:h.objs b1=some (.cells [.str key])) (h2:h.objs b2=some (.cells [.str []])) (t2:Tid x b2) (hL:L≤6) (hp:s.p.length<900000) (hf:fx (aN L t) key=some p):
  aM Tryz.prog 40 [.ptr b0 0,.ptr b1 0,.ptr b2 0] h fun q h'=>PgH x s T h'∧(∀j,j<h.n→j≠b2→h'.objs j=h.objs j)∧aq h h'∧h'.objs b2=some (.cells [.str p.v])∧h.n≤h'.n:=by
 have lt1:=g.pg.ltn (j:=b1) (by rw[h1];rfl)
 have lt2:=g.pg.ltn (j:=b2) (by rw[h2];rfl)
 refine f40.cq af (vj g h0 h1 hL hp fun h4 nid i ks vs g4 k4 no4 ln4 nn4 hr hz hfl hnid=>?_)
 unfold c40 zz
 simp only[tlC]
 rw[sa hr,hf] at hfl
 have hof:bE (aA ks vs) key=true:=by
  cases e:bE (aA ks vs) key with
  |true=>rfl
  |false=>rw[e] at hfl;simp at hfl
 rw[if_pos hof] at hfl
 obtain ⟨-,-,f1,f2,f3⟩:=dW hof
 have f1:place (aA ks vs) key<ks.length:=f1
 have f2:vs.length=ks.length:=f2
 have hsm:=bG (L:=0) hr (by show size (aA ks vs)≤1355;omega)
 have cf:=xk (key:=key) hr hsm.1
 rw[hof] at cf
 have h14:=(k4 b1 lt1).trans h1
 have h24:=(k4 b2 lt2).trans h2
 generalize place (aA ks vs) key=J at*
 have x1:(0:Int)≤(J:Int):=by omega
 have x2:(J:Int)<(((aA ks vs).vals.length:Nat):Int):=by simp[aA];omega
 have hgo:(strs (aA ks vs).vals).getD J .any= .str p.v:=by
  have e:p.v=vs.getD J []:=by rw[←Option.some.inj hfl]
  rw[e]
  show (strs vs).getD J .any=_
  simp[strs,List.getD,List.getElem?_eq_getElem (show J<vs.length by omega)]
 unfold az at nn4
 unfold aC at cf
 refine rf1 (cj9 nn4 h14 h24 hgo x1 x2 @and_self @Bool.not_true @Int.toNat_natCast) cf ?_
 have q:∀j,j≠b2→(upd h4.objs b2 (some (.cells [.str p.v])):Nat→Option Av.Obj) j=h4.objs j:=fun j hj=>by simp only[upd];rw[if_neg hj]
 refine ⟨trivial,.tup [],by simp[cJ,rvs],g4.vd t2 ab _,fun j hj hn=>(q j hn).trans (k4 j hj),aq.trans no4 (aq.set h24) ln4 (Nat.le_refl _),by simp[upd],ln4⟩
def GY (x:PgI) (T:List Nat) (tid:Nat) (s:PgS) (R:Rt) (B:Nat) (h:H) (b:Nat) (key:Bs) (q:AV) (h':H):Prop:=fJ x T tid s R B h h'∧∃v,h'.objs b=some (.cells [.str v])∧(match fx (aJ R) key with|some p=>AV.tup [.str p.v,.int .i64 0]|none=> .tup [.str [],.int .i64 7])= .tup [.str v,q]∧aP q=true
set_option maxHeartbeats 1000000 in
theorem GZ {tid B:Nat} {R:Rt} {key:Bs} (g:Ts x T tid s R B h) (hL:∀L t,R=some ⟨L,t⟩→L≤6) (hp:s.p.length<900000):
  aM Tryz.prog 14 [.ptr tid 0,.str key] h fun q h'=>fJ x T tid s R B h h'∧q=(match fx (aJ R) key with|some p=> .tup [.str p.v,.int .i64 0]|none=> .tup [.str [],.int .i64 7]):=by
 refine f14.cq af ?_
 unfold c14 zz
 have bb:=(((fJ.refl g).new (.cells [.ptr tid 0])).new (.cells [.str key])).new (.cells [.str []])
 have lt:=g.lt
 have ln3:(H.new (H.new (H.new h (.cells [.ptr tid 0])) (.cells [.str key])) (.cells [.str []])).n=h.n+1+1+1:=rfl
 have e0:(H.new (H.new (H.new h (.cells [.ptr tid 0])) (.cells [.str key])) (.cells [.str []])).objs h.n=some (.cells [.ptr tid 0]):=(aH (Nat.lt_succ_of_lt (Nat.lt_succ_self _))).trans ((aH (Nat.lt_succ_self _)).trans bV)
 have e1:(H.new (H.new (H.new h (.cells [.ptr tid 0])) (.cells [.str key])) (.cells [.str []])).objs (h.n+1)=some (.cells [.str key]):=(aH (Nat.lt_succ_self _)).trans (bV (h:=H.new h (.cells [.ptr tid 0])))
 have e2:(H.new (H.new (H.new h (.cells [.ptr tid 0])) (.cells [.str key])) (.cells [.str []])).objs (h.n+1+1)=some (.cells [.str []]):=bV (h:=H.new (H.new h (.cells [.ptr tid 0])) (.cells [.str key]))
 refine Wp.aR (xAd @and_self) ?_
 refine an.nil ?_
 refine Wp.aR (xAd @and_self) ?_
 refine an.nil ?_
 rw[bg]
 refine Wp.le (s':=⟨tm [(2,.ptr h.n 0),(3,.ptr (h.n+1) 0),(6,.ptr (h.n+1+1) 0)],H.new (H.new (H.new h (.cells [.ptr tid 0])) (.cells [.str key])) (.cells [.str []])⟩) (aK.of (bL ?_) (OLe.refl _) (fun y hy=>hy) (Nat.le_refl _) (Nat.le_refl _)) ?_
 ·exact xSb
 generalize H.new (H.new (H.new h (.cells [.ptr tid 0])) (.cells [.str key])) (.cells [.str []])=h3 at*
 have key2:aM Tryz.prog 34 [.ptr tid 0,.clo (.func 40) [] [.ptr h.n 0,.ptr (h.n+1) 0,.ptr (h.n+1+1) 0]] h3 (GY x T tid s R B h (h.n+1+1) key):=by
  have give:oN x T s 40 [.ptr h.n 0,.ptr (h.n+1) 0,.ptr (h.n+1+1) 0] h3 7→fx (aJ R) key=none→aM Tryz.prog 34 [.ptr tid 0,.clo (.func 40) [] [.ptr h.n 0,.ptr (h.n+1) 0,.ptr (h.n+1+1) 0]] h3 (GY x T tid s R B h (h.n+1+1) key):=by
   rintro ⟨h',hc,hn,g',k',no'⟩ hno
   refine (vc (Q:=fun h'=>PgH x s T h'∧Kept h3 h'∧aq h3 h'∧h3.n≤h'.n) (eU bb.ts) Tryz.func40 rfl (of_decide_eq_true (by kernel_rfl)) ⟨h',hc,hn.1,hn.2,g',k',no',hn.1⟩).mono ?_
   rintro q h' ⟨rfl,g',k',no',ln'⟩
   refine ⟨⟨bb.ts.keep g' (k' tid bb.ts.lt) (Nat.le_refl _),bb.sm.trans (eK.of (dA k')) bb.ln,aq.trans bb.no no' bb.ln ln',Nat.le_trans bb.ln ln',fun j hj=>(k' j ab).trans (bb.kp j hj)⟩,[],(k' _ ab).trans e2,?_,rfl⟩
   rw[hno]
  cases hR:fx (aJ R) key with
  |none=>
   cases R with
   |none=>exact give (AH bb.ts.pg bb.ts.ot e0) rfl
   |some r=>
    obtain ⟨L,t⟩:=r
    exact give (CW bb.ts e0 e1 (hL L t rfl) hp hR) hR
  |some p=>
   cases R with
   |none=>cases hR
   |some r=>
    obtain ⟨L,t⟩:=r
    refine (vb (eU bb.ts) Tryz.func40 rfl (of_decide_eq_true (by kernel_rfl)) (AI bb.ts e0 e1 e2 (ew g.pg ab) (hL L t rfl) hp hR)).mono ?_
    rintro q h' ⟨rfl,r,g',k',no',hb,ln'⟩
    refine ⟨⟨bb.ts.keep g' (k' tid bb.ts.lt ab) (Nat.le_refl _),fun j hj a1 a2=>(k' j ab ab).trans (bb.kp j hj),aq.trans bb.no no' bb.ln ln',Nat.le_trans bb.ln ln',fun j hj=>(k' j ab ab).trans (bb.kp j hj)⟩,p.v,hb,?_,rfl⟩
    rw[hR]
 refine rf0 e0 ?_
 refine an.aY (vals:=[.ptr tid 0,.clo (.func 40) [] [.ptr h.n 0,.ptr (h.n+1) 0,.ptr (h.n+1+1) 0]]) ae xA4 key2 fun q h4 ⟨b4,v,hv,e,hqc⟩ n4 _=>?_
 rw[e]
 refine an.evF xAc ?_
 refine an.nil ?_
 refine rf0 hv ?_
 refine Wp.ret ?_
 refine ⟨trivial,.tup [.str v,q],?_,b4,rfl⟩
 simp only[go_sem]
 exact rfl
end
end Go.Proofs.YtbgmofhgfnmaiaaGreat.Tree
end
section
set_option maxRecDepth 100000
namespace Go.Av
section
variable {P:Program} {N:Nat}
theorem ao.FH {dst:Option Nat} {g:Option (Nat × Bool)} {f:FuncId} {fn:Func} {y:Opd} {l:List Opd} {its:List aO} {t:Tm} {h:H} {log:List Ent} {K:Tm→H→List Ent→Prop} {first caps vals:List AV} {Q:AV→H→Prop}
  (hg:guardOf t g=some true) (hy:ev t y= .clo (.func f) first caps) (hf:P.funcs[f]? =some fn) (hb:fn.body.isSome=true) (hn:fn.name≠ "runtime.NumGoroutine") (hs:au (first++l.map (ev t)++caps) vals)
  (hl:∀j,(h.objs j).isSome=true→j<h.n) (hc:aM P f vals h Q) (no:∀r h',Q r h'→aq h h')
  (rest:∀r h',Q r h'→h.n≤h'.n→h.m≤h'.m→ao P N its (bY t dst r) h' (⟨[],List.range h'.n,h.toks++h'.toks⟩::log) K):ao P N (⟨dst,g,.callv y l⟩::its) t h log K:=by
 obtain ⟨r,h',hc,n1,m1,hq⟩:=hc
 exact ao.step (ft hl n1 m1 (no r h' hq)) (fun ops i o ho hit=>iB ho hit hg rfl hy hf hb hn hs hc) (fun h=>by simp[bT] at h) (rest r h' hq n1 m1)
end
end Go.Av
namespace Go.Proofs.YtbgmofhgfnmaiaaGreat.Tree
open Go Go.Av Go.Proofs Go.Proofs.YtbgmofhgfnmaiaaGreat.C Go.Proofs.YtbgmofhgfnmaiaaGreat.Page
open Go.Proofs.YtbgmofhgfnmaiaaGreat.Batch (Bs Pr prs aS)
def il (to:Bs) (p:Pr):Bool:= !decide (to=[])&& !Op.bytesLess p.k to
def dV (to:Bs) (most:Int):List Pr→List Pr→List Pr × Bool
 |[],acc=>(acc,true)
 |p::l,acc=>if il to p=true then (acc,false) else if ((acc.length+1:Nat):Int)=most then (acc++[p],false) else dV to most l (acc++[p])
theorem qx (to:Bs) (most:Int):∀(a b acc:List Pr),dV to most (a++b) acc=if (dV to most a acc).2=true then dV to most b (dV to most a acc).1 else dV to most a acc
 |[],b,acc=>by simp[dV]
 |p::a,b,acc=>by
  simp only[List.cons_append,dV]
  split
  ·simp
  ·split
   ·simp
   ·exact qx to most a b (acc++[p])
theorem qy (to:Bs) (most:Int):∀(l acc:List Pr),(dV to most l acc).1.length≤acc.length+l.length
 |[],acc=>by simp[dV]
 |p::l,acc=>by
  simp only[dV]
  split
  ·simp only[List.length_cons];omega
  ·split
   ·simp
   ·have:=qy to most l (acc++[p])
    simp at this ⊢
    omega
structure Sc (x:PgI) (s:PgS) (T:List Nat) (h0:H) (bo:Nat) (acc:List Pr) (h:H):Prop where
 pg:∃tk,PgH x s (tkT tk T) h∧h.objs bo=some (.cells [.sl 2 (prs acc) (tkC tk)])∧(tk=none→acc=[])∧∀t,tk=some t→t∉T
 kp:∀j,j<h0.n→j≠bo→h.objs j=h0.objs j
 no:aq h0 h
 ln:h0.n≤h.n
theorem Sc.fresh {x:PgI} {s:PgS} {T:List Nat} {h0 h:H} {bo:Nat} {acc:List Pr} (g:Sc x s T h0 bo acc h):∀j,(h.objs j).isSome=true→j<h.n:=by
 obtain ⟨tk,g,-⟩:=g.pg
 exact fun j hj=>g.ltn hj
def lE (bo:Nat) (h h':H):Prop:=∀j,j<h.n→j≠bo→h'.objs j=h.objs j
theorem PgH.grow {x:PgI} {s:PgS} {T T1:List Nat} {h:H} (g:PgH x s T1 h) {bo:Nat} (tb:Tid x bo) (hb:bo<h.n) (hT:∀t∈T,t∈T1) (o:Av.Obj):PgH x s (h.m::T) ⟨upd h.objs bo (some o),h.n,tkT s.tk (h.m::T),h.m+1⟩:=by
 have g2:=g.vd tb hb o
 exact {
  oP:=g2.oP,oA:=g2.oA,oU:=g2.oU,oD:=g2.oD,oK:=g2.oK,oI:=g2.oI,lt:=g2.lt,ne:=g2.ne,fresh:=g2.fresh,toks:=rfl
  tm:=fun t ht=>by
   rcases List.mem_cons.1 ht with rfl|ht
   ·exact Nat.lt_succ_self _
   ·exact Nat.lt_succ_of_lt (g.tm t (hT t ht))
  tkm:=fun t e=>⟨Nat.lt_succ_of_lt (g.tkm t e).1,fun a=>by
   rcases List.mem_cons.1 a with rfl|a
   ·exact Nat.lt_irrefl _ (g.tkm _ e).1
   ·exact (g.tkm t e).2 (hT t a)⟩
  tk0:=g.tk0}
section
variable {x:PgI} {s:PgS} {T:List Nat} {h0 h:H}
set_option maxHeartbeats 1000000 in
theorem Et {bo bt bm:Nat} {acc:List Pr} {to:Bs} {most:Int} {p:Pr} (g:Sc x s T h0 bo acc h) (tb:Tid x bo) (hbo:bo<h0.n) (ht:h0.objs bt=some (.cells [.str to])) (hm:h0.objs bm=some (.cells [.int .i64 most])) (l1:bt<h0.n) (l2:bm<h0.n) (n1:bt≠bo) (n2:bm≠bo) (hl:acc.length≤1000000):
  aM Tryz.prog 39 [aS p,.ptr bt 0,.ptr bo 0,.ptr bm 0] h fun q h'=>q= .bool (dV to most [p] acc).2∧Sc x s T h0 bo (dV to most [p] acc).1 h'∧aq h h'∧lE bo h h':=by
 refine f39.cq af ?_
 unfold c39 zz
 obtain ⟨tk,pg,hb,hz,hT⟩:=g.pg
 have ht1:=(g.kp bt l1 n1).trans ht
 have hm1:=(g.kp bm l2 n2).trans hm
 have kp:=g.kp
 have no:=g.no
 have ln:=g.ln
 have hbl:bo<h.n:=by omega
 have nb:h.n≠bo:=by omega
 have e0:=bV (h:=h) (o:= .cells [.str p.k,.str p.v])
 have pg1:=pg.new (.cells [.str p.k,.str p.v])
 have hb1:=(aH (h:=h) (o:= .cells [.str p.k,.str p.v]) hbl).trans hb
 have ht2:=(aH (h:=h) (o:= .cells [.str p.k,.str p.v]) (show bt<h.n by omega)).trans ht1
 have hm2:=(aH (h:=h) (o:= .cells [.str p.k,.str p.v]) (show bm<h.n by omega)).trans hm1
 have kp1:∀j,j<h0.n→j≠bo→(H.new h (.cells [.str p.k,.str p.v])).objs j=h0.objs j:=fun j a b=>(aH ab).trans (kp j a b)
 have no1:aq h0 (H.new h (.cells [.str p.k,.str p.v])):=aq.trans no bC ln (Nat.le_succ _)
 have no2:aq h (H.new h (.cells [.str p.k,.str p.v])):=bC
 have ln1:h0.n≤(H.new h (.cells [.str p.k,.str p.v])).n:=Nat.le_succ_of_le ln
 have hn1:(H.new h (.cells [.str p.k,.str p.v])).n=h.n+1:=rfl
 have kb1:lE bo h (H.new h (.cells [.str p.k,.str p.v])):=fun j a _=>aH a
 refine Wp.seq ?_
 refine Wp.cB (xAd @aS.eq_1) ?_
 refine an.nil ?_
 refine Wp.le (s':=⟨tm [(1,.ptr bt 0),(2,.ptr bo 0),(3,.ptr bm 0),(4,.ptr h.n 0)],H.new h (.cells [.str p.k,.str p.v])⟩) (aK.of (bL ?_) (OLe.refl _) (fun y hy=>hy) (Nat.le_refl _) (Nat.le_refl _)) ?_
 ·exact xSb
 generalize H.new h (.cells [.str p.k,.str p.v])=h1 at*
 by_cases hs:il to p=true
 ·have er:dV to most [p] acc=(acc,false):=by simp only[dV];rw[if_pos hs]
  rw[er]
  have d1:decide (to=[])=false:=by
   simp only[il,Bool.and_eq_true,Bool.not_eq_true'] at hs;exact hs.1
  have d2:Op.bytesLess p.k to=false:=by
   simp only[il,Bool.and_eq_true,Bool.not_eq_true'] at hs;exact hs.2
  refine rf0 (cj5 ht2 e0 d1 d2 @Bool.not_false) ?_
  refine Wp.ret ⟨trivial,.bool false,?_,rfl,⟨⟨tk,pg1,hb1,hz,hT⟩,kp1,no1,ln1⟩,no2,kb1⟩
  simp only[go_sem]
  exact rfl
 ·have hs:il to p=false:=by simpa using hs
  have er:dV to most [p] acc=(acc++[p],decide (¬(((acc.length+1:Nat):Int)=most))):=by
   simp only[dV,hs,Bool.false_eq_true,if_false]
   split<;>simp_all
  rw[er]
  refine Wp.uh [1,2,3,4] xA7 [] ?_ ?_
  ·show Wp _ _ _ _ _
   by_cases d:to=[]
   ·have d1:=decide_eq_true d
    refine rf0 (cj3 ht2 e0 d1) ?_
    refine aK.tm ?_
    exact xSb
   ·have d1:=decide_eq_false d
    have d2:Op.bytesLess p.k to=true:=by
     simp only[il,d1,Bool.not_false,Bool.true_and,Bool.not_eq_false'] at hs;exact hs
    refine rf0 (cj5 ht2 e0 d1 d2 @Bool.not_true) ?_
    refine aK.tm ?_
    exact xSb
  have er2:prs (acc++[p])=prs acc++[.agg [.str p.k,.str p.v]]:=by simp[prs,aS]
  have hll:(prs acc).length=acc.length:=by simp[prs]
  have r1:(acc.length+1)*32≤140737488355328:=by omega
  have r2:acc.length+1<4611686018427387904:=by omega
  cases tk with
  |none=>
   obtain rfl:=hz rfl
   replace hb1:h1.objs bo=some (.cells [.sl 2 [] (.exact 0)]):=hb1
   simp only[List.append_nil]
   have r4:(1:Nat)<4611686018427387904:=by decide
   refine rf0 (cT hb1 e0 r4 @true_or @or_true @and_self @List.nil_append.{0} @List.length_nil.{0} @List.length_cons.{0} @Nat.zero_add hm2 n2) ?_
   refine Wp.le (s':=⟨tm [(5,.bool (!decide (((0+1:Nat):Int)=most)))],⟨upd h1.objs bo (some (.cells [.sl 2 [.agg [.str p.k,.str p.v]] (.own h1.m)])),h1.n,tkT s.tk (h1.m::T),h1.m+1⟩⟩) (aK.of (bL ?_) (OLe.refl _) (fun y hy=>?_) (Nat.le_refl _) (Nat.le_refl _)) ?_
   ·exact xSb
   ·simp only[pg1.toks]
    simp only[tkT] at hy ⊢
    cases hk:s.tk<;>rw[hk] at hy<;>simp only[List.mem_cons] at hy ⊢ <;>grind
   refine Wp.ret ⟨trivial,.bool (!decide (((0+1:Nat):Int)=most)),?_,?_,⟨⟨some h1.m,pg1.grow tb ab (fun t h=>h) _,?_,fun e=>(by cases e),fun t e a=>?_⟩,fun j a b=>?_,?_,ln1⟩,?_,fun j a b=>?_⟩
   ·simp only[go_sem]
    exact rfl
   ·simp
   ·simp[upd,prs,aS,tkC]
   ·cases e;exact absurd (pg1.tm _ a) (Nat.lt_irrefl _)
   ·simp only[upd];rw[if_neg b];exact kp1 j a b
   ·exact aq.trans no1 (aq.set hb1) ln1 (Nat.le_refl _)
   ·exact aq.trans no2 (aq.set hb1) ab (Nat.le_refl _)
   ·simp only[upd];rw[if_neg b];exact kb1 j a b
  |some t=>
   replace hb1:h1.objs bo=some (.cells [.sl 2 (prs acc) (.own t)]):=hb1
   have htok:=pg1.toks
   have hmem:t∈h1.toks:=by
    rw[htok]
    unfold tkT
    cases s.tk<;>simp
   simp only[List.append_nil]
   refine rf0 (cT hb1 e0 hmem hll r1 r2 @List.length_nil.{0} @List.length_cons.{0} @Nat.zero_add hm2 n2 @List.length_append.{0}) ?_
   refine Wp.le (s':=⟨tm [(5,.bool (!decide (((acc.length+1:Nat):Int)=most)))],⟨upd h1.objs bo (some (.cells [.sl 2 (prs acc++[.agg [.str p.k,.str p.v]]) (.own h1.m)])),h1.n,tkT s.tk (h1.m::T),h1.m+1⟩⟩) (aK.of (bL ?_) (OLe.refl _) (fun y hy=>?_) (Nat.le_refl _) (Nat.le_refl _)) ?_
   ·exact xSb
   ·have hT:=hT t rfl
    have hk:=pg1.tkm
    simp only[pg1.toks]
    simp only[tkT] at hy hk ⊢
    cases hq:s.tk with
    |none=>
     rw[hq] at hy
     simp at hy ⊢
     rcases hy with rfl|hy
     ·exact .inl rfl
     ·right;grind
    |some k=>
     rw[hq] at hy
     have:=(hk k hq).2
     simp at hy this ⊢
     rcases hy with rfl|rfl|hy
     ·right;grind
     ·exact .inl rfl
     ·right;grind
   refine Wp.ret ⟨trivial,.bool (!decide (((acc.length+1:Nat):Int)=most)),?_,?_,⟨⟨some h1.m,pg1.grow tb ab (fun t h=>List.mem_cons_of_mem _ h) _,?_,fun e=>(by cases e),fun t e a=>?_⟩,fun j a b=>?_,?_,ln1⟩,?_,fun j a b=>?_⟩
   ·simp only[go_sem]
    exact rfl
   ·simp
   ·simp[upd,prs,aS,tkC]
   ·cases e;exact absurd (pg1.tm _ (List.mem_cons_of_mem _ a)) (Nat.lt_irrefl _)
   ·simp only[upd];rw[if_neg b];exact kp1 j a b
   ·exact aq.trans no1 (aq.set hb1) ln1 (Nat.le_refl _)
   ·exact aq.trans no2 (aq.set hb1) ab (Nat.le_refl _)
   ·simp only[upd];rw[if_neg b];exact kb1 j a b
end
end Go.Proofs.YtbgmofhgfnmaiaaGreat.Tree
end
section
set_option maxRecDepth 100000
namespace Go.Proofs.YtbgmofhgfnmaiaaGreat.Tree
open Go Go.Av Go.Proofs Go.Proofs.YtbgmofhgfnmaiaaGreat.C Go.Proofs.YtbgmofhgfnmaiaaGreat.Page
open Go.Proofs.YtbgmofhgfnmaiaaGreat.Batch (Bs Pr prs aS)
structure ju (s:PgS) (L:Nat) (lo:Bs) (hi:Option Bs) (t:Tr L):Prop where
 on:On s L t
 wf:WF L lo hi t
 nd:(bp L t).Nodup
 st:∀j∈bp L t,stt s j≠0∧j<s.np
structure Ts0 (x:PgI) (T:List Nat) (tid:Nat) (s:PgS) (R:Rt) (h:H):Prop where
 pg:PgH x s T h
 ok:bP s
 ot:h.objs tid=some (trO x (rpg R))
 tx:Tid x tid
 rk:∀L t,R=some ⟨L,t⟩→ju s L [] none t
structure iR (x:PgI) (T:List Nat) (tid:Nat) (s:PgS) (R:Rt) (h h1:H):Prop where
 ts:Ts0 x T tid s R h1
 no:aq h h1
 ln:h.n≤h1.n
 kp:∀j,j<h.n→h1.objs j=h.objs j
section
variable {x:PgI} {s:PgS} {T:List Nat} {h h1:H} {tid B:Nat} {R:Rt}
theorem Ts.z (g:Ts x T tid s R B h):Ts0 x T tid s R h:=⟨g.pg,g.ok,g.ot,g.tx,fun L t e=>by
 subst e
 have k:=g.rk.1
 exact ⟨k.on,k.wf,k.nd,fun j hj=>⟨by have:=(k.st j hj).1;omega,(k.st j hj).2⟩⟩⟩
theorem Ts0.lt (g:Ts0 x T tid s R h):tid<h.n:=g.pg.ltn (by rw[g.ot];rfl)
theorem Ts0.keep (g:Ts0 x T tid s R h) (pg:PgH x s T h1) (k:h1.objs tid=h.objs tid):Ts0 x T tid s R h1:=⟨pg,g.ok,k.trans g.ot,g.tx,g.rk⟩
theorem Ts0.op (g:Ts0 x T tid s R h):oJ h tid:=⟨_,_,_,g.ot⟩
theorem iR.refl (g:Ts0 x T tid s R h):iR x T tid s R h h:=⟨g,aq.refl h,Nat.le_refl _,fun _ _=>rfl⟩
theorem iR.new (b:iR x T tid s R h h1) (o:Av.Obj):iR x T tid s R h (H.new h1 o):=
 ⟨b.ts.keep (b.ts.pg.new o) (aH b.ts.lt),aq.trans b.no bC b.ln (Nat.le_succ _),Nat.le_succ_of_le b.ln,fun j hj=>(aH (Nat.lt_of_lt_of_le hj b.ln)).trans (b.kp j hj)⟩
theorem fJ.of (g:Ts x T tid s R B h) (b:iR x T tid s R h h1):fJ x T tid s R B h h1:=⟨g.keep b.ts.pg (b.kp tid g.lt) (Nat.le_refl _),fun j hj _ _=>b.kp j hj,b.no,b.ln,b.kp⟩
end
def dD (key:Bs) (l:List Pr):List Pr:=l.filter fun p=> !Op.bytesLess p.k key
theorem qz (key:Bs) (a b:List Pr):dD key (a++b)=dD key a++dD key b:=List.filter_append ..
theorem yr {key:Bs} {l:List Pr} (h:∀p∈l,Lt p.k key):dD key l=[]:=gJ fun p hp=>by simp[h p hp]
theorem CX {key:Bs} {l:List Pr} (h:∀p∈l,Le key p.k):dD key l=l:=filter_all fun p hp=>by
 have:=h p hp
 simpa using this
theorem AJ {ks vs:List Bs} {key:Bs} (h:right (aA ks vs)=true):dD key (List.zipWith Pr.mk ks vs)=(List.zipWith Pr.mk ks vs).drop (place (aA ks vs) key):=by
 obtain ⟨p1,p2,p3⟩:=jr h key
 generalize place (aA ks vs) key=i at*
 rw[nB ks vs i,qz,yr fun p hp=>p1 _ (eB hp),CX fun p hp=>p2 _ (eB hp),←nB ks vs i,List.drop_zipWith]
 rfl
theorem vk {L:Nat} {lo:Bs} {hi:Option Bs} {ks:List Bs} {us:List (Tr L)} {key:Bs} (h:bH (WF L) lo hi ks us) (j:Nat) (hj:j≤ks.length) (h1:∀k∈ks.take j,Le k key):∀p∈((us.take j).map (aN L)).flatten,Lt p.k key:=by
 cases j with
 |zero=>simp
 |succ i=>
  have e:ks=ks.take i++ks[i]::ks.drop (i+1):=by rw[←List.drop_eq_getElem_cons ab,List.take_append_drop]
  have c:=h
  rw[e,←List.take_append_drop (i+1) us] at c
  have hl:=h.len
  obtain ⟨c1,-⟩:=c.cut ak
  intro p hp
  have q:=(kE (jq L) c1).1 p hp
  exact uT (q.2 _ rfl) (h1 _ (pd _ (Nat.lt_succ_self _)))
section
variable {x:PgI} {s:PgS} {T:List Nat} {h0 h:H} {bo:Nat} {acc:List Pr}
theorem Sc.new (g:Sc x s T h0 bo acc h) (hbo:bo<h0.n) (o:Av.Obj):Sc x s T h0 bo acc (H.new h o):=by
 obtain ⟨tk,pg,a,b,c⟩:=g.pg
 have ln:=g.ln
 exact ⟨⟨tk,pg.new o,(aH ab).trans a,b,c⟩,fun j hj hb=>(aH ab).trans (g.kp j hj hb),aq.trans g.no bC g.ln (Nat.le_succ _),Nat.le_succ_of_le g.ln⟩
theorem CY {L tid d:Nat} {r:Int} {lo:Bs} {hi:Option Bs} {t:Tr L} (g:Sc x s T h0 bo acc h) (hbo:bo<h0.n) (ok:bP s) (ht:h0.objs tid=some (trO x r)) (l1:tid<h0.n) (n1:tid≠bo) (lv:ju s L lo hi t) (hp:s.p.length<900000) (hd:d≤20):
  aM Tryz.prog 41 [.ptr tid 0,.int .i64 (t.pg:Nat),.int .i64 (d:Int)] h fun q h'=>q=aC (bn L t.ks t.kids)∧Sc x s T h0 bo acc h'∧Kept h h'∧aq h h'∧h.n≤h'.n:=by
 obtain ⟨tk,pg,a,b,c⟩:=g.pg
 obtain ⟨hs,hi'⟩:=lv.st t.pg (by simp[bp])
 have ln:=g.ln
 have hnd:=iP (tid:=tid) (i:=t.pg) (d:=d) pg ok ((g.kp tid l1 n1).trans ht) hi' (by show stt s t.pg≠0;omega) hp hd lv.on.1.1
 rw[lv.on.1.2] at hnd
 obtain ⟨q,h',hc,hn,hm,e,g',k',no'⟩:=hnd
 exact ⟨q,h',hc,hn,hm,e,⟨⟨tk,g',(k' bo ab).trans a,b,c⟩,fun j hj hb=>(k' j ab).trans (g.kp j hj hb),aq.trans g.no no' g.ln hn,ab⟩,k',no',hn⟩
def mg (bt bo bm:Nat):AV:= .clo (.func 39) [] [.ptr bt 0,.ptr bo 0,.ptr bm 0]
set_option maxHeartbeats 2000000 in
theorem AK {tid bt bm d:Nat} {r:Int} {lo key to:Bs} {hi:Option Bs} {most:Int} {t:Tr 0} (g:Sc x s T h0 bo acc h) (ok:bP s) (tb:Tid x bo) (hbo:bo<h0.n) (hi':h0.objs tid=some (trO x r)) (l0:tid<h0.n) (n0:tid≠bo) (ht:h0.objs bt=some (.cells [.str to])) (hm:h0.objs bm=some (.cells [.int .i64 most])) (l1:bt<h0.n) (l2:bm<h0.n) (n1:bt≠bo) (n2:bm≠bo)
  (lv:ju s 0 lo hi t) (hl:acc.length+(aN 0 t).length≤1000000) (hp:s.p.length<900000) (hd:d≤20):
  aM Tryz.prog 38 [.ptr tid 0,.int .i64 (t.pg:Nat),.int .i64 (d:Int),.str key,mg bt bo bm] h fun q h'=>q= .bool (dV to most (dD key (aN 0 t)) acc).2∧Sc x s T h0 bo (dV to most (dD key (aN 0 t)) acc).1 h'∧aq h h'∧lE bo h h':=by
 have hnd:=CY g hbo ok hi' l0 n0 lv hp hd
 obtain ⟨i,ks,vs'⟩:=t
 obtain ⟨vs,hvs⟩:∃vs:List Bs,vs=vs':=⟨vs',rfl⟩
 subst hvs
 obtain ⟨hr,hz,h3,h4⟩:=lv.wf
 have hr:right (aA ks vs)=true:=hr
 have hz:size (aA ks vs)≤1024:=hz
 have hnd:aM Tryz.prog 41 [.ptr tid 0,.int .i64 (i:Nat),.int .i64 (d:Int)] h fun q h'=>q=aC (aA ks vs)∧Sc x s T h0 bo acc h'∧Kept h h'∧aq h h'∧h.n≤h'.n:=hnd
 have hsm:=bG (L:=0) hr (by show size (aA ks vs)≤1355;omega)
 have cf:=xk (key:=key) hr hsm.1
 have hpr:aN 0 (⟨i,ks,vs⟩:Nd Bs)=List.zipWith Pr.mk ks vs:=rfl
 obtain ⟨r1,r2,-⟩:=(bA (n:=aA ks vs) rfl).1 hr
 have r2:vs.length=ks.length:=r2
 have hfr:=AJ (key:=key) hr
 obtain ⟨-,-,p3⟩:=jr hr key
 show aM _ _ _ _ fun q h'=>q= .bool (dV to most (dD key (List.zipWith Pr.mk ks vs)) acc).2∧Sc x s T h0 bo (dV to most (dD key (List.zipWith Pr.mk ks vs)) acc).1 h'∧aq h h'∧lE bo h h'
 have hl:acc.length+(List.zipWith Pr.mk ks vs).length≤1000000:=hl
 have hzl:(List.zipWith Pr.mk ks vs).length=ks.length:=by simp[r2]
 rw[hfr]
 refine f38.cq af ?_
 unfold c38 zz
 obtain ⟨yf,hyf⟩:∃yf,yf=mg bt bo bm:=⟨_,rfl⟩
 rw[←hyf]
 refine rf0 @and_self ?_
 refine an.aY (vals:=[.ptr tid 0,.int .i64 (i:Int),.int .i64 (d:Int)]) ae xA4 hnd fun q h2 ⟨hq,g2,k2,no2,ln2⟩ nq _=>?_
 subst hq
 unfold aC
 refine an.evF xAc ?_
 rw[bg]
 refine an.nil ?_
 have g3:=g2.new hbo (az (aA ks vs))
 have no3:aq h (H.new h2 (az (aA ks vs))):=aq.trans no2 bC ln2 (Nat.le_succ _)
 have nn3:=bV (h:=h2) (o:=az (aA ks vs))
 have ln3:(H.new h2 (az (aA ks vs))).n=h2.n+1:=rfl
 refine Wp.le (s':=⟨tm [(0,.ptr tid 0),(2,.int .i64 (d:Int)),(3,.str key),(4,yf),(11,.ptr h2.n 0)],H.new h2 (az (aA ks vs))⟩) (aK.of (bL ?_) (OLe.refl _) (fun y hy=>hy) (Nat.le_refl _) (Nat.le_refl _)) ?_
 ·exact xSb
 have ko3:∀j,j<h2.n→(H.new h2 (az (aA ks vs))).objs j=h2.objs j:=fun j hj=>aH hj
 generalize H.new h2 (az (aA ks vs))=h3' at*
 have kb3:lE bo h h3':=fun j a b=>(ko3 j ab).trans (k2 j a)
 unfold aC at cf
 unfold az at nn3
 refine rf1 nn3 cf ?_
 generalize hJ:place (aA ks vs) key=J at*
 have nnb:h2.n≠bo:=by have:=g.ln;omega
 generalize hnid:h2.n=nid at*
 clear cf hnd hfr
 obtain ⟨Z,hZ⟩:∃Z,Z=List.zipWith Pr.mk ks vs:=⟨_,rfl⟩
 rw[←hZ] at hl hzl ⊢
 refine Wp.eV [4,11] xA7 (fun b:Nat × List Pr × H=>[(16,.int .i64 (b.1:Int))]) (fun b=>b.2.2) (fun b=>b.1≤ks.length∧Sc x s T h0 bo b.2.1 b.2.2∧dV to most (Z.drop b.1) b.2.1=dV to most (Z.drop J) acc∧aq h b.2.2∧lE bo h b.2.2∧nid<b.2.2.n∧h.n≤b.2.2.n∧b.2.2.objs nid=some (az (aA ks vs))∧b.2.1.length+(Z.drop b.1).length≤1000000) (fun b=>ks.length - b.1) (J,acc,h3') ⟨p3,g3,rfl,no3,kb3,by simp only;omega,by simp only;omega,nn3,by simp only[List.length_drop];omega⟩ rfl ?_ ?_
 ·exact xSb
 clear g3 no3 nn3 kb3 g2
 rintro ⟨k,ac,h4⟩ ⟨hk,g4,hrun,no4,kb4,ln4,lm4,nn4,ll4⟩
 simp only at hk g4 hrun no4 kb4 ln4 lm4 nn4 ll4
 have hkl:(strs (aA ks vs).keys).length=ks.length:=by simp[aA,strs]
 unfold az at nn4
 by_cases hc:k<ks.length
 ·have x1:(0:Int)≤(k:Int):=by omega
  have x2:(k:Int)<(((aA ks vs).keys.length:Nat):Int):=by simp[aA];omega
  have x3:(k:Int)<(((aA ks vs).vals.length:Nat):Int):=by simp[aA];omega
  have dk:=decide_eq_true x2
  have hgk:(strs (aA ks vs).keys).getD k .any= .str ks[k]:=by
   show (strs ks).getD k .any=_
   simp[strs,List.getD,List.getElem?_eq_getElem hc]
  have hgv:(strs (aA ks vs).vals).getD k .any= .str (vs[k]'(by omega)):=by
   show (strs vs).getD k .any=_
   simp[strs,List.getD,List.getElem?_eq_getElem (show k<vs.length by omega)]
  have hZk:Z.drop k=⟨ks[k],vs[k]'(by omega)⟩::Z.drop (k+1):=by
   rw[List.drop_eq_getElem_cons ab]
   congr 1
   simp[hZ]
  generalize ks[k]=K0 at*
  generalize vs[k]'(by omega)=V0 at*
  rw[hZk] at hrun ll4
  simp only[List.length_cons] at ll4
  have hy:=Et (p:=⟨K0,V0⟩) g4 tb hbo ht hm l1 l2 n1 n2 ab
  have happ:=qx to most [⟨K0,V0⟩] (Z.drop (k+1)) ac
  rw[List.singleton_append,hrun] at happ
  have hlen:=qy to most [⟨K0,V0⟩] ac
  simp only[List.length_singleton] at hlen
  generalize dV to most [⟨K0,V0⟩] ac=rs at*
  generalize hZ2:Z.drop (k+1)=Zk at*
  have nn5:=nn4
  refine rf0 (cj2 nn4 dk) ?_
  refine Wp.reg ?_
  refine ao.part 12 (xAd (cj8 nn4 hgk hgv x1 x2 x3 @and_self @Int.toNat_natCast)) ?_
  simp only[List.drop_succ_cons,List.drop_zero,List.drop_nil]
  refine ao.FH (f:=39) (first:=[]) (caps:=[.ptr bt 0,.ptr bo 0,.ptr bm 0]) (vals:=[aS ⟨K0,V0⟩,.ptr bt 0,.ptr bo 0,.ptr bm 0]) ae (by simp only[go_sem,reduceIte,Nat.reduceEqDiff,hyf,mg]) Tryz.func39 rfl (of_decide_eq_true (by kernel_rfl)) (by simp only[go_sem,reduceIte,Nat.reduceEqDiff,List.map,List.nil_append,List.cons_append];exact au.refl _) g4.fresh hy (fun r h' ⟨e,g',no',kb'⟩=>no') fun q h5 ⟨e5,g5,no5,kb5⟩ n5 _=>?_
  subst e5
  have nn6:=(kb5 nid ln4 nnb).trans nn5
  refine ao.part 1 xA1 ?_
  simp only[List.drop_succ_cons,List.drop_zero,List.drop_nil]
  refine ao.nil ⟨by simp[bw,aV,apart,aT],?_⟩
  cases hb:rs.2 with
  |false=>
   rw[hb] at happ
   simp only[Bool.false_eq_true,if_false] at happ
   refine rf0 @Bool.not_false ?_
   rw[happ]
   refine Wp.ret ⟨trivial,.bool false,?_,by rw[hb],g5,aq.trans no4 no5 ab ab,fun j a b=>(kb5 j ab b).trans (kb4 j a b)⟩
   simp only[go_sem]
   exact rfl
  |true=>
   rw[hb] at happ
   simp only[if_true] at happ
   have e3:IntKind.i64.wrap ((k:Int)+1)=((k+1:Nat):Int):=by rw[IntWalk.i64_in _ ab];rfl
   refine rf0 (cj2 @Bool.not_true e3) ?_
   refine ⟨(k+1,rs.1,h5),⟨by simp only;omega,g5,by simp only;rw[hZ2];exact happ.symm,aq.trans no4 no5 ab ab,fun j a b=>(kb5 j ab b).trans (kb4 j a b),by simp only;omega,by simp only;omega,nn6,by simp only;rw[hZ2];omega⟩,by simp only;omega,aK.tm ?_⟩
   exact xSb
 ·have dk:decide ((k:Int)<(((aA ks vs).keys.length:Nat):Int))=false:=decide_eq_false (by simp[aA];omega)
  have he:Z.drop k=[]:=List.drop_eq_nil_of_le ab
  rw[he] at hrun
  rw[←hrun]
  refine rf0 (cj2 nn4 dk) ?_
  refine Wp.ret ⟨trivial,.bool true,?_,rfl,g4,no4,kb4⟩
  simp only[go_sem]
  exact rfl
set_option maxHeartbeats 2000000 in
theorem CZ:∀(L:Nat) (t:Tr L) (lo:Bs) (hi:Option Bs) (h:H) (acc:List Pr) (d:Nat) {tid bt bm:Nat} {r:Int} {key to:Bs} {most:Int},Sc x s T h0 bo acc h→bP s→Tid x bo→bo<h0.n→h0.objs tid=some (trO x r)→tid<h0.n→tid≠bo→h0.objs bt=some (.cells [.str to])→h0.objs bm=some (.cells [.int .i64 most])→bt<h0.n→bm<h0.n→bt≠bo→bm≠bo→
  ju s L lo hi t→acc.length+(aN L t).length≤1000000→s.p.length<900000→d+L≤20→
  aM Tryz.prog 38 [.ptr tid 0,.int .i64 (t.pg:Nat),.int .i64 (d:Int),.str key,mg bt bo bm] h fun q h'=>q= .bool (dV to most (dD key (aN L t)) acc).2∧Sc x s T h0 bo (dV to most (dD key (aN L t)) acc).1 h'∧aq h h'∧lE bo h h'
 |0,t,lo,hi,h,acc,d,tid,bt,bm,r,key,to,most,g,ok,tb,hbo,hi',l0,n0,ht,hm,l1,l2,n1,n2,lv,hl,hp,hd=>AK g ok tb hbo hi' l0 n0 ht hm l1 l2 n1 n2 lv hl hp ab
 |L+1,t',lo,hi,h,acc,d,tid,bt,bm,r,key,to,most,g,ok,tb,hbo,hi',l0,n0,ht,hm,l1,l2,n1,n2,lv',hl,hp,hd=>by
  have hnd:=CY g hbo ok hi' l0 n0 lv' hp (show d≤20 by omega)
  obtain ⟨i,ks,us'⟩:=t'
  obtain ⟨us,hus⟩:∃us:List (Tr L),us=us':=⟨us',rfl⟩
  subst hus
  have hnd:aM Tryz.prog 41 [.ptr tid 0,.int .i64 (i:Nat),.int .i64 (d:Int)] h fun q h'=>q=aC (av L ks us)∧Sc x s T h0 bo acc h'∧Kept h h'∧aq h h'∧h.n≤h'.n:=hnd
  have lv':ju s (L+1) lo hi (mkT L i ks us):=lv'
  obtain ⟨hr,hz,hw⟩:=lv'.wf
  have hw:bH (WF L) lo hi ks us:=hw
  have hr:right (av L ks us)=true:=hr
  have hz:size (av L ks us)≤1024:=hz
  obtain ⟨pa1,pa2,pa3⟩:=gr (key:=key) hr
  have hbl:=vk hw _ pa3 pa1
  have hul:us.length=ks.length+1:=hw.len
  have hsm:=bG (L:=L+1) (ks:=ks) (kids:=us) hr (by show size (av L ks us)≤1355;omega)
  have cf:=xi (key:=key) hr hsm.1
  have hst:=lv'.st
  have hndp:=lv'.nd
  have lvu:∀k u,us[k]? =some u→∃lo' hi'',ju s L lo' hi'' u:=fun k u hu=>by
   have hum:u∈us:=List.mem_of_getElem? hu
   have hk:k<us.length:=(List.getElem?_eq_some_iff.1 hu).1
   obtain ⟨u',hu',wu,-⟩:=hw.at (j:=k) ab
   rw[hu] at hu'
   cases hu'
   have hpg:=gK (i:=i) (ks:=ks) hu
   have hnd:=hndp
   have hst:=hst
   rw[hpg] at hnd hst
   refine ⟨_,_,(dT.1 lv'.on.2) u hum,wu,?_,fun j hj=>hst j (by simp[hj])⟩
   simp only[List.nodup_cons,List.nodup_append] at hnd
   exact hnd.2.2.1.1
  have hpr:dD key (aN (L+1) (mkT L i ks us))=dD key (((us.drop (place (av L ks us) key)).map (aN L)).flatten):=by
   show dD key ((us.map (aN L)).flatten)=_
   conv=>lhs;rw[←List.take_append_drop (place (av L ks us) key) us]
   rw[List.map_append,List.flatten_append,qz,yr hbl]
   rfl
  have hlt:acc.length+(((us.drop (place (av L ks us) key)).map (aN L)).flatten).length≤1000000:=by
   have hl:acc.length+((us.map (aN L)).flatten).length≤1000000:=hl
   rw[←List.take_append_drop (place (av L ks us) key) us,List.map_append,List.flatten_append,List.length_append] at hl
   omega
  show aM _ _ _ _ fun q h'=>q= .bool (dV to most (dD key (aN (L+1) (mkT L i ks us))) acc).2∧Sc x s T h0 bo (dV to most (dD key (aN (L+1) (mkT L i ks us))) acc).1 h'∧aq h h'∧lE bo h h'
  rw[hpr]
  refine f38.cq af ?_
  unfold c38 zz
  obtain ⟨yf,hyf⟩:∃yf,yf=mg bt bo bm:=⟨_,rfl⟩
  rw[←hyf]
  refine rf0 @and_self ?_
  refine an.aY (vals:=[.ptr tid 0,.int .i64 (i:Int),.int .i64 (d:Int)]) ae xA4 hnd fun q h2 ⟨hq,g2,k2,no2,ln2⟩ nq _=>?_
  subst hq
  unfold aC
  refine an.evF xAc ?_
  rw[bg]
  refine an.nil ?_
  have g3:=g2.new hbo (az (av L ks us))
  have no3:aq h (H.new h2 (az (av L ks us))):=aq.trans no2 bC ln2 (Nat.le_succ _)
  have nn3:=bV (h:=h2) (o:=az (av L ks us))
  have ln3:(H.new h2 (az (av L ks us))).n=h2.n+1:=rfl
  refine Wp.le (s':=⟨tm [(0,.ptr tid 0),(2,.int .i64 (d:Int)),(3,.str key),(4,yf),(11,.ptr h2.n 0)],H.new h2 (az (av L ks us))⟩) (aK.of (bL ?_) (OLe.refl _) (fun y hy=>hy) (Nat.le_refl _) (Nat.le_refl _)) ?_
  ·exact xSb
  have ko3:∀j,j<h2.n→(H.new h2 (az (av L ks us))).objs j=h2.objs j:=fun j hj=>aH hj
  generalize H.new h2 (az (av L ks us))=h3' at*
  have kb3:lE bo h h3':=fun j a b=>(ko3 j ab).trans (k2 j a)
  unfold aC at cf
  unfold az at nn3
  generalize hJ:place (av L ks us) key=J at*
  have hkl:(av L ks us).kids.length=us.length:=by simp[av]
  have x1:(0:Int)≤(J:Int):=by omega
  have x2:(J:Int)≤(((av L ks us).kids.length:Nat):Int):=by omega
  have hlf:(av L ks us).leaf=false:=rfl
  rw[hlf] at nn3 cf
  refine rf1 (cj6 nn3 @Bool.not_false x1 x2 @and_self @Int.toNat_natCast) cf ?_
  have hW:List.drop J (List.take (av L ks us).kids.length (ints (av L ks us).kids))=(us.drop J).map (fun u=>AV.int .i64 ((u.pg:Nat):Int)):=by
   rw[List.take_of_length_le (by simp[ints])]
   simp[ints,av,List.map_drop]
   rfl
  rw[hW]
  clear hW
  obtain ⟨vs,hvs⟩:∃vs:List (Tr L),vs=us.drop J:=⟨_,rfl⟩
  have hvl:vs.length=us.length - J:=by rw[hvs];simp
  have lvv:∀k u,vs[k]? =some u→∃lo' hi'',ju s L lo' hi'' u:=fun k u hu=>by
   rw[hvs,List.getElem?_drop] at hu
   exact lvu _ _ hu
  rw[←hvs] at hlt ⊢
  obtain ⟨W,hW⟩:∃W,W=vs.map (fun u=>AV.int .i64 ((u.pg:Nat):Int)):=⟨_,rfl⟩
  have hWl:W.length=vs.length:=by rw[hW];simp
  rw[←hW]
  have hlz:us.length≤1000000:=by
   have e:size (av L ks us)=7+5*ks.length+tot ks:=by simp[size,av]
   have e2:(av L ks us).keys.length=ks.length:=rfl
   omega
  refine Wp.eV [0,2,3,4,33,34] xA7 (fun b:Nat × List Pr × H=>[(35,.int .i64 (b.1:Int))]) (fun b=>b.2.2) (fun b=>b.1≤vs.length∧Sc x s T h0 bo b.2.1 b.2.2∧dV to most (dD key (((vs.drop b.1).map (aN L)).flatten)) b.2.1=dV to most (dD key ((vs.map (aN L)).flatten)) acc∧aq h b.2.2∧lE bo h b.2.2∧h.n≤b.2.2.n∧b.2.1.length+(((vs.drop b.1).map (aN L)).flatten).length≤1000000) (fun b=>vs.length - b.1) (0,acc,h3') ⟨Nat.zero_le _,g3,rfl,no3,kb3,by simp only;omega,hlt⟩ rfl ?_ ?_
  ·exact xSb
  clear g3 no3 nn3 kb3 g2
  rintro ⟨k,ac,h4⟩ ⟨hk,g4,hrun,no4,kb4,lm4,ll4⟩
  simp only at hk g4 hrun no4 kb4 lm4 ll4
  by_cases hc:k<vs.length
  ·have x1:(0:Int)≤(k:Int):=by omega
   have x2:(k:Int)<((W.length:Nat):Int):=by omega
   have dk:=decide_eq_true x2
   obtain ⟨lo2,hi2,lu⟩:=lvv k vs[k] (List.getElem?_eq_getElem hc)
   have hgk:W.getD k .any= .int .i64 ((vs[k].pg:Nat):Int):=by
    rw[hW]
    simp[List.getD,List.getElem?_eq_getElem hc]
   have hdk:vs.drop k=vs[k]::vs.drop (k+1):=List.drop_eq_getElem_cons hc
   rw[hdk,List.map_cons,List.flatten_cons] at hrun ll4
   rw[qz] at hrun
   generalize vs[k]=u at*
   rw[List.length_append] at ll4
   have hy:=CZ L u lo2 hi2 h4 ac (d+1) (key:=key) g4 ok tb hbo hi' l0 n0 ht hm l1 l2 n1 n2 lu ab hp ab
   have happ:=qx to most (dD key (aN L u)) (dD key (((vs.drop (k+1)).map (aN L)).flatten)) ac
   rw[hrun] at happ
   have hlen:=qy to most (dD key (aN L u)) ac
   have hlen2:(dD key (aN L u)).length≤(aN L u).length:=List.length_filter_le _ _
   generalize dV to most (dD key (aN L u)) ac=rs at*
   have e3:IntKind.i64.wrap ((d:Int)+1)=((d+1:Nat):Int):=by rw[IntWalk.i64_in _ ab];rfl
   rw[←hyf] at hy
   refine rf0 (cj7 dk hgk x1 x2 @and_self @Int.toNat_natCast e3) ?_
   refine an.aY (vals:=[.ptr tid 0,.int .i64 (u.pg:Nat),.int .i64 ((d+1:Nat):Int),.str key,yf]) ae xA4 hy fun q h5 ⟨e5,g5,no5,kb5⟩ n5 _=>?_
   subst e5
   refine an.evF xAc ?_
   refine an.nil ?_
   cases hb:rs.2 with
   |false=>
    rw[hb] at happ
    simp only[Bool.false_eq_true,if_false] at happ
    rw[happ]
    refine rf0 @Bool.not_false ?_
    refine Wp.ret ⟨trivial,.bool false,?_,by rw[hb],g5,aq.trans no4 no5 ab ab,fun j a b=>(kb5 j ab b).trans (kb4 j a b)⟩
    simp only[go_sem]
    exact rfl
   |true=>
    rw[hb] at happ
    simp only[if_true] at happ
    have e4:IntKind.i64.wrap ((k:Int)+1)=((k+1:Nat):Int):=by rw[IntWalk.i64_in _ ab];rfl
    refine rf0 (cj2 @Bool.not_true e4) ?_
    refine ⟨(k+1,rs.1,h5),⟨by simp only;omega,g5,happ.symm,aq.trans no4 no5 ab ab,fun j a b=>(kb5 j ab b).trans (kb4 j a b),by simp only;omega,by simp only;omega⟩,by simp only;omega,aK.tm ?_⟩
    exact xSb
  ·have dk:decide ((k:Int)<((W.length:Nat):Int))=false:=decide_eq_false ab
   have he:vs.drop k=[]:=List.drop_eq_nil_of_le ab
   rw[he] at hrun
   have hrun:(ac,true)=dV to most (dD key ((vs.map (aN L)).flatten)) acc:=hrun
   rw[←hrun]
   refine rf0 dk ?_
   refine Wp.ret ⟨trivial,.bool true,?_,rfl,g4,no4,kb4⟩
   simp only[go_sem]
   exact rfl
end
def jv (l:List Pr) (key to:Bs) (most:Int):List Pr:=if most=0 then [] else (dV to most (dD key l) []).1
section
variable {x:PgI} {s:PgS} {T:List Nat} {h:H}
set_option maxHeartbeats 1000000 in
theorem G4 {tid b0 b1 b2 b3 b4:Nat} {R:Rt} {key to:Bs} {most:Int} (g:Ts0 x T tid s R h) (h0:h.objs b0=some (.cells [.ptr tid 0])) (h1:h.objs b1=some (.cells [.int .i64 most])) (h2:h.objs b2=some (.cells [.str key])) (h3:h.objs b3=some (.cells [.str to])) (h4:h.objs b4=some (.cells [.sl 2 [] (.exact 0)])) (t4:Tid x b4) (n3:b3≠b4) (n1:b1≠b4) (nt:tid≠b4)
  (hL:∀L t,R=some ⟨L,t⟩→L≤6) (hp:s.p.length<900000) (hl:(aJ R).length≤1000000):
  aM Tryz.prog 37 [.ptr b0 0,.ptr b1 0,.ptr b2 0,.ptr b3 0,.ptr b4 0] h fun q h'=>Sc x s T h b4 (jv (aJ R) key to most) h':=by
 have l1:=g.pg.ltn (j:=b1) (by rw[h1];rfl)
 have l3:=g.pg.ltn (j:=b3) (by rw[h3];rfl)
 have l4:=g.pg.ltn (j:=b4) (by rw[h4];rfl)
 have lt:=g.lt
 have sc0:Sc x s T h b4 [] h:=⟨⟨none,g.pg,h4,fun _=>rfl,fun t e=>by cases e⟩,fun _ _ _=>rfl,aq.refl h,Nat.le_refl _⟩
 refine f37.cq af ?_
 unfold c37 zz
 have ot:h.objs tid=some (.cells [.ptr x.P 0,.int .i64 (rpg R)]):=g.ot
 have stop:jv (aJ R) key to most=[]→Sc x s T h b4 (jv (aJ R) key to most) h:=fun e=>e▸sc0
 cases R with
 |none=>
  have ot:h.objs tid=some (.cells [.ptr x.P 0,.int .i64 (-1)]):=ot
  have d3:decide ((-1:Int)<0)=true:=by decide
  refine rf0 (cj5 h0 h1 h2 ot d3) ?_
  refine Wp.ret ⟨trivial,.tup [],by simp[cJ,rvs],stop (by unfold jv aJ dD dV;simp)⟩
 |some r=>
  obtain ⟨L,t⟩:=r
  have ot:h.objs tid=some (.cells [.ptr x.P 0,.int .i64 ((t.pg:Nat):Int)]):=ot
  have d3:decide (((t.pg:Nat):Int)<0)=false:=decide_eq_false ab
  by_cases hm:most=0
  ·have d4:=decide_eq_true hm
   refine rf0 (cj6 h0 h1 h2 ot d3 d4) ?_
   refine Wp.ret ⟨trivial,.tup [],by simp[cJ,rvs],stop (by unfold jv;rw[if_pos hm])⟩
  ·have d4:=decide_eq_false hm
   have lv:=g.rk L t rfl
   have hw:=CZ L t [] none h [] 1 (key:=key) sc0 g.ok t4 l4 g.ot lt nt h3 h1 l3 l1 n3 n1 lv (by simpa [aJ] using hl) hp (by have:=hL L t rfl;omega)
   refine rf0 (cj6 h0 h1 h2 ot d3 d4) ?_
   refine Wp.reg ?_
   refine ao.part 7 (xAe (cj4 h0 h1 h2 ot)) ?_
   simp only[List.drop_succ_cons,List.drop_zero,List.drop_nil]
   refine ao.aY (vals:=[.ptr tid 0,.int .i64 (t.pg:Nat),.int .i64 ((1:Nat):Int),.str key,mg b3 b4 b1]) ae (by simp only[go_sem,reduceIte,Nat.reduceEqDiff,List.map,mg];exact au.refl _) (fun j hj=>g.pg.ltn hj) hw (fun r h' ⟨e,g',no',kb'⟩=>no') fun q h2 ⟨hq,g2,no2,kb2⟩ nq _=>?_
   refine ao.nil ⟨by simp[bw,aV,apart,aT],?_⟩
   refine ⟨trivial,.tup [],by simp[cJ,rvs],?_⟩
   unfold jv
   rw[if_neg hm]
   exact g2
theorem PgH.C4 {tk:Option Nat} (g:PgH x s (tkT tk T) h):PgH x s T {h with toks:=tkT s.tk T} where
 oP:=g.oP
 oA:=g.oA
 oU:=g.oU
 oD:=g.oD
 oK:=g.oK
 oI:=g.oI
 lt:=g.lt
 ne:=g.ne
 fresh:=g.fresh
 toks:=rfl
 tm t ht:=g.tm t (by cases tk<;>simp[tkT,ht])
 tkm t e:=⟨(g.tkm t e).1,fun a=>(g.tkm t e).2 (by cases tk<;>simp[tkT,a])⟩
 tk0:=g.tk0
theorem Eu {tk sk:Option Nat} {T:List Nat}:∀y∈tkT sk T,y∈tkT sk (tkT tk T):=fun y hy=>by
 cases sk<;>cases tk<;>simp[tkT] at hy ⊢
 ·exact hy
 ·exact .inr hy
 ·exact hy
 ·rcases hy with a|a
  ·exact .inl a
  ·exact .inr (.inr a)
set_option maxHeartbeats 1000000 in
theorem FJ {tid:Nat} {R:Rt} {key to:Bs} {most:Int} (g:Ts0 x T tid s R h) (hL:∀L t,R=some ⟨L,t⟩→L≤6) (hp:s.p.length<900000) (hl:(aJ R).length≤1000000):
  aM Tryz.prog 13 [.ptr tid 0,.str key,.str to,.int .i64 most] h fun q h'=>iR x T tid s R h h'∧q= .tup [.sl 2 (prs (jv (aJ R) key to most)) .any,.int .i64 0]:=by
 refine f13.cq af ?_
 unfold c13 zz
 have b1:=(iR.refl g).new (.cells [.ptr tid 0])
 have b2:=b1.new (.cells [.str key])
 have b3:=b2.new (.cells [.str to])
 have b4:=b3.new (.cells [.int .i64 most])
 have bb:=b4.new (.cells [.sl 2 [] (.exact 0)])
 have lt:=g.lt
 obtain ⟨h5,hh⟩:∃h5,h5=H.new (H.new (H.new (H.new (H.new h (.cells [.ptr tid 0])) (.cells [.str key])) (.cells [.str to])) (.cells [.int .i64 most])) (.cells [.sl 2 [] (.exact 0)]):=⟨_,rfl⟩
 have e0:h5.objs h.n=some (.cells [.ptr tid 0]):=by rw[hh];simp only[H.new,upd];(repeat rw[if_neg ab]);simp
 have e1:h5.objs (h.n+1)=some (.cells [.str key]):=by rw[hh];simp[H.new,upd]
 have e2:h5.objs (h.n+1+1)=some (.cells [.str to]):=by rw[hh];simp[H.new,upd]
 have e3:h5.objs (h.n+1+1+1)=some (.cells [.int .i64 most]):=by rw[hh];simp[H.new,upd]
 have e4:h5.objs (h.n+1+1+1+1)=some (.cells [.sl 2 [] (.exact 0)]):=by rw[hh];simp[H.new,upd]
 have ln5:h5.n=h.n+1+1+1+1+1:=by rw[hh];rfl
 rw[←hh] at bb
 refine Wp.aR (xAd @and_self) ?_
 refine an.nil ?_
 refine Wp.aR (xAd @and_self) ?_
 refine an.nil ?_
 refine Wp.le (s':=⟨tm [(4,.ptr h.n 0),(5,.ptr (h.n+1) 0),(6,.ptr (h.n+1+1) 0),(7,.ptr (h.n+1+1+1) 0),(10,.ptr (h.n+1+1+1+1) 0)],h5⟩) (aK.of (bL ?_) (by rw[hh];exact OLe.refl _) (fun y hy=>by rw[hh] at hy;exact hy) (by rw[hh];exact Nat.le_refl _) (by rw[hh];exact Nat.le_refl _)) ?_
 ·exact xSb
 clear hh b1 b2 b3 b4
 have key2:aM Tryz.prog 34 [.ptr tid 0,.clo (.func 37) [] [.ptr h.n 0,.ptr (h.n+1+1+1) 0,.ptr (h.n+1) 0,.ptr (h.n+1+1) 0,.ptr (h.n+1+1+1+1) 0]] h5 fun q h'=>q= .int .i64 0∧Sc x s T h5 (h.n+1+1+1+1) (jv (aJ R) key to most) h':=by
  refine (vb bb.ts.op Tryz.func37 rfl (of_decide_eq_true (by kernel_rfl)) (G4 bb.ts e0 e3 e1 e2 e4 (ew g.pg ab) ab ab ab hL hp hl)).mono ?_
  rintro q h' ⟨rfl,r,sc⟩
  exact ⟨rfl,sc⟩
 refine rf0 e0 ?_
 refine an.aY (vals:=[.ptr tid 0,.clo (.func 37) [] [.ptr h.n 0,.ptr (h.n+1+1+1) 0,.ptr (h.n+1) 0,.ptr (h.n+1+1) 0,.ptr (h.n+1+1+1+1) 0]]) ae xA4 key2 fun q h6 ⟨hq,sc⟩ n6 _=>?_
 subst hq
 obtain ⟨⟨tk,pg,hb,hz,hT⟩,kp,no,ln⟩:=sc
 generalize jv (aJ R) key to most=out at*
 refine an.evF xAc ?_
 refine an.nil ?_
 have d0:decide ((0:Int)=0)=true:=by decide
 refine rf0 (cj3 hb d0 @Bool.not_true) ?_
 refine Wp.le (s':=⟨tm [(8,.sl 2 (prs out) .any),(9,.int .i64 0)],{h6 with toks:=tkT s.tk T}⟩) (aK.of (bL ?_) (OLe.refl _) (fun y hy=>?_) (Nat.le_refl _) (Nat.le_refl _)) ?_
 ·simp only[ba,go_sem,reduceIte,Nat.reduceEqDiff,Nat.reduceAdd,bx];and_intros<;>first|exact trivial|exact ay.refl _|exact ay.any _|exact ay.cap|(refine ay.int ?_;omega)
 ·rw[pg.toks];exact Eu y hy
 refine Wp.ret ⟨trivial,.tup [.sl 2 (prs out) .any,.int .i64 0],?_,⟨bb.ts.keep pg.C4 (kp tid (by have:=bb.ts.lt;omega) ab),aq.trans bb.no no bb.ln ln,Nat.le_trans bb.ln ln,fun j hj=>(kp j ab ab).trans (bb.kp j hj)⟩,rfl⟩
 simp only[go_sem]
 exact rfl
theorem C5 {tid B:Nat} {R:Rt} {key to:Bs} {most:Int} (g:Ts x T tid s R B h) (hL:∀L t,R=some ⟨L,t⟩→L≤6) (hp:s.p.length<900000) (hl:(aJ R).length≤1000000):
  aM Tryz.prog 13 [.ptr tid 0,.str key,.str to,.int .i64 most] h fun q h'=>fJ x T tid s R B h h'∧q= .tup [.sl 2 (prs (jv (aJ R) key to most)) .any,.int .i64 0]:=
 (FJ g.z hL hp hl).mono fun q h' ⟨b,e⟩=>⟨.of g b,e⟩
end
def fL (lo:Bs) (hi:Option Bs):List AV:=[.str lo,.str (hi.getD []),.bool hi.isNone]
theorem C6 {lo key:Bs} {hi:Option Bs} (hb:inB lo hi key):bc Tryz.prog 70 [.agg (fL lo hi),.str key] (.bool true):=by
 refine f70.dB af (by simp[aU,bq,cR,fL]) (by simp[bq,cR]) ?_
 unfold c70 zz
 have d1:Op.bytesLess key lo=false:=hb.1
 unfold fL
 cases hi with
 |none=>
  simp only[Option.getD_none,Option.isNone_none]
  refine an0 (cj2 d1 @Bool.not_false) ?_
  refine Wp.ret ⟨trivial,.bool true,?_,ay.refl _⟩
  simp only[go_sem]
  exact rfl
 |some b=>
  have d2:Op.bytesLess key b=true:=hb.2 b rfl
  simp only[Option.getD_some,Option.isNone_some]
  refine an0 (cj3 d1 d2 @Bool.not_false) ?_
  refine Wp.ret ⟨trivial,.bool true,?_,ay.refl _⟩
  simp only[go_sem]
  exact rfl
section
variable {x:PgI} {s:PgS} {T:List Nat} {h:H}
theorem FK {L tid d:Nat} {r:Int} {lo:Bs} {hi:Option Bs} {t:Tr L} (g:PgH x s T h) (ok:bP s) (ht:h.objs tid=some (trO x r)) (lv:ju s L lo hi t) (hp:s.p.length<900000) (hd:d≤20):
  aM Tryz.prog 41 [.ptr tid 0,.int .i64 (t.pg:Nat),.int .i64 (d:Int)] h fun q h'=>q=aC (bn L t.ks t.kids)∧PgH x s T h'∧Kept h h'∧aq h h':=by
 obtain ⟨hs,hi'⟩:=lv.st t.pg (by simp[bp])
 have hnd:=iP (tid:=tid) (i:=t.pg) (d:=d) g ok ht hi' (by show stt s t.pg≠0;omega) hp hd lv.on.1.1
 rw[lv.on.1.2] at hnd
 exact hnd
set_option maxHeartbeats 2000000 in
theorem qA {L tid d:Nat} {r:Int} {lo:Bs} {hi:Option Bs} {t:Tr L} {Q:aQ→St→Prop} (g:PgH x s T h) (ok:bP s) (ht:h.objs tid=some (trO x r)) (lv:ju s L lo hi t) (hp:s.p.length<900000) (hd:d≤20) (hkb:∀k∈t.ks,inB lo hi k) (hkl:t.ks.length≤1000000)
  (hK:∀(h':H) (bb nid:Nat),PgH x s T h'→Kept h h'→aq h h'→h.n≤h'.n→bb<h'.n→nid<h'.n→h.n≤nid→h.n≤bb→h'.objs bb=some (.cells (fL lo hi))→h'.objs nid=some (az (bn L t.ks t.kids))→Wp Tryz.prog 100 (tlC (tlC (tlC c36))) ⟨tm [(0,.ptr tid 0),(2,.int .i64 (d:Int)),(7,.ptr bb 0),(8,.int .i64 0),(9,.int .i64 0),(10,.ptr nid 0)],h'⟩ Q):
  Wp Tryz.prog 100 c36 ⟨fB [.ptr tid 0,.int .i64 (t.pg:Nat),.int .i64 (d:Int),.agg (fL lo hi)],h⟩ Q:=by
 unfold c36 at hK ⊢
 simp only[tlC] at hK
 have hnk:∀k,(strs (bn L t.ks t.kids).keys).getD k .any=(strs t.ks).getD k .any:=fun k=>by cases L<;>rfl
 have hnl:(bn L t.ks t.kids).keys.length=t.ks.length:=by cases L<;>rfl
 have lt:=g.ltn (j:=tid) (by rw[ht];rfl)
 obtain ⟨h1,hh1⟩:∃h1,h1=H.new h (.cells (fL lo hi)):=⟨_,rfl⟩
 have g1:PgH x s T h1:=hh1▸g.new _
 have hb1:h1.objs h.n=some (.cells (fL lo hi)):=hh1▸bV
 have k1:Kept h h1:=fun j hj=>hh1▸aH hj
 have no1:aq h h1:=hh1▸bC
 have ln1:h1.n=h.n+1:=hh1▸rfl
 have hnd:=FK (d:=d) g1 ok ((k1 tid lt).trans ht) lv hp hd
 refine Wp.seq ?_
 unfold fL at hh1
 refine Wp.cB (xAd @fL.eq_1) ?_
 refine an.nil ?_
 refine Wp.le (s':=⟨tm [(0,.ptr tid 0),(1,.int .i64 (t.pg:Nat)),(2,.int .i64 (d:Int)),(7,.ptr h.n 0),(8,.int .i64 0),(9,.int .i64 0)],h1⟩) (aK.of (bL ?_) (by rw[hh1];exact OLe.refl _) (fun y hy=>by rw[hh1] at hy;exact hy) (by rw[hh1];exact Nat.le_refl _) (by rw[hh1];exact Nat.le_refl _)) ?_
 ·exact xSb
 clear hh1
 refine rf0 @and_self ?_
 refine an.aY (vals:=[.ptr tid 0,.int .i64 (t.pg:Nat),.int .i64 (d:Int)]) ae xA4 hnd fun q h2 ⟨hq,g2,k2,no2⟩ nq _=>?_
 subst hq
 unfold aC
 refine an.evF xAc ?_
 rw[bg]
 refine an.nil ?_
 obtain ⟨h3,hh3⟩:∃h3,h3=H.new h2 (az (bn L t.ks t.kids)):=⟨_,rfl⟩
 have g3:PgH x s T h3:=hh3▸g2.new _
 have k3:Kept h1 h3:=fun j hj=>hh3▸(aH ab).trans (k2 j hj)
 have no3:aq h h3:=aq.trans no1 (hh3▸aq.trans no2 bC nq (Nat.le_succ _)) ab (by rw[hh3];exact Nat.le_succ_of_le nq)
 have nn3:h3.objs h2.n=some (az (bn L t.ks t.kids)):=hh3▸bV
 have ln3:h3.n=h2.n+1:=hh3▸rfl
 refine Wp.le (s':=⟨tm [(0,.ptr tid 0),(2,.int .i64 (d:Int)),(7,.ptr h.n 0),(8,.int .i64 0),(9,.int .i64 0),(10,.ptr h2.n 0)],h3⟩) (aK.of (bL ?_) (by rw[hh3];exact OLe.refl _) (fun y hy=>by rw[hh3] at hy;exact hy) (by rw[hh3];exact Nat.le_refl _) (by rw[hh3];exact Nat.le_refl _)) ?_
 ·exact xSb
 clear hh3
 have hb3:=(k3 h.n ab).trans hb1
 have W:=hK h3 h.n h2.n g3 (fun j hj=>(k3 j ab).trans (k1 j hj)) no3 ab ab ab ab ab hb3 nn3
 refine Wp.jI _ ?_ W
 clear W hK
 generalize h.n=bb at*
 generalize h2.n=nid at*
 obtain ⟨KL,hKL⟩:∃KL,KL=strs (bn L t.ks t.kids).keys:=⟨_,rfl⟩
 have hKl:KL.length=t.ks.length:=by rw[hKL];simp[strs,hnl]
 unfold az at nn3
 rw[←hKL] at nn3
 refine rf0 nn3 ?_
 refine Wp.eV [0,2,7,8,9,10,23,24] xA7 (fun k:Nat=>[(25,.int .i64 (k:Int))]) (fun _=>h3) (fun k=>k≤t.ks.length) (fun k=>t.ks.length - k) 0 (Nat.zero_le _) rfl ?_ ?_
 ·exact xSb
 intro k hk
 by_cases hc:k<t.ks.length
 ·have x1:(0:Int)≤(k:Int):=by omega
  have x2:(k:Int)<((KL.length:Nat):Int):=by omega
  have dk:=decide_eq_true x2
  have hgk:KL.getD k .any= .str t.ks[k]:=by
   rw[hKL,hnk]
   simp[strs,List.getD,List.getElem?_eq_getElem hc]
  have cw:=C6 (hkb t.ks[k] (List.getElem_mem hc))
  generalize t.ks[k]=K0 at*
  have e4:IntKind.i64.wrap ((k:Int)+1)=((k+1:Nat):Int):=by rw[IntWalk.i64_in _ ab];rfl
  unfold fL at hb3 cw
  refine rf1 (cj9 dk hgk x1 x2 @and_self @Int.toNat_natCast e4 hb3 @Bool.not_true) cw ?_
  refine ⟨k+1,ab,ab,aK.tm ?_⟩
  exact xSb
 ·have dk:decide ((k:Int)<((KL.length:Nat):Int))=false:=decide_eq_false ab
  refine rf0 dk ?_
  exact aK.tm (by
   exact xSb
   )
def tw (x:PgI) (s:PgS) (T:List Nat) (h:H) (tid:Nat) (L:Nat) (lo:Bs) (hi:Option Bs) (t:Tr L) (d:Nat):Prop:=aM Tryz.prog 36 [.ptr tid 0,.int .i64 (t.pg:Nat),.int .i64 (d:Int),.agg (fL lo hi)] h fun q h'=>q= .tup [.int .i64 ((aN L t).length:Nat),.int .i64 ((d+L:Nat):Int)]∧PgH x s T h'∧Kept h h'∧aq h h'
theorem xl {tid d:Nat} {r:Int} {lo:Bs} {hi:Option Bs} {t:Tr 0} (g:PgH x s T h) (ok:bP s) (ht:h.objs tid=some (trO x r)) (lv:ju s 0 lo hi t) (hp:s.p.length<900000) (hd:d≤20) (hl:(aN 0 t).length≤1000000):tw x s T h tid 0 lo hi t d:=by
 obtain ⟨i,ks,vs'⟩:=t
 obtain ⟨vs,hvs⟩:∃vs:List Bs,vs=vs':=⟨vs',rfl⟩
 subst hvs
 obtain ⟨hr,hz,h3,h4⟩:=lv.wf
 have hr:right (aA ks vs)=true:=hr
 have h3:0<ks.length:=h3
 obtain ⟨r1,r2,-⟩:=(bA (n:=aA ks vs) rfl).1 hr
 have r2:vs.length=ks.length:=r2
 have hpl:(aN 0 (⟨i,ks,vs⟩:Nd Bs)).length=ks.length:=by
  show (List.zipWith Pr.mk ks vs).length=_
  simp[r2]
 have hl:ks.length≤1000000:=hpl▸hl
 have h4:∀k∈ks,inB lo hi k:=h4
 show aM _ _ _ _ fun q h'=>q= .tup [.int .i64 ((aN 0 (⟨i,ks,vs⟩:Nd Bs)).length:Nat),.int .i64 ((d+0:Nat):Int)]∧_
 rw[hpl]
 refine f36.cq af (qA (L:=0) g ok ht lv hp hd h4 hl fun h' bb nid g' k' no' ln' lb ln l1 l2 hb hn=>?_)
 have hn:h'.objs nid=some (az (aA ks vs)):=hn
 unfold c36 zz
 simp only[tlC]
 have hlf:(aA ks vs).leaf=true:=rfl
 have hkl:(aA ks vs).keys.length=ks.length:=rfl
 have d0:decide (((ks.length:Nat):Int)=0)=false:=decide_eq_false ab
 unfold az at hn
 rw[hlf] at hn
 refine rf0 (cj3 hn hkl d0) ?_
 refine Wp.ret ⟨trivial,.tup [.int .i64 (ks.length:Nat),.int .i64 ((d+0:Nat):Int)],?_,rfl,g',k',no'⟩
 simp only[go_sem]
 exact rfl
end
section
variable {x:PgI} {s:PgS} {T:List Nat}
theorem cS {f:Nat→Option Av.Obj} {i:Nat} {a b:Option Av.Obj}:upd (upd f i a) i b=upd f i b:=by
 funext j;simp only[upd];split<;>rfl
set_option maxHeartbeats 4000000 in
theorem yt:∀(L:Nat) (t:Tr L) (lo:Bs) (hi:Option Bs) (h:H) (d:Nat) {tid:Nat} {r:Int},PgH x s T h→bP s→h.objs tid=some (trO x r)→ju s L lo hi t→(aN L t).length≤1000000→s.p.length<900000→d+L≤20→tw x s T h tid L lo hi t d
 |0,t,lo,hi,h,d,tid,r,g,ok,ht,lv,hl,hp,hd=>xl g ok ht lv hp ab hl
 |L+1,t',lo,hi,h,d,tid,r,g,ok,ht,lv',hl,hp,hd=>by
  obtain ⟨i,ks,us'⟩:=t'
  obtain ⟨us,hus⟩:∃us:List (Tr L),us=us':=⟨us',rfl⟩
  subst hus
  have lv':ju s (L+1) lo hi (mkT L i ks us):=lv'
  obtain ⟨hr,hz,hw⟩:=lv'.wf
  have hw:bH (WF L) lo hi ks us:=hw
  have hr:right (av L ks us)=true:=hr
  have hz:size (av L ks us)≤1024:=hz
  have hul:us.length=ks.length+1:=hw.len
  have hst:=lv'.st
  have hndp:=lv'.nd
  have lvu:∀k u,us[k]? =some u→ju s L (dM lo ks k) (eR hi ks k) u:=fun k u hu=>by
   have hum:u∈us:=List.mem_of_getElem? hu
   have hk:k<us.length:=(List.getElem?_eq_some_iff.1 hu).1
   obtain ⟨u',hu',wu,-⟩:=hw.at (j:=k) ab
   rw[hu] at hu'
   cases hu'
   have hpg:=gK (i:=i) (ks:=ks) hu
   have hnd:=hndp
   have hst:=hst
   rw[hpg] at hnd hst
   refine ⟨(dT.1 lv'.on.2) u hum,wu,?_,fun j hj=>hst j (by simp[hj])⟩
   simp only[List.nodup_cons,List.nodup_append] at hnd
   exact hnd.2.2.1.1
  have hkb:∀k∈ks,inB lo hi k:=fun k hk=>by
   obtain ⟨⟨-,q⟩,-⟩:=bH.keys (nice L) hw
   exact ⟨lD (q k hk).1,(q k hk).2⟩
  have hsz:size (av L ks us)=7+5*ks.length+tot ks:=by simp[size,av]
  have hl:((us.map (aN L)).flatten).length≤1000000:=hl
  show aM _ _ _ _ fun q h'=>q= .tup [.int .i64 (((us.map (aN L)).flatten).length:Nat),.int .i64 ((d+(L+1):Nat):Int)]∧_
  refine f36.cq af (qA (L:=L+1) (t:=mkT L i ks us) g ok ht lv' hp ab hkb (by show ks.length≤_;omega) fun h1 bb nid g1 k1 no1 ln1 lb ln l1 l2 hb hn=>?_)
  have hn:h1.objs nid=some (az (av L ks us)):=hn
  unfold c36 zz
  simp only[tlC]
  have hlf:(av L ks us).leaf=false:=rfl
  have hkl:(av L ks us).keys.length=ks.length:=rfl
  have hil:(av L ks us).kids.length=us.length:=by simp[av]
  have lt:=g.ltn (j:=tid) (by rw[ht];rfl)
  unfold az at hn
  rw[hlf] at hn
  refine rf0 (cj2 hn hil) ?_
  obtain ⟨W,hW⟩:∃W,W=ints (av L ks us).kids:=⟨_,rfl⟩
  have hWl:W.length=us.length:=by rw[hW];simp[ints,av]
  rw[←hW] at hn ⊢
  obtain ⟨KL,hKL⟩:∃KL,KL=strs (av L ks us).keys:=⟨_,rfl⟩
  have hKl:KL.length=ks.length:=by rw[hKL];simp[strs,av]
  rw[←hKL] at hn
  refine Wp.eV [0,2,7,10,47,48] xA7 (fun b:Nat × H=>[(49,.int .i64 (b.1:Int)),(8,.int .i64 ((((us.take b.1).map (aN L)).flatten).length:Nat)),(9,.int .i64 ((if b.1=0 then 0 else d+(L+1):Nat):Int))]) (fun b=>b.2) (fun b=>b.1≤us.length∧PgH x s T b.2∧Kept h1 b.2∧aq h1 b.2∧h1.n≤b.2.n) (fun b=>us.length - b.1) (0,h1) ⟨Nat.zero_le _,g1,fun _ _=>rfl,aq.refl _,Nat.le_refl _⟩ rfl ?_ ?_
  ·exact xSb
  rintro ⟨k,h4⟩ ⟨hk,g4,k4,no4,ln4⟩
  simp only at hk g4 k4 no4 ln4
  by_cases hc:k<us.length
  ·have x1:(0:Int)≤(k:Int):=by omega
   have x2:(k:Int)<((W.length:Nat):Int):=by omega
   have dk:decide ((k:Int)<((us.length:Nat):Int))=true:=decide_eq_true ab
   have hgk:W.getD k .any= .int .i64 ((us[k].pg:Nat):Int):=by
    rw[hW]
    simp[ints,av,List.getD,List.getElem?_eq_getElem hc]
   have lu:=lvu k us[k] (List.getElem?_eq_getElem hc)
   have htk:us.take (k+1)=us.take k++[us[k]]:=List.take_succ_eq_append_getElem hc
   have hP:(((us.take (k+1)).map (aN L)).flatten).length=(((us.take k).map (aN L)).flatten).length+(aN L us[k]).length:=by rw[htk,List.map_append,List.flatten_append,List.length_append,List.map_singleton,List.flatten_singleton]
   have hPl:(((us.take (k+1)).map (aN L)).flatten).length≤1000000:=by
    have e:=hl
    rw[←List.take_append_drop (k+1) us,List.map_append,List.flatten_append,List.length_append] at e
    omega
   generalize us[k]=u at*
   have hn4:=(k4 nid ln).trans hn
   have hb4:=(k4 bb lb).trans hb
   have ht4:=(k4 tid ab).trans ((k1 tid lt).trans ht)
   generalize hp0:(((us.take k).map (aN L)).flatten).length=p0 at*
   generalize hp1:(((us.take (k+1)).map (aN L)).flatten).length=p1 at*
   obtain ⟨A0,hA0⟩:∃A0,A0=fL lo hi:=⟨_,rfl⟩
   have hKk:∀j,(hj:j<ks.length)→KL.getD j .any= .str ks[j]:=fun j hj=>by
    rw[hKL]
    simp[strs,av,List.getD,List.getElem?_eq_getElem hj]
   unfold fL at hb4
   refine Wp.aR (xAd dk) ?_
   refine an.nil ?_
   refine Wp.seq ?_
   refine Wp.cond_true (by simp only[go_sem,reduceIte,Nat.reduceEqDiff,Nat.reduceAdd,bx,dk]) ?_
   refine Wp.skip ?_
   refine Wp.seq (Wp.block ?_)
   refine Wp.aR (xAd (cj5 hgk x1 x2 @and_self @Int.toNat_natCast)) ?_
   refine an.nil ?_
   refine Wp.aR (xAd hb4) ?_
   rw[bg]
   refine an.nil ?_
   obtain ⟨h5,hh5⟩:∃h5,h5=H.new h4 (.cells [.str lo,.str (hi.getD []),.bool hi.isNone]):=⟨_,rfl⟩
   refine Wp.le (s':=⟨tm [(0,.ptr tid 0),(2,.int .i64 (d:Int)),(7,.ptr bb 0),(8,.int .i64 (p0:Int)),(9,.int .i64 ((if k=0 then 0 else d+(L+1):Nat):Int)),(10,.ptr nid 0),(13,.int .i64 (k:Int)),(14,.int .i64 (u.pg:Nat)),(15,.ptr h4.n 0),(47,.sl 1 W .any),(48,.int .i64 (us.length:Nat)),(49,.int .i64 (k:Int))],h5⟩) (aK.of (bL ?_) (by rw[hh5];exact OLe.refl _) (fun y hy=>by rw[hh5] at hy;exact hy) (by rw[hh5];exact Nat.le_refl _) (by rw[hh5];exact Nat.le_refl _)) ?_
   ·exact xSb
   obtain ⟨TT,hTT⟩:∃TT:List (Nat × AV),TT=[(0,.ptr tid 0),(2,.int .i64 (d:Int)),(7,.ptr bb 0),(8,.int .i64 (p0:Int)),(9,.int .i64 ((if k=0 then 0 else d+(L+1):Nat):Int)),(10,.ptr nid 0),(13,.int .i64 (k:Int)),(14,.int .i64 (u.pg:Nat)),(15,.ptr h4.n 0),(47,.sl 1 W .any),(48,.int .i64 (us.length:Nat)),(49,.int .i64 (k:Int))]:=⟨_,rfl⟩
   have hnn:nid≠h4.n:=by omega
   have hn5:∀o,(H.new h4 o).objs nid=some (.cells [.bool false,.sl 1 KL .any,.sl 1 (strs (av L ks us).vals) .any,.sl 1 W .any]):=fun o=>(aH ab).trans hn4
   have hi5:∀o,(H.new h4 o).objs h4.n=some o:=fun o=>bV
   refine Wp.jI ⟨tm TT,H.new h4 (.cells [.str (dM lo ks k),.str (hi.getD []),.bool hi.isNone])⟩ ?_ ?_
   ·by_cases hk0:k=0
    ·have d5:decide ((0:Int)<(k:Int))=false:=decide_eq_false ab
     have e:dM lo ks k=lo:=by unfold dM;rw[if_pos hk0]
     rw[e,←hh5,hTT]
     refine rf0 d5 ?_
     refine aK.tm ?_
     exact xSb
    ·have d5:decide ((0:Int)<(k:Int))=true:=decide_eq_true ab
     have e:KL.getD (k - 1) .any= .str (dM lo ks k):=by
      rw[hKk (k - 1) ab]
      unfold dM
      rw[if_neg hk0,List.getD_eq_getElem?_getD,List.getElem?_eq_getElem ab]
      rfl
     have e6:IntKind.i64.wrap ((k:Int) - 1)=((k - 1:Nat):Int):=by rw[IntWalk.i64_in _ ab];omega
     have y1:(0:Int)≤((k - 1:Nat):Int):=by omega
     have y2:((k - 1:Nat):Int)<((KL.length:Nat):Int):=by omega
     have hn6:=hn5 (.cells [.str lo,.str (hi.getD []),.bool hi.isNone])
     have hi6:=hi5 (.cells [.str lo,.str (hi.getD []),.bool hi.isNone])
     rw[←hh5] at hn6 hi6
     refine rf0 (cj9 d5 hn6 hi6 e6 y1 y2 @and_self @Int.toNat_natCast e) ?_
     rw[hTT]
     refine aK.of (bL ?_) (by rw[hh5];simp only[H.new,cS];exact OLe.refl _) (fun y hy=>by rw[hh5];exact hy) (by rw[hh5];exact Nat.le_refl _) (by rw[hh5];exact Nat.le_refl _)
     exact xSb
   clear hh5 h5
   refine Wp.jI ⟨tm TT,H.new h4 (.cells (fL (dM lo ks k) (eR hi ks k)))⟩ ?_ ?_
   ·rw[hTT]
    have hn6:=hn5 (.cells [.str (dM lo ks k),.str (hi.getD []),.bool hi.isNone])
    have hi6:=hi5 (.cells [.str (dM lo ks k),.str (hi.getD []),.bool hi.isNone])
    obtain ⟨h6,hh6⟩:∃h6,h6=H.new h4 (.cells [.str (dM lo ks k),.str (hi.getD []),.bool hi.isNone]):=⟨_,rfl⟩
    rw[←hh6] at hn6 hi6 ⊢
    by_cases hk0:k<ks.length
    ·have d5:decide ((k:Int)<((KL.length:Nat):Int))=true:=decide_eq_true ab
     have y2:(k:Int)<((KL.length:Nat):Int):=by omega
     have e:=hKk k hk0
     have e9:fL (dM lo ks k) (eR hi ks k)=[.str (dM lo ks k),.str ks[k],.bool false]:=by
      unfold fL eR
      rw[if_pos hk0,List.getD_eq_getElem?_getD,List.getElem?_eq_getElem hk0]
      rfl
     rw[e9]
     refine rf0 (cj8 d5 hn6 hi6 x1 y2 @and_self @Int.toNat_natCast e) ?_
     refine aK.of (bL ?_) (by rw[hh6];simp only[H.new,cS];exact OLe.refl _) (fun y hy=>by rw[hh6];exact hy) (by rw[hh6];exact Nat.le_refl _) (by rw[hh6];exact Nat.le_refl _)
     exact xSb
    ·have d5:decide ((k:Int)<((KL.length:Nat):Int))=false:=decide_eq_false ab
     have e9:fL (dM lo ks k) (eR hi ks k)=[.str (dM lo ks k),.str (hi.getD []),.bool hi.isNone]:=by
      unfold fL eR
      rw[if_neg hk0]
     rw[e9,←hh6]
     refine rf0 (cj2 d5 hn6) ?_
     refine aK.tm ?_
     exact xSb
   have hi7:=hi5 (.cells (fL (dM lo ks k) (eR hi ks k)))
   have g7:=g4.new (.cells (fL (dM lo ks k) (eR hi ks k)))
   have k7:Kept h1 (H.new h4 (.cells (fL (dM lo ks k) (eR hi ks k)))):=fun j hj=>(aH ab).trans (k4 j hj)
   have no7:aq h1 (H.new h4 (.cells (fL (dM lo ks k) (eR hi ks k)))):=aq.trans no4 bC ln4 (Nat.le_succ _)
   have ht7:(H.new h4 (.cells (fL (dM lo ks k) (eR hi ks k)))).objs tid=some (trO x r):=(aH ab).trans ht4
   have ln7:(H.new h4 (.cells (fL (dM lo ks k) (eR hi ks k)))).n=h4.n+1:=rfl
   generalize H.new h4 (.cells (fL (dM lo ks k) (eR hi ks k)))=h7 at*
   have hc:=yt L u (dM lo ks k) (eR hi ks k) h7 (d+1) g7 ok ht7 lu ab hp ab
   unfold tw at hc
   rw[hTT]
   have e3:IntKind.i64.wrap ((d:Int)+1)=((d+1:Nat):Int):=by rw[IntWalk.i64_in _ ab];rfl
   unfold fL at hi7 hc
   generalize h4.n=nb at*
   refine rf0 (cj2 hi7 e3) ?_
   refine an.aY (vals:=[.ptr tid 0,.int .i64 (u.pg:Nat),.int .i64 ((d+1:Nat):Int),.agg (fL (dM lo ks k) (eR hi ks k))]) ae xA4 hc fun q h8 ⟨hq,g8,k8,no8⟩ nq _=>?_
   subst hq
   refine an.evF xAc ?_
   refine an.nil ?_
   have e4:IntKind.i64.wrap ((k:Int)+1)=((k+1:Nat):Int):=by rw[IntWalk.i64_in _ ab];rfl
   have e5:IntKind.i64.wrap ((p0:Int)+(((aN L u).length:Nat):Int))=((p1:Nat):Int):=by rw[IntWalk.i64_in _ ab,hP];rfl
   have inv:∀st:Tm,ba st [(0,.ptr tid 0),(2,.int .i64 (d:Int)),(7,.ptr bb 0),(10,.ptr nid 0),(47,.sl 1 W .any),(48,.int .i64 (us.length:Nat)),(49,.int .i64 ((k+1:Nat):Int)),(8,.int .i64 (p1:Int)),(9,.int .i64 ((d+1+L:Nat):Int))]→∃b':Nat × H,(b'.1≤us.length∧PgH x s T b'.2∧Kept h1 b'.2∧aq h1 b'.2∧h1.n≤b'.2.n)∧us.length - b'.1<us.length - k∧aK ⟨st,h8⟩ ⟨tm ([(0,.ptr tid 0),(2,.int .i64 (d:Int)),(7,.ptr bb 0),(10,.ptr nid 0),(47,.sl 1 W .any),(48,.int .i64 (us.length:Nat))]++[(49,.int .i64 (b'.1:Int)),(8,.int .i64 ((((us.take b'.1).map (aN L)).flatten).length:Nat)),(9,.int .i64 ((if b'.1=0 then 0 else d+(L+1):Nat):Int))]),b'.2⟩:=fun st hs=>by
    refine ⟨(k+1,h8),⟨by simp only;omega,g8,fun j hj=>(k8 j ab).trans (k7 j hj),aq.trans no7 no8 ab ab,by simp only;omega⟩,by simp only;omega,aK.tm ?_⟩
    simp only
    rw[hp1,if_neg ab,show d+(L+1)=d+1+L by omega]
    exact hs
   by_cases hk0:k=0
   ·have d5:decide ((0:Int)<(k:Int))=false:=decide_eq_false ab
    refine rf0 (cj3 d5 e4 e5) ?_
    refine inv _ ?_
    exact xSb
   ·have d5:decide ((0:Int)<(k:Int))=true:=decide_eq_true ab
    have d6:decide (((d+1+L:Nat):Int)=((if k=0 then 0 else d+(L+1):Nat):Int))=true:=decide_eq_true (by rw[if_neg hk0];omega)
    refine rf0 (cj5 d5 d6 e4 e5 @Bool.not_true) ?_
    refine inv _ ?_
    exact xSb
  ·have dk:decide ((k:Int)<((us.length:Nat):Int))=false:=decide_eq_false ab
   have hz:us.take k=us:=List.take_of_length_le ab
   have hk0:¬(k=0):=by omega
   refine rf0 dk ?_
   refine Wp.ret ⟨trivial,.tup [.int .i64 (((us.map (aN L)).flatten).length:Nat),.int .i64 ((d+(L+1):Nat):Int)],?_,rfl,g4,fun j hj=>(k4 j ab).trans (k1 j hj),aq.trans no1 no4 ab ab⟩
   rw[hz,if_neg hk0]
   simp only[go_sem]
   exact rfl
end
section
variable {x:PgI} {s:PgS} {T:List Nat} {h:H}
set_option maxHeartbeats 1000000 in
theorem FL {tid b0 b1:Nat} {R:Rt} (g:Ts0 x T tid s R h) (h0:h.objs b0=some (.cells [.ptr tid 0])) (h1:h.objs b1=some (.cells [.int .i64 0])) (t1:Tid x b1)
  (hL:∀L t,R=some ⟨L,t⟩→L≤6) (hp:s.p.length<900000) (hl:(aJ R).length≤1000000):
  aM Tryz.prog 35 [.ptr b0 0,.ptr b1 0] h fun q h'=>PgH x s T h'∧(∀j,j<h.n→j≠b1→h'.objs j=h.objs j)∧aq h h'∧h'.objs b1=some (.cells [.int .i64 ((aJ R).length:Nat)])∧h.n≤h'.n:=by
 have lt1:=g.pg.ltn (j:=b1) (by rw[h1];rfl)
 refine f35.cq af ?_
 unfold c35 zz
 have ot:h.objs tid=some (.cells [.ptr x.P 0,.int .i64 (rpg R)]):=g.ot
 cases R with
 |none=>
  have ot:h.objs tid=some (.cells [.ptr x.P 0,.int .i64 (-1)]):=ot
  have d3:decide ((0:Int)≤(-1:Int))=false:=by decide
  refine rf0 (cj4 h0 h1 ot d3) ?_
  refine ⟨trivial,.tup [],by simp[cJ,rvs],g.pg,fun _ _ _=>rfl,aq.refl _,h1,Nat.le_refl _⟩
 |some r=>
  obtain ⟨L,t⟩:=r
  have ot:h.objs tid=some (.cells [.ptr x.P 0,.int .i64 ((t.pg:Nat):Int)]):=ot
  have d3:decide ((0:Int)≤((t.pg:Nat):Int))=true:=decide_eq_true ab
  have lv:=g.rk L t rfl
  have hL':=hL L t rfl
  have hw:=yt L t [] none h 1 g.pg g.ok g.ot lv hl hp ab
  unfold tw at hw
  refine rf0 (cj4 h0 h1 ot d3) ?_
  refine Wp.reg ?_
  refine ao.part 6 (xAe (cj2 h0 ot)) ?_
  simp only[List.drop_succ_cons,List.drop_zero,List.drop_nil]
  refine ao.aY (vals:=[.ptr tid 0,.int .i64 (t.pg:Nat),.int .i64 ((1:Nat):Int),.agg (fL [] none)]) ae xA4 (fun j hj=>g.pg.ltn hj) hw (fun r h' ⟨e,g',k',no'⟩=>no') fun q h2 ⟨hq,g2,k2,no2⟩ nq _=>?_
  subst hq
  have h12:=(k2 b1 lt1).trans h1
  refine ao.part 4 (xAe h12) ?_
  simp only[List.drop_succ_cons,List.drop_zero,List.drop_nil]
  refine ao.nil ⟨by simp[bw,aV,apart,aT],?_⟩
  refine ⟨trivial,.tup [],by simp[cJ,rvs],g2.vd t1 ab _,fun j a b=>?_,aq.trans no2 (aq.set h12) nq (Nat.le_refl _),by simp[upd,aJ],nq⟩
  simp only[upd];rw[if_neg b];exact k2 j a
set_option maxHeartbeats 1000000 in
theorem Ev {tid:Nat} {R:Rt} (g:Ts0 x T tid s R h) (hL:∀L t,R=some ⟨L,t⟩→L≤6) (hp:s.p.length<900000) (hl:(aJ R).length≤1000000):
  aM Tryz.prog 12 [.ptr tid 0] h fun q h'=>iR x T tid s R h h'∧q= .tup [.int .i64 ((aJ R).length:Nat),.int .i64 0]:=by
 refine f12.cq af ?_
 unfold c12 zz
 have bb:=((iR.refl g).new (.cells [.ptr tid 0])).new (.cells [.int .i64 0])
 have lt:=g.lt
 obtain ⟨h5,hh⟩:∃h5,h5=H.new (H.new h (.cells [.ptr tid 0])) (.cells [.int .i64 0]):=⟨_,rfl⟩
 have e0:h5.objs h.n=some (.cells [.ptr tid 0]):=by rw[hh];simp[H.new,upd]
 have e1:h5.objs (h.n+1)=some (.cells [.int .i64 0]):=by rw[hh];simp[H.new,upd]
 have ln5:h5.n=h.n+1+1:=by rw[hh];rfl
 rw[←hh] at bb
 refine Wp.aR (xAd @and_self) ?_
 refine an.nil ?_
 refine Wp.aR (xAd @and_self) ?_
 rw[bg]
 refine an.nil ?_
 refine Wp.le (s':=⟨tm [(1,.ptr h.n 0),(4,.ptr (h.n+1) 0)],h5⟩) (aK.of (bL ?_) (by rw[hh];exact OLe.refl _) (fun y hy=>by rw[hh] at hy;exact hy) (by rw[hh];exact Nat.le_refl _) (by rw[hh];exact Nat.le_refl _)) ?_
 ·exact xSb
 clear hh
 have key2:aM Tryz.prog 34 [.ptr tid 0,.clo (.func 35) [] [.ptr h.n 0,.ptr (h.n+1) 0]] h5 fun q h'=>q= .int .i64 0∧PgH x s T h'∧(∀j,j<h5.n→j≠h.n+1→h'.objs j=h5.objs j)∧aq h5 h'∧h'.objs (h.n+1)=some (.cells [.int .i64 ((aJ R).length:Nat)])∧h5.n≤h'.n:=by
  refine (vb bb.ts.op Tryz.func35 rfl (of_decide_eq_true (by kernel_rfl)) (FL bb.ts e0 e1 (ew g.pg ab) hL hp hl)).mono ?_
  rintro q h' ⟨rfl,r,sc⟩
  exact ⟨rfl,sc⟩
 refine rf0 e0 ?_
 refine an.aY (vals:=[.ptr tid 0,.clo (.func 35) [] [.ptr h.n 0,.ptr (h.n+1) 0]]) ae xA4 key2 fun q h6 ⟨hq,g6,k6,no6,hb,n6⟩ _ _=>?_
 subst hq
 refine an.evF xAc ?_
 refine an.nil ?_
 have d0:decide ((0:Int)=0)=true:=by decide
 refine rf0 (cj3 hb d0 @Bool.not_true) ?_
 refine Wp.ret ⟨trivial,.tup [.int .i64 ((aJ R).length:Nat),.int .i64 0],?_,⟨bb.ts.keep g6 (k6 tid (by have:=bb.ts.lt;omega) ab),aq.trans bb.no no6 bb.ln n6,Nat.le_trans bb.ln n6,fun j hj=>(k6 j ab ab).trans (bb.kp j hj)⟩,rfl⟩
 simp only[go_sem]
 exact rfl
theorem tz {tid B:Nat} {R:Rt} (g:Ts x T tid s R B h) (hL:∀L t,R=some ⟨L,t⟩→L≤6) (hp:s.p.length<900000) (hl:(aJ R).length≤1000000):
  aM Tryz.prog 12 [.ptr tid 0] h fun q h'=>fJ x T tid s R B h h'∧q= .tup [.int .i64 ((aJ R).length:Nat),.int .i64 0]:=
 (Ev g.z hL hp hl).mono fun q h' ⟨b,e⟩=>⟨.of g b,e⟩
theorem C7 {tid B:Nat} {R:Rt} (g:Ts x T tid s R B h):aI Tryz.prog 18 [.ptr tid 0] h (.int .i64 (rpg R)) h:=by
 have ot:h.objs tid=some (.cells [.ptr x.P 0,.int .i64 (rpg R)]):=g.ot
 have co:=Ck (eU g)
 refine f18.bW af ?_
 unfold c18 zz
 refine rg1 (cj2 ot @Bool.not_true) co ?_
 refine Wp.ret ⟨trivial,_,?_,ay.refl _,rfl⟩
 simp only[go_sem]
 exact rfl
end
end Go.Proofs.YtbgmofhgfnmaiaaGreat.Tree
end
section
set_option maxRecDepth 100000
namespace Go.Proofs.YtbgmofhgfnmaiaaGreat.R10
open Go Go.Av Go.Proofs Go.Proofs.YtbgmofhgfnmaiaaGreat.C Go.Proofs.YtbgmofhgfnmaiaaGreat.Batch
theorem iq (l:List Pr) (c:Pr):prs l++[.agg [.str c.k,.str c.v]]=prs (l++[c]):=by simp[prs,aS]
theorem C8 {α:Type} [Inhabited α] {l:List α} {i:Nat} (h:i<l.length):l.getD i default=l[i]:=by
 rw[List.getD_eq_getElem?_getD,List.getElem?_eq_getElem h];rfl
def mh (k:Bs) (p:Pr):Bool:=decide (p.k=k)
def AL (l:List Pr) (k:Bs):Bs:=match l.find? (mh k) with|some p=>p.v|none=>[]
def mi (l:List Pr) (k:Bs):Nat:=match l.find? (mh k) with|some _=>0|none=>7
theorem Ew {l:List Pr} {k:Bs} {j:Nat} (hj:j<l.length) (h:∀i,i<j→¬(l.getD i default).k=k) (hk:(l.getD j default).k=k):l.find? (mh k)=some (l.getD j default):=by
 rw[C8 hj] at hk ⊢
 rw[List.find?_eq_some_iff_getElem]
 refine ⟨by simp[mh,hk],j,hj,rfl,fun i hi=>?_⟩
 have:=h i hi
 rw[C8 ab] at this
 simp[mh,this]
theorem Ex {l:List Pr} {k:Bs} (h:∀i,i<l.length→¬(l.getD i default).k=k):l.find? (mh k)=none:=by
 rw[List.find?_eq_none]
 intro x hx
 obtain ⟨i,hi,rfl⟩:=List.getElem_of_mem hx
 have:=h i hi
 rw[C8 hi] at this
 simp[mh,this]
theorem Da (l:List Pr) (hl:l.length≤4611686018427387904) (k:Bs):bc Tryz.prog 15 [.sl 2 (prs l) .any,.str k] (.tup [.str (AL l k),.int .i64 (mi l k)]):=by
 refine f15.dB af (by simp[aU,bq,cR,jl]) (by simp[bq,aU]) ?_
 unfold c15 zz
 refine Gy ?_
 refine Wp.mE [0,1] xA6 (fun j:Nat=>[(6,.int .i64 j)]) (fun j=>j≤l.length∧∀i,i<j→¬(l.getD i default).k=k) (fun j=>l.length - j) 0 ⟨Nat.zero_le _,fun i h=>absurd h ab⟩ ?_ ?_
 ·exact xSb
 ·rintro j ⟨hj,hr⟩
  by_cases hc:j<l.length
  ·have d1:decide ((j:Int)<(l.length:Int))=true:=decide_eq_true ab
   have h2:(0:Int)≤(j:Int):=by omega
   have h3:(j:Int)<(l.length:Int):=by omega
   have e1:IntKind.i64.wrap ((j:Int)+1)=((j+1:Nat):Int):=by rw[IntWalk.i64_in _ ab];omega
   by_cases hk:(l.getD j default).k=k
   ·have d2:decide ((l.getD j default).k=k)=true:=decide_eq_true hk
    have hf:=Ew hc hr hk
    refine an0 (cj8 @cz d1 d2 h2 h3 @Int.toNat_natCast (fun d=>fh _ _ d hc) @aS.eq_1) ?_
    refine cL ?_
    exact ay.of_eq (by simp only[AL,mi,hf];rfl)
   ·have d2:decide ((l.getD j default).k=k)=false:=decide_eq_false hk
    refine an0 (cj9 @cz d1 d2 h2 h3 e1 @Int.toNat_natCast (fun d=>fh _ _ d hc) @aS.eq_1) ?_
    refine ⟨j+1,⟨ab,fun i hi=>?_⟩,ab,?_⟩
    ·by_cases he:i=j
     ·subst he;exact hk
     ·exact hr i ab
    ·exact xSu
  ·obtain rfl:j=l.length:=by omega
   have d1:decide ((l.length:Int)<(l.length:Int))=false:=decide_eq_false ab
   have hf:=Ex hr
   refine an0 (cj2 @cz d1) ?_
   refine cL ?_
   exact ay.of_eq (by simp only[AL,mi,hf];rfl)
def rest (k:Bs) (l:List Pr):List Pr:=l.filter fun p=> !mh k p
theorem AM (k:Bs) (p:Pr) (l:List Pr):rest k (p::l)=(if p.k=k then [] else [p])++rest k l:=by
 simp only[rest,List.filter_cons,mh]
 by_cases h:p.k=k<;>simp[h]
def gA (l:List Pr) (k:Bs):List Pr:=if mi l k=0 then rest k l else l
def iK (l:List Pr) (k:Bs):Nat:=mi l k
theorem xm (l:List Pr) (k:Bs):mi l k=0∨mi l k=7:=by
 unfold mi;split<;>simp
set_option maxHeartbeats 2000000 in
theorem tA (l:List Pr) (hl:l.length≤1000000) (k:Bs):bc Tryz.prog 19 [.sl 2 (prs l) .any,.str k] (.tup [.sl 2 (prs (gA l k)) .any,.int .i64 (iK l k)]):=by
 refine f19.dB af (by simp[aU,bq,cR,jl]) (by simp[bq,aU,cR,jl]) ?_
 unfold c19 zz
 have hg:=Da l ab k
 rcases xm l k with h0|h7
 ·have hd:gA l k=rest k l:=by rw[gA,if_pos h0]
  have he:iK l k=0:=h0
  rw[hd,he]
  rw[h0] at hg
  have z:decide (((0:Nat):Int)=0)=true:=by decide
  refine an1 z hg ?_
  refine Wp.le (aK.tok _ _) ?_
  refine Wp.sB [0,1] xA7 (fun (j:Nat × List Pr) tk=>[(8,.sl 2 (prs j.2) (.own tk)),(9,.int .i64 j.1)]) (fun j=>j.1≤l.length∧j.2++rest k (l.drop j.1)=rest k l∧j.2.length≤j.1) (fun j=>l.length - j.1) (0,[]) _ ⟨Nat.zero_le _,by simp,Nat.le_refl _⟩ rfl ?_ ?_
  ·simp only[ba,go_sem,reduceIte,Nat.reduceEqDiff,Nat.reduceAdd,bx];and_intros<;>first|exact trivial|exact ay.refl _|exact ay.any _|exact ay.lR rfl|(refine ay.int ?_;omega)
  ·rintro ⟨j,o⟩ tk m ⟨hj,ho,hol⟩
   simp only at hj ho hol
   by_cases hc:j<l.length
   ·have d1:decide ((j:Int)<(l.length:Int))=true:=decide_eq_true ab
    have h2:(0:Int)≤(j:Int):=by omega
    have h3:(j:Int)<(l.length:Int):=by omega
    have e1:IntKind.i64.wrap ((j:Int)+1)=((j+1:Nat):Int):=by rw[IntWalk.i64_in _ ab];omega
    rw[xX hc,AM] at ho
    have g0:(o.length+1)*32≤140737488355328:=by omega
    have g0':o.length+1<4611686018427387904:=by omega
    by_cases hk:(l.getD j default).k=k
    ·have d2:decide ((l.getD j default).k=k)=true:=decide_eq_true hk
     rw[if_pos hk,List.nil_append] at ho
     refine an0 (cj9 @cz d1 d2 h2 h3 e1 @Int.toNat_natCast (fun d=>fh _ _ d hc) @aS.eq_1) ?_
     refine ⟨(j+1,o),tk,m,⟨by simp only;omega,ho,by simp only;omega⟩,by simp only;omega,?_⟩
     exact xSu
    ·have d2:decide ((l.getD j default).k=k)=false:=decide_eq_false hk
     rw[if_neg hk] at ho
     refine an0 (cT @cz d1 d2 h2 h3 e1 @Int.toNat_natCast (fun d=>fh _ _ d hc) @aS.eq_1 @List.length_cons.{0} @List.length_nil.{0} (cj3 @Nat.zero_add g0 g0')) ?_
     refine ⟨(j+1,o++[l.getD j default]),m,m+1,⟨by simp only;omega,by rw[←ho];simp,by simp;omega⟩,by simp only;omega,?_⟩
     refine aK.tm (by simp only[ba,go_sem,reduceIte,Nat.reduceEqDiff,Nat.reduceAdd,bx];and_intros<;>first|exact trivial|exact ay.refl _|exact ay.any _|exact ay.of_eq (by rw[←iq])|(refine ay.int ?_;omega))
   ·obtain rfl:j=l.length:=by omega
    have d1:decide ((l.length:Int)<(l.length:Int))=false:=decide_eq_false ab
    rw[List.drop_length] at ho
    have ho':o=rest k l:=by rw[←ho];simp[rest]
    refine an0 (cj2 @cz d1) ?_
    refine cL ?_
    rw[ho']
    exact ay.tup (au.cons ay.own (au.refl _))
 ·have hd:gA l k=l:=by rw[gA,if_neg ab]
  have he:iK l k=7:=h7
  rw[hd,he]
  rw[h7] at hg
  have z:decide (((7:Nat):Int)=0)=false:=by decide
  refine an1 z hg ?_
  refine cL ?_
  exact ay.refl _
def shut (k v:Bs):Bool:=decide (128<k.length)||decide (200<v.length)
def gB (k v:Bs):Bool→List Pr→List Pr
 |laid,[]=>if laid then [] else [⟨k,v⟩]
 |laid,p::l=>(if laid=false∧Op.bytesLess p.k k=false then [⟨k,v⟩] else [])++((if p.k=k then [] else [p])++gB k v (laid|| !Op.bytesLess p.k k) l)
def mj (l:List Pr) (k v:Bs):List Pr:=if shut k v then l else gB k v false l
def ir (k v:Bs):Nat:=if shut k v then 2 else 0
theorem AN {k n:Nat} (h:k<n) (hn:n≤10000000):decide ((k:Int)<(n:Int))=true∧(0:Int)≤(k:Int)∧(k:Int)<(n:Int)∧IntKind.i64.wrap ((k:Int)+1)=((k+1:Nat):Int):=by
 refine ⟨decide_eq_true ab,ab,ab,?_⟩
 rw[IntWalk.i64_in _ ab];omega
theorem FM (n:Nat):decide ((n:Int)<(n:Int))=false:=decide_eq_false ab
theorem yu (l:List Pr) (j:Nat) (d:AV) (h:j<l.length):(prs l).getD j d= .agg [.str (l.getD j default).k,.str (l.getD j default).v]:=by
 simp[prs,aS,List.getD,List.getElem?_eq_getElem h]
theorem jU (a b:List Pr) (ha:a.length≤1000000) (hb:b.length≤1000000):bc Tryz.prog 16 [.sl 2 (prs a) .any,.sl 2 (prs b) .any] (.bool (decide (a=b))):=by
 refine f16.dB af (by simp[aU,bq,cR,jl]) rfl ?_
 unfold c16 zz
 have lea:=cz a
 have leb:=cz b
 by_cases hlen:a.length=b.length
 ·have e0:decide (((a.length:Nat):Int)=((b.length:Nat):Int))=true:=decide_eq_true ab
  refine rn0 (cj4 lea leb e0 @Bool.not_true) ?_
  refine Wp.mE [0,1] xA6 (fun j:Nat=>[(5,.int .i64 (j:Nat))]) (fun j=>j≤a.length∧a.take j=b.take j) (fun j=>a.length - j) 0 ⟨Nat.zero_le _,rfl⟩ ?_ ?_
  ·exact xSb
  rintro j ⟨hj,hpre⟩
  by_cases hc:j<a.length
  ·obtain ⟨g1,g2,g3,e1⟩:=AN hc (Nat.le_trans ha ah)
   have g4:(j:Int)<(b.length:Int):=by omega
   have hat:=yu a j .any hc
   have hbt:=yu b j .any ab
   have ea:a.getD j default=a[j]:=by simp[List.getD,List.getElem?_eq_getElem hc]
   have eb:b.getD j default=b[j]:=by simp[List.getD,List.getElem?_eq_getElem (show j<b.length by omega)]
   by_cases hp:a.getD j default=b.getD j default
   ·have hnext:a.take (j+1)=b.take (j+1):=by
     rw[List.take_succ_eq_append_getElem hc,List.take_succ_eq_append_getElem (show j<b.length by omega),hpre,←ea,←eb,hp]
    rw[←hp] at hbt
    generalize a.getD j default=p at*
    refine rn0 (cT g1 g2 g3 g4 lea leb hat hbt @Int.toNat_natCast @beq_self_eq_true.{0} @bne_self_eq_false.{0} (cj4 @decide_true @Bool.and_self @Option.map_some.{0,0} @Bool.not_true)) ?_
    refine ⟨j+1,⟨ab,hnext⟩,Nat.sub_lt_sub_left hc (Nat.lt_succ_self _),?_⟩
    refine aK.tm (by simp only[ba,go_sem,reduceIte,Nat.reduceEqDiff,Nat.reduceAdd,bx,e1];and_intros<;>first|exact trivial|exact ay.refl _|exact ay.any _|(refine ay.int ?_;omega))
   ·have hne:decide (a=b)=false:=decide_eq_false fun h=>hp (by rw[h])
    rw[hne]
    generalize a.getD j default=p at*
    generalize b.getD j default=q at*
    have dpq:(decide (p.k=q.k)&&decide (p.v=q.v))=false:=by
     rw[Bool.and_eq_false_iff]
     by_cases h1:p.k=q.k
     ·refine .inr (decide_eq_false fun h2=>hp ?_)
      obtain ⟨pk,pv⟩:=p
      obtain ⟨qk,qv⟩:=q
      simp only at h1 h2
      rw[h1,h2]
     ·exact .inl (decide_eq_false h1)
    refine rn0 (cT g1 g2 g3 g4 lea leb hat hbt dpq @Int.toNat_natCast @Option.map_some.{0,0} @Bool.not_false) ?_
    refine cL ?_
    exact ay.refl _
  ·have hj2:j=a.length:=by omega
   subst hj2
   have g1:=FM a.length
   have he:decide (a=b)=true:=by
    rw[List.take_length,hlen,List.take_length] at hpre
    exact decide_eq_true hpre
   rw[he]
   refine rn0 (cj2 g1 lea) ?_
   refine cL ?_
   exact ay.refl _
 ·have e0:decide (((a.length:Nat):Int)=((b.length:Nat):Int))=false:=decide_eq_false ab
  have hne:decide (a=b)=false:=decide_eq_false fun h=>hlen (by rw[h])
  rw[hne]
  refine rn0 (cj4 lea leb e0 @Bool.not_false) ?_
  refine cL ?_
  exact ay.refl _
theorem G5 {l:List Pr} (hk:∀p∈l,Ls p.k) (i:Nat):Ls (l.getD i default).k:=by
 by_cases h:i<l.length
 ·rw[List.getD_eq_getElem?_getD,List.getElem?_eq_getElem h];exact hk _ (List.getElem_mem h)
 ·rw[List.getD_eq_getElem?_getD,List.getElem?_eq_none ab];exact Nat.zero_le _
theorem kZ (k v:Bs):∀(l:List Pr) (b:Bool),(gB k v b l).length≤l.length+(if b then 0 else 1)
 |[],b=>by cases b<;>simp[gB]
 |p::l,b=>by
  have h1:=kZ k v l true
  have h2:=kZ k v l false
  simp only[if_true,if_false,Bool.false_eq_true,Nat.add_zero] at h1 h2
  rw[gB]
  cases b<;>cases Op.bytesLess p.k k<;>by_cases hk:p.k=k<;>simp[hk] <;>omega
theorem G6 {n:Nat} (h:n≤2000000):(n+1)*32≤140737488355328∧n+1<4611686018427387904∧(n+1+1)*32≤140737488355328∧n+1+1<4611686018427387904:=by omega
set_option maxHeartbeats 1000000 in
theorem xn (l:List Pr) (hl:l.length≤1000000) (lk:∀p∈l,Ls p.k) (k v:Bs) (hkk:Ls k):bc Tryz.prog 23 [.sl 2 (prs l) .any,.str k,.str v] (.tup [.sl 2 (prs (mj l k v)) .any,.int .i64 (ir k v)]):=by
 refine f23.dB af (by simp[aU,bq,cR,jl]) (by simp[bq,aU,cR,jl]) ?_
 unfold c23 zz
 by_cases h1:128<k.length
 ·have d1:decide ((128:Int)<(k.length:Int))=true:=decide_eq_true ab
  have hs:shut k v=true:=by simp[shut,h1]
  refine an0 d1 ?_
  refine cL ?_
  rw[mj,if_pos hs,ir,if_pos hs]
  exact ay.refl _
 ·have d1:decide ((128:Int)<(k.length:Int))=false:=decide_eq_false ab
  by_cases h2:200<v.length
  ·have d2:decide ((200:Int)<(v.length:Int))=true:=decide_eq_true ab
   have hs:shut k v=true:=by simp[shut,h2]
   refine an0 (cj2 d1 d2) ?_
   refine cL ?_
   rw[mj,if_pos hs,ir,if_pos hs]
   exact ay.refl _
  ·have d2:decide ((200:Int)<(v.length:Int))=false:=decide_eq_false ab
   have hs:¬shut k v=true:=by simp[shut];omega
   rw[mj,if_neg hs,ir,if_neg hs]
   refine an0 (cj2 d1 d2) ?_
   refine Wp.le (aK.tok _ _) ?_
   refine Wp.sB [0,1,2] xA7 (fun (j:Nat × List Pr × Bool) tk=>[(8,.sl 2 (prs j.2.1) (.own tk)),(9,.bool j.2.2),(10,.int .i64 j.1)]) (fun j=>j.1≤l.length∧j.2.1++gB k v j.2.2 (l.drop j.1)=gB k v false l∧j.2.1.length≤2*j.1) (fun j=>l.length - j.1) (0,[],false) _ ⟨Nat.zero_le _,by simp,Nat.le_refl _⟩ rfl ?_ ?_
   ·simp only[ba,go_sem,reduceIte,Nat.reduceEqDiff,Nat.reduceAdd,bx];and_intros<;>first|exact trivial|exact ay.refl _|exact ay.any _|exact ay.lR rfl|(refine ay.int ?_;omega)
   ·rintro ⟨j,o,b⟩ tk m ⟨hj,ho,hol⟩
    simp only at hj ho hol
    obtain ⟨g0,g0',g1,g1'⟩:=G6 (show o.length≤2000000 by omega)
    by_cases hc:j<l.length
    ·have q1:decide ((j:Int)<(l.length:Int))=true:=decide_eq_true ab
     have q2:(0:Int)≤(j:Int):=by omega
     have q3:(j:Int)<(l.length:Int):=by omega
     have e1:IntKind.i64.wrap ((j:Int)+1)=((j+1:Nat):Int):=by rw[IntWalk.i64_in _ ab];omega
     rw[xX hc,gB] at ho
     have hls:=G5 lk j
     have hbel:=xL (l.getD j default).k k hls hkk
     by_cases hk:(l.getD j default).k=k
     ·have q4:decide ((l.getD j default).k=k)=true:=decide_eq_true hk
      rw[if_pos hk,List.nil_append] at ho
      cases b with
      |true=>
       simp only[Bool.true_eq_false,false_and,if_false,List.nil_append,Bool.true_or] at ho
       refine an0 (cj9 @cz @q1 @q2 q3 @q4 e1 @Int.toNat_natCast (fun d=>fh _ _ d hc) @aS.eq_1) ?_
       refine ⟨(j+1,o,true),tk,m,⟨by simp only;omega,ho,by simp only;omega⟩,by simp only;omega,?_⟩
       exact xSu
      |false=>
       cases hb:Op.bytesLess (l.getD j default).k k with
       |true=>
        rw[hb] at hbel ho
        simp only[Bool.true_eq_false,and_false,if_false,List.nil_append,Bool.not_true,Bool.or_self] at ho
        refine an1 (cj9 @cz @q1 @q2 q3 @q4 e1 @Int.toNat_natCast (fun d=>fh _ _ d hc) @aS.eq_1) hbel ?_
        refine ⟨(j+1,o,false),tk,m,⟨by simp only;omega,ho,by simp only;omega⟩,by simp only;omega,?_⟩
        exact xSu
       |false=>
        rw[hb] at hbel ho
        simp only[true_and,and_self,if_true,Bool.not_false,Bool.or_true] at ho
        refine an1 (cT @cz @q1 @q2 q3 @q4 e1 @Int.toNat_natCast (fun d=>fh _ _ d hc) @aS.eq_1 @List.length_cons.{0} @List.length_nil.{0} (cj3 @Nat.zero_add g0 g0')) hbel ?_
        refine ⟨(j+1,o++[⟨k,v⟩],true),m,m+1,⟨by simp only;omega,by rw[←ho];simp,by simp;omega⟩,by simp only;omega,?_⟩
        refine aK.tm (by simp only[ba,go_sem,reduceIte,Nat.reduceEqDiff,Nat.reduceAdd,bx];and_intros<;>first|exact trivial|exact ay.refl _|exact ay.any _|exact ay.of_eq (by rw[←iq])|(refine ay.int ?_;omega))
     ·have q4:decide ((l.getD j default).k=k)=false:=decide_eq_false hk
      rw[if_neg hk] at ho
      cases b with
      |true=>
       simp only[Bool.true_eq_false,false_and,if_false,List.nil_append,Bool.true_or] at ho
       refine an0 (cT @cz @q1 @q2 q3 @q4 e1 @Int.toNat_natCast (fun d=>fh _ _ d hc) @aS.eq_1 @List.length_cons.{0} @List.length_nil.{0} (cj3 @Nat.zero_add g0 g0')) ?_
       refine ⟨(j+1,o++[l.getD j default],true),m,m+1,⟨by simp only;omega,by rw[←ho];simp,by simp;omega⟩,by simp only;omega,?_⟩
       refine aK.tm (by simp only[ba,go_sem,reduceIte,Nat.reduceEqDiff,Nat.reduceAdd,bx];and_intros<;>first|exact trivial|exact ay.refl _|exact ay.any _|exact ay.of_eq (by rw[←iq])|(refine ay.int ?_;omega))
      |false=>
       cases hb:Op.bytesLess (l.getD j default).k k with
       |true=>
        rw[hb] at hbel ho
        simp only[Bool.true_eq_false,and_false,if_false,List.nil_append,Bool.not_true,Bool.or_self] at ho
        refine an1 (cT @cz @q1 @q2 q3 @q4 e1 @Int.toNat_natCast (fun d=>fh _ _ d hc) @aS.eq_1 @List.length_cons.{0} @List.length_nil.{0} (cj3 @Nat.zero_add g0 g0')) hbel ?_
        refine ⟨(j+1,o++[l.getD j default],false),m,m+1,⟨by simp only;omega,by rw[←ho];simp,by simp;omega⟩,by simp only;omega,?_⟩
        refine aK.tm (by simp only[ba,go_sem,reduceIte,Nat.reduceEqDiff,Nat.reduceAdd,bx];and_intros<;>first|exact trivial|exact ay.refl _|exact ay.any _|exact ay.of_eq (by rw[←iq])|(refine ay.int ?_;omega))
       |false=>
        rw[hb] at hbel ho
        simp only[true_and,and_self,if_true,Bool.not_false,Bool.or_true] at ho
        refine an1 (cT @cz @q1 @q2 q3 @q4 e1 @Int.toNat_natCast (fun d=>fh _ _ d hc) @aS.eq_1 @List.length_cons.{0} @List.length_nil.{0} (cj5 @Nat.zero_add g0 g0' g1 g1')) hbel ?_
        refine ⟨(j+1,o++[⟨k,v⟩]++[l.getD j default],true),m+1,m+2,⟨by simp only;omega,by rw[←ho];simp,by simp;omega⟩,by simp only;omega,?_⟩
        refine aK.tm (by simp only[ba,go_sem,reduceIte,Nat.reduceEqDiff,Nat.reduceAdd,bx];and_intros<;>first|exact trivial|exact ay.refl _|exact ay.any _|exact ay.of_eq (by rw[←iq,←iq])|(refine ay.int ?_;omega))
    ·obtain rfl:j=l.length:=by omega
     have q1:decide ((l.length:Int)<(l.length:Int))=false:=decide_eq_false ab
     rw[List.drop_length,gB] at ho
     cases b with
     |true=>
      simp only[if_true,List.append_nil] at ho
      refine an0 (cj2 @cz @q1) ?_
      refine cL ?_
      rw[←ho]
      exact ay.tup (au.cons ay.own (au.refl _))
     |false=>
      simp only[Bool.false_eq_true,if_false] at ho
      refine an0 (cj7 @cz @q1 @List.length_cons.{0} @List.length_nil.{0} @Nat.zero_add g0 g0') ?_
      refine cL ?_
      rw[←ho,←iq]
      exact ay.tup (au.cons ay.own (au.refl _))
def Db (most:Int) (l:List Pr):List Pr:=if most<0 then l else l.take most.toNat
def inR (a b k:Bs):Bool:= !Op.bytesLess k a&&(decide (b=[])||Op.bytesLess k b)
def se (l:List Pr) (a b:Bs) (most:Int):List Pr:=Db most (l.filter fun p=>inR a b p.k)
end Go.Proofs.YtbgmofhgfnmaiaaGreat.R10
end
section
set_option maxRecDepth 100000
namespace Go.Proofs.YtbgmofhgfnmaiaaGreat.Tree
open Go Go.Av Go.Proofs Go.Proofs.YtbgmofhgfnmaiaaGreat.C Go.Proofs.YtbgmofhgfnmaiaaGreat.Page
open Go.Proofs.YtbgmofhgfnmaiaaGreat.Batch (Bs Pr prs aS)
open Go.Proofs.YtbgmofhgfnmaiaaGreat.R10 (gB mj ir shut gA iK AL mi se inR Db mh rest)
theorem qB {k v:Bs}:∀{l:List Pr},(∀p∈l,Op.bytesLess p.k k=false)→l.Pairwise kLt→gB k v true l=l.filter (fun p=>Op.bytesLess k p.k)
 |[],_,_=>rfl
 |p::l,h,hr=>by
  have h1:=h p (List.mem_cons_self ..)
  have ih:=qB (k:=k) (v:=v) (l:=l) (fun q hq=>h q (List.mem_cons_of_mem _ hq)) (List.pairwise_cons.1 hr).2
  rw[gB,Bool.true_or,ih]
  by_cases e:p.k=k
  ·have:Op.bytesLess k p.k=false:=by rw[e];exact cN k
   simp[e,this,List.filter_cons,cN]
  ·have:Op.bytesLess k p.k=true:=by
    rcases dy k p.k with q|q|q
    ·exact q
    ·exact absurd q.symm e
    ·rw[h1] at q;cases q
   simp[e,this,List.filter_cons]
theorem ml {k v:Bs}:∀{l:List Pr},l.Pairwise kLt→gB k v false l=fy l k v
 |[],_=>rfl
 |p::l,hr=>by
  obtain ⟨h1,h2⟩:=List.pairwise_cons.1 hr
  cases hb:Op.bytesLess p.k k with
  |true=>
   have ih:=ml (k:=k) (v:=v) h2
   have hne:¬p.k=k:=ne_of_lt hb
   have hn:Op.bytesLess k p.k=false:=gU hb
   rw[gB,hb]
   simp only[Bool.not_true,Bool.or_false,Bool.true_eq_false,and_false,if_false,hne,List.nil_append]
   rw[ih]
   simp[fy,List.filter_cons,hb,hn]
  |false=>
   have hge:∀q∈l,Op.bytesLess q.k k=false:=fun q hq=>by
    have a:=h1 q hq
    cases e:Op.bytesLess q.k k with
    |false=>rfl
    |true=>
     have:=rQ a (show Lt q.k k from e)
     rw[Lt,hb] at this;cases this
   have ht:=qB (k:=k) (v:=v) hge h2
   have hz:l.filter (fun p=>Op.bytesLess p.k k)=[]:=gJ hge
   rw[gB,hb]
   simp only[Bool.not_false,Bool.or_true,and_self,if_true]
   rw[ht]
   by_cases e:p.k=k
   ·have:Op.bytesLess k p.k=false:=by rw[e];exact cN k
    simp[fy,e,List.filter_cons,cN,hz]
   ·have:Op.bytesLess k p.k=true:=by
     rcases dy k p.k with q|q|q
     ·exact q
     ·exact absurd q.symm e
     ·rw[hb] at q;cases q
    simp[fy,e,this,hb,List.filter_cons,hz]
theorem put_eq {l:List Pr} {k v:Bs} (hr:l.Pairwise kLt) (h1:k.length≤128) (h2:v.length≤200):mj l k v=fy l k v∧ir k v=0:=by
 have hs:shut k v=false:=by simp[shut];omega
 unfold mj ir
 rw[hs]
 exact ⟨ml hr,rfl⟩
theorem vn {l:List Pr} {k v:Bs} (h:128<k.length∨200<v.length):mj l k v=l∧ir k v=2:=by
 have hs:shut k v=true:=by simp[shut];omega
 unfold mj ir
 rw[hs]
 exact ⟨rfl,rfl⟩
theorem qC {l:List Pr} {k:Bs} (h:∃p∈l,p.k=k):gA l k=dS l k∧iK l k=0:=by
 have e:mi l k=0:=by
  unfold mi
  cases hf:l.find? (mh k) with
  |some x=>rfl
  |none=>
   rw[List.find?_eq_none] at hf
   obtain ⟨p,hp,e⟩:=h
   have:=hf p hp
   simp[mh,e] at this
 unfold gA iK
 rw[e]
 exact ⟨rfl,rfl⟩
theorem yv {l:List Pr} {k:Bs} (h:∀p∈l,p.k≠k):gA l k=l∧iK l k=7:=by
 have e:mi l k=7:=by
  unfold mi
  cases hf:l.find? (mh k) with
  |some x=>
   have h1:=List.mem_of_find?_eq_some hf
   have h2:=List.find?_some hf
   exact absurd (by simpa [mh] using h2) (h x h1)
  |none=>rfl
 unfold gA iK
 rw[e]
 exact ⟨rfl,rfl⟩
theorem sf {to:Bs} {p q:Pr} (h:il to p=true) (hl:kLt p q):il to q=true:=by
 simp only[il,Bool.and_eq_true,Bool.not_eq_true'] at h ⊢
 exact ⟨h.1,by
  cases e:Op.bytesLess q.k to with
  |false=>rfl
  |true=>have:=rQ hl (show Lt q.k to from e);rw[Lt,h.2] at this;cases this⟩
theorem yw {to:Bs} {most:Int}:∀{l acc:List Pr},l.Pairwise kLt→most<0→(dV to most l acc).1=acc++l.filter (fun p=> !il to p)
 |[],acc,_,_=>by simp[dV]
 |p::l,acc,hr,hm=>by
  obtain ⟨h1,h2⟩:=List.pairwise_cons.1 hr
  simp only[dV]
  split
  ·rename_i hs
   rw[gJ fun q hq=>?_]
   ·simp
   ·rcases List.mem_cons.1 hq with rfl|hq
    ·simp[hs]
    ·simp[sf hs (h1 q hq)]
  ·rename_i hs
   rw[if_neg ab,yw h2 hm]
   simp[List.filter_cons,hs]
theorem yy {to:Bs} {most:Int}:∀{l acc:List Pr},l.Pairwise kLt→(acc.length:Int)<most→(dV to most l acc).1=acc++(l.filter (fun p=> !il to p)).take (most.toNat - acc.length)
 |[],acc,_,_=>by simp[dV]
 |p::l,acc,hr,hm=>by
  obtain ⟨h1,h2⟩:=List.pairwise_cons.1 hr
  simp only[dV]
  split
  ·rename_i hs
   rw[gJ fun q hq=>?_]
   ·simp
   ·rcases List.mem_cons.1 hq with rfl|hq
    ·simp[hs]
    ·simp[sf hs (h1 q hq)]
  ·rename_i hs
   have hk:most.toNat - acc.length=(most.toNat - (acc.length+1))+1:=by omega
   have hf:(p::l).filter (fun p=> !il to p)=p::l.filter (fun p=> !il to p):=by simp[List.filter_cons,hs]
   rw[hf,hk,List.take_succ_cons]
   split
   ·rename_i e
    rw[show most.toNat - (acc.length+1)=0 by omega]
    simp
   ·rw[yy h2 ak]
    simp
theorem Ey {l:List Pr} (hr:l.Pairwise kLt) (a b:Bs) (most:Int):jv l a b most=se l a b most:=by
 have hf:l.filter (fun p=>inR a b p.k)=(dD a l).filter (fun p=> !il b p):=by
  unfold dD
  rw[List.filter_filter]
  refine List.filter_congr fun p _=>?_
  simp only[inR,il]
  cases decide (b=[])<;>cases Op.bytesLess p.k a<;>cases Op.bytesLess p.k b<;>rfl
 have hr2:(dD a l).Pairwise kLt:=hr.sublist List.filter_sublist
 unfold jv se Db
 rw[hf]
 by_cases h0:most=0
 ·subst h0;simp
 ·rw[if_neg h0]
  by_cases hm:most<0
  ·rw[if_pos hm,yw hr2 hm];simp
  ·rw[if_neg hm,yy hr2 ak];simp
theorem qD {l:List Pr} (hr:l.Pairwise kLt):jv l [] [] (-1)=l:=by
 rw[Ey hr]
 unfold se Db
 rw[if_pos ah]
 exact filter_all fun p _=>by simp[inR,dc]
end Go.Proofs.YtbgmofhgfnmaiaaGreat.Tree
end
section
set_option maxRecDepth 100000
namespace Go.Proofs.YtbgmofhgfnmaiaaGreat.Tree
open Go Go.Av Go.Proofs Go.Proofs.YtbgmofhgfnmaiaaGreat.C Go.Proofs.YtbgmofhgfnmaiaaGreat.Page
open Go.Proofs.YtbgmofhgfnmaiaaGreat.Batch (Bs Pr prs aS)
def fK (s:PgS) (B:Nat):Rt→Prop
 |none=>True
 |some ⟨L,t⟩=>On s L t∧WF L [] none t∧(bp L t).Nodup∧Bnd L t B
theorem fK.congr {s s':PgS} {B:Nat} {R:Rt} (h:fK s B R) (e:∀j∈cM R,bts s' j=bts s j):fK s' B R:=by
 cases R with
 |none=>trivial
 |some r=>
  obtain ⟨L,t⟩:=r
  exact ⟨h.1.congr e,h.2⟩
theorem fK.more {s:PgS} {B B':Nat} {R:Rt} (h:fK s B R) (hB:B≤B'):fK s B' R:=by
 cases R with
 |none=>trivial
 |some r=>
  obtain ⟨L,t⟩:=r
  obtain ⟨a,b,c,f,h0,h1,h2⟩:=h
  exact ⟨a,b,c,f,ab,h1,h2⟩
theorem jx {s:PgS} {B:Nat} {R:Rt} (h:ROk s B R):fK s B R:=by
 cases R with
 |none=>trivial
 |some r=>
  obtain ⟨L,t⟩:=r
  exact ⟨h.1.on,h.1.wf,h.1.nd,h.2⟩
theorem Dc {s:PgS} {B:Nat} {R:Rt} (h:fK s B R) (hs:∀j∈cM R,(stt s j=1∨stt s j=2)∧j<s.np):ROk s B R:=by
 cases R with
 |none=>trivial
 |some r=>
  obtain ⟨L,t⟩:=r
  exact ⟨⟨h.1,h.2.1,h.2.2.1,hs⟩,h.2.2.2⟩
theorem fK.Dd {s:PgS} {B:Nat} {R:Rt} (h:fK s B R):(aJ R).Pairwise kLt:=by
 cases R with
 |none=>exact List.Pairwise.nil
 |some r=>
  obtain ⟨L,t⟩:=r
  exact (jq L _ _ t h.2.1).2.2
theorem fK.lev {s:PgS} {B:Nat} {R:Rt} (h:fK s B R) (hB:B≤121):∀L t,R=some ⟨L,t⟩→L≤6:=fun L t e=>by
 subst e;exact Ep h.2.2.2 hB
theorem fK.bp {s:PgS} {B:Nat} {R:Rt} (h:fK s B R):(cM R).length≤2*B:=by
 cases R with
 |none=>exact Nat.zero_le _
 |some r=>
  obtain ⟨L,t⟩:=r
  exact AB h.2.2.2
theorem oO:∀(L:Nat) (lo:Bs) (hi:Option Bs) (t:Tr L),WF L lo hi t→∀p∈aN L t,p.k.length≤128
 |0,lo,hi,t,h,p,hp=>by
  obtain ⟨i,ks,vs'⟩:=t
  obtain ⟨vs,hvs⟩:∃vs:List Bs,vs=vs':=⟨vs',rfl⟩
  subst hvs
  have hr:right (aA ks vs)=true:=h.1
  obtain ⟨r1,-⟩:=(bA (n:=aA ks vs) rfl).1 hr
  exact r1.1 _ (eB hp)
 |L+1,lo,hi,t,h,p,hp=>by
  obtain ⟨i,ks,us'⟩:=t
  obtain ⟨us,hus⟩:∃us:List (Tr L),us=us':=⟨us',rfl⟩
  subst hus
  have hw:bH (WF L) lo hi ks us:=h.2.2
  have hp:p∈(us.map (aN L)).flatten:=hp
  obtain ⟨l,hl,hpl⟩:=List.mem_flatten.1 hp
  obtain ⟨u,hu,rfl⟩:=List.mem_map.1 hl
  obtain ⟨j,hj,rfl⟩:=List.mem_iff_getElem.1 hu
  have:=hw.len
  obtain ⟨u',hu',wu,-⟩:=hw.at (j:=j) ab
  rw[List.getElem?_eq_getElem hj] at hu'
  cases hu'
  exact oO L _ _ _ wu p hpl
theorem fK.short {s:PgS} {B:Nat} {R:Rt} (h:fK s B R):∀p∈aJ R,p.k.length≤128:=by
 cases R with
 |none=>intro p hp;cases hp
 |some r=>
  obtain ⟨L,t⟩:=r
  exact oO L _ _ t h.2.1
theorem tB:∀(n:Nat) (f:Nat→Bool) (l:List Nat),(∀j,j<n→f j=true→j∈l)→dL f n≤l.length
 |0,_,_,_=>Nat.zero_le _
 |n+1,f,l,h=>by
  rw[dL]
  cases hf:f n with
  |false=>
   have:=tB n f l fun j hj=>h j ab
   simpa using this
  |true=>
   have hm:=h n (Nat.lt_succ_self _) hf
   have h1:=tB n f (l.erase n) fun j hj hfj=>(List.mem_erase_of_ne ab).2 (h j ab hfj)
   have h2:=List.length_erase_of_mem hm
   have h3:=List.length_pos_of_mem hm
   simp only[Bool.toNat_true]
   omega
theorem yz (f:Nat→Bool):∀n,dL f n+dL (fun j=> !f j) n=n
 |0=>rfl
 |n+1=>by
  have:=yz f n
  simp only[dL]
  cases f n<;>simp<;>omega
structure iL (s:PgS) (R Rw:Rt):Prop where
 cur:∀j,(stt s j=1∨stt s j=2)↔j∈cM R
 old:∀j,(stt s j=1∨stt s j=3)↔j∈cM Rw
theorem room {s:PgS} {R Rw:Rt} {B W:Nat} (ok:bP s) (p:iL s R Rw) (h1:(cM R).length≤2*B) (h2:(cM Rw).length≤2*W):s.np≤free s+2*B+2*W:=by
 have a:=yz (fun j=>decide (stt s j=0)) s.np
 have b:=tB s.np (fun j=> !decide (stt s j=0)) (cM R++cM Rw) fun j hj hf=>by
  have h3:stt s j≤3:=ok.st3 j
  have hf:stt s j≠0:=by simpa using hf
  rw[List.mem_append]
  rcases (by omega:stt s j=1∨stt s j=2∨stt s j=3) with e|e|e
  ·exact .inl ((p.cur j).1 (.inl e))
  ·exact .inl ((p.cur j).1 (.inr e))
  ·exact .inr ((p.old j).1 (.inr e))
 rw[List.length_append] at b
 unfold free
 omega
theorem iL.mv {s s':PgS} {R R' Rw:Rt} (p:iL s R Rw) (m:Mv s s' (fun j=>j∈cM R) (fun j=>j∈cM R')):iL s' R' Rw where
 cur j:=by
  by_cases a:j∈cM R<;>by_cases b:j∈cM R'
  ·have:=m.stay j b a
   have c:=(p.cur j).2 a
   rw[this];simp[b,c]
  ·have c:=m.gone j a b
   simp only[b,iff_false]
   omega
  ·have c:=m.new j b a
   simp only[b,iff_true]
   omega
  ·have c:=m.off j a b
   have e:=p.cur j
   rw[c.1]
   simp only[a,iff_false,b] at e ⊢
   exact e
 old j:=(m.k13 j).trans (p.old j)
def AO (s:PgS):Prop:=∀w∈s.p,stt s (w.1/8)≠1∧stt s (w.1/8)≠3
theorem AO.mv {s s':PgS} {P P':Nat→Prop} (h:AO s) (m:Mv s s' P P'):AO s':=fun w hw=>by
 have k:=m.k13 (w.1/8)
 rcases m.pend w hw with a|a
 ·have:=h w a;omega
 ·omega
theorem vo {s:PgS} {a b:Nat} {ws:List W} (ok:bP s) (ha:a≠0) (hb:b≠0) (j:Nat):stt {s with ws:=ws,st:=eX a b s.st s.np} j=gz a b (stt s j):=by
 have hl:=ok.st
 unfold stt eX
 simp only
 rw[List.take_of_length_le ab,List.drop_eq_nil_of_le ab,List.append_nil,List.getD_eq_getElem?_getD,List.getElem?_map,List.getD_eq_getElem?_getD]
 cases s.st[j]? with
 |some z=>rfl
 |none=>simp[gz,ha.symm,hb.symm]
theorem xo {s:PgS} (ok:bP s) {j:Nat} (h:stt s j≠0):j<s.np:=by
 rcases Nat.lt_or_ge j s.np with e|e
 ·exact e
 ·exfalso
  apply h
  unfold stt
  rw[List.getD_eq_getElem?_getD,List.getElem?_eq_none (by rw[ok.st];exact e)]
  rfl
end Go.Proofs.YtbgmofhgfnmaiaaGreat.Tree
end
section
set_option maxRecDepth 100000
namespace Go.Proofs.YtbgmofhgfnmaiaaGreat.Tree
open Go Go.Av Go.Proofs Go.Proofs.YtbgmofhgfnmaiaaGreat.C Go.Proofs.YtbgmofhgfnmaiaaGreat.Page
open Go.Proofs.YtbgmofhgfnmaiaaGreat.Batch (Bs Pr prs aS Ls)
open Go.Proofs.YtbgmofhgfnmaiaaGreat.R10 (gB mj ir shut gA iK AL mi se inR Db mh rest tA xn Da jU)
def stO (x:PgI) (tid:Nat) (l:List Pr) (root:Int) (was:List Pr):Av.Obj:= .cells [.ptr tid 0,.ptr x.P 0,.ptr x.D 0,.sl 2 (prs l) .any,.int .i64 root,.sl 2 (prs was) .any]
structure Hq (x:PgI) (T:List Nat) (sid tid:Nat) (s:PgS) (R Rw:Rt) (C W:Nat) (h:H):Prop where
 ts:Ts x T tid s R C h
 os:h.objs sid=some (stO x tid (aJ R) (rpg Rw) (aJ Rw))
 sx:Tid x sid
 ne:sid≠tid
 np:s.np=500
 pg:iL s R Rw
 old:fK s W Rw
 pe:AO s
 pl:s.p.length≤200*C
 ll:(aJ R).length≤C
 lw:(aJ Rw).length≤W
 wc:W≤C
section
variable {x:PgI} {s:PgS} {T:List Nat} {h:H} {sid tid C W:Nat} {R Rw:Rt}
theorem AP {l:List Pr} {k:Bs}:(dS l k).length≤l.length:=List.length_filter_le _ _
theorem De {l:List Pr} {k v:Bs} (hr:l.Pairwise kLt):(fy l k v).length≤l.length+1:=by
 rw[←ml hr]
 have:=R10.kZ k v l false
 simpa using this
theorem eC.more {B B':Nat} {s':PgS} {R':Rt} {h':H} (m:eC x T tid s R h B s' R' h') (hB:B≤B'):eC x T tid s R h B' s' R' h':=
 ⟨m.ts.keep m.ts.pg rfl hB,m.mv,m.pl,m.sm,m.no,m.ln⟩
end
end Go.Proofs.YtbgmofhgfnmaiaaGreat.Tree
end
section
set_option maxRecDepth 100000
namespace Go.Proofs.YtbgmofhgfnmaiaaGreat.Tree
open Go Go.Av Go.Proofs Go.Proofs.YtbgmofhgfnmaiaaGreat.C Go.Proofs.YtbgmofhgfnmaiaaGreat.Page
open Go.Proofs.YtbgmofhgfnmaiaaGreat.Batch (Bs Pr prs aS)
section
variable {x:PgI} {s:PgS} {T:List Nat} {h:H} {sid tid C W:Nat} {R Rw:Rt}
theorem FN (R:Rt): -1≤rpg R:=by
 cases R with
 |none=>exact Int.le_refl _
 |some r=>obtain ⟨L,t⟩:=r;show (-1:Int)≤((t.pg:Nat):Int);omega
theorem FO {R:Rt} (hn:0<s.np) (h:∀j∈cM R,j<s.np):rpg R<s.np:=by
 cases R with
 |none=>show (-1:Int)<_;omega
 |some r=>
  obtain ⟨L,t⟩:=r
  have:=h t.pg (by simp[cM,bp])
  show ((t.pg:Nat):Int)<_
  omega
end
structure Act where
 kd:Int
 k:Bs
 v:Bs
deriving Inhabited
def tC (a:Act):AV:= .agg [.int .i64 a.kd,.str a.k,.str a.v]
def tD (l:List Act):List AV:=l.map tC
theorem cP (l:List Act):(tD l).length=l.length:=by simp[tD]
theorem sg (l:List Act) (j:Nat) (d:AV) (h:j<l.length):(tD l).getD j d=tC (l.getD j default):=by
 simp[tD,List.getD,List.getElem?_map,List.getElem?_eq_getElem h]
theorem og (l:List Act):aU (tD l)=true:=Batch.dr (fun x=>by simp[tC,bq,aU]) l
def lj (l:List Act):Bool:=decide (l.length≤60)&&l.all fun a=>decide (a.k.length≤1000)&&decide (a.v.length≤1000)
section
variable {x:PgI} {s:PgS} {T:List Nat} {h:H} {sid tid C W:Nat} {R Rw:Rt}
set_option maxHeartbeats 1000000 in
theorem EP (l:List Act) (hl:l.length≤4611686018427387904):bc Tryz.prog 8 [.sl 3 (tD l) .any] (.bool (lj l)):=by
 refine f8.dB af (by simp[aU,bq,cR,og]) (by simp[bq]) ?_
 unfold c8 zz
 by_cases h60:l.length≤60
 ·have d1:decide ((60:Int)<(l.length:Int))=false:=decide_eq_false ab
  refine an0 (cj2 @cP d1) ?_
  refine Wp.mE [0] xA6 (fun j:Nat=>[(3,.int .i64 j)]) (fun j=>j≤l.length∧(l.take j).all (fun a=>decide (a.k.length≤1000)&&decide (a.v.length≤1000))=true) (fun j=>l.length - j) 0 ⟨Nat.zero_le _,rfl⟩ ?_ ?_
  ·exact xSb
  rintro j ⟨hj,hpre⟩
  by_cases hc:j<l.length
  ·obtain ⟨g1,h2,h3,e1⟩:=ixF (j:=j) (n:=l.length) ab ab
   have hat:=sg l j .any hc
   have hel:l.getD j default=l[j]:=by simp[List.getD,List.getElem?_eq_getElem hc]
   by_cases hk:l[j].k.length≤1000∧l[j].v.length≤1000
   ·have hnext:(l.take (j+1)).all (fun a=>decide (a.k.length≤1000)&&decide (a.v.length≤1000))=true:=by
     rw[List.take_succ_eq_append_getElem hc,List.all_append,hpre]
     simp[hk]
    rw[←hel] at hk
    generalize l.getD j default=a at*
    have d2:decide ((1000:Int)<(a.k.length:Int))=false:=decide_eq_false ab
    have d3:decide ((1000:Int)<(a.v.length:Int))=false:=decide_eq_false ab
    refine an0 (mN @cP g1 h2 h3 e1 @Int.toNat_natCast hat @tC.eq_1 d2 d3) ?_
    refine ⟨j+1,⟨ab,hnext⟩,ab,?_⟩
    exact xSu
   ·have hno:lj l=false:=by
     unfold lj
     rw[Bool.and_eq_false_iff]
     refine .inr ?_
     rw[Bool.eq_false_iff]
     intro ha
     have:=List.all_eq_true.1 ha l[j] (List.getElem_mem hc)
     simp at this
     exact hk this
    rw[hno,←hel] at*
    generalize l.getD j default=a at*
    by_cases hk1:a.k.length≤1000
    ·have d2:decide ((1000:Int)<(a.k.length:Int))=false:=decide_eq_false ab
     have d3:decide ((1000:Int)<(a.v.length:Int))=true:=decide_eq_true ab
     refine an0 (mN @cP g1 h2 h3 e1 @Int.toNat_natCast hat @tC.eq_1 d2 d3) ?_
     refine cL ?_
     exact ay.refl _
    ·have d2:decide ((1000:Int)<(a.k.length:Int))=true:=decide_eq_true ab
     refine an0 (cj9 @cP g1 h2 h3 e1 @Int.toNat_natCast hat @tC.eq_1 d2) ?_
     refine cL ?_
     exact ay.refl _
  ·obtain rfl:j=l.length:=by omega
   have hyes:lj l=true:=by
    unfold lj
    rw[List.take_length] at hpre
    rw[hpre,decide_eq_true h60];rfl
   rw[hyes]
   have g1:=ixE (l.length)
   refine an0 (cj2 @cP g1) ?_
   refine cL ?_
   exact ay.refl _
 ·have d1:decide ((60:Int)<(l.length:Int))=true:=decide_eq_true ab
  have hno:lj l=false:=by unfold lj;rw[decide_eq_false h60];rfl
  rw[hno]
  refine an0 (cj2 @cP d1) ?_
  refine cL ?_
  exact ay.refl _
set_option maxHeartbeats 2000000 in
theorem yA {F:Nat→Option Av.Obj} {n m k:Nat} (hf:∀j,n≤j→F j=none) (hT:∀t∈T,t<m) (h0:0<k) (h1:k≤500):
  aM Tryz.prog 10 [.int .i64 (k:Nat)] ⟨F,n,T,m⟩ fun q h'=>∃x t,q= .tup [.ptr t 0,.ptr x.P 0,.ptr x.D 0]∧Tid x t∧h'.objs t=some (trO x (-1))∧PgH x (pg0 k) T h'∧aq ⟨F,n,T,m⟩ h':=by
 refine f10.cq af ?_
 unfold c10 zz
 have e1:IntKind.i64.wrap (8*(k:Int))=((8*k:Nat):Int):=by rw[IntWalk.i64_in _ ab];omega
 have c1:=Am (F:=F) (n:=n) (m:=m) (T:=T) (k:=8*k) ab ab
 have c2:=wR (F:=upd (upd F n (some (.bk ⟨8*k,[]⟩))) (n+1) (some (dkO n (8*k) (cZ [] none)))) (n:=n+1+1) (m:=m) (T:=T) (D:=n+1) (K:=n) (k:=k) (pa:=cZ [] none) (by simp[upd]) h0 h1
 have g:=GQ (F:=F) (n:=n) (m:=m) (T:=T) (k:=k) hf hT
 have no:aq ⟨F,n,T,m⟩ ⟨nr (upd (upd F n (some (.bk ⟨8*k,[]⟩))) (n+1) (some (dkO n (8*k) (cZ [] none)))) (n+1+1) (n+1) k,n+1+1+1+1+1+1,T,m⟩:=fun j hj=>by
  by_cases hn:n≤j
  ·refine .inr ⟨hn,?_⟩
   rcases Nat.lt_or_ge j (n+1+1+1+1+1+1) with q|q
   ·exact q
   ·rw[g.fresh j q] at hj;cases hj
  ·left
   simp only[nr,upd] at hj ⊢
   simpa [show ¬j=n+1+1+1+1+1 by omega,show ¬j=n+1+1+1+1 by omega,show ¬j=n+1+1+1 by omega,show ¬j=n+1+1 by omega,show ¬j=n+1 by omega,show ¬j=n by omega] using hj
 have hn6:(⟨nr (upd (upd F n (some (.bk ⟨8*k,[]⟩))) (n+1) (some (dkO n (8*k) (cZ [] none)))) (n+1+1) (n+1) k,n+1+1+1+1+1+1,T,m⟩:H).n=n+1+1+1+1+1+1:=rfl
 generalize hF2:nr (upd (upd F n (some (.bk ⟨8*k,[]⟩))) (n+1) (some (dkO n (8*k) (cZ [] none)))) (n+1+1) (n+1) k=F2 at*
 generalize upd (upd F n (some (.bk ⟨8*k,[]⟩))) (n+1) (some (dkO n (8*k) (cZ [] none)))=F1 at*
 have d0:decide ((0:Int)=0)=true:=by decide
 refine rf0 e1 ?_
 refine an.cx xA2 xAb (by exact ⟨Nat.le_add_right _ 2,Nat.le_refl _⟩) (c1) ?_
 refine an.evF xAc ?_
 refine an.nil ?_
 refine rf0 (cj2 d0 @Bool.not_true) ?_
 refine an.cx xA2 xAb (by exact ⟨Nat.le_add_right _ 4,Nat.le_refl _⟩) (c2) ?_
 refine an.evF xAc ?_
 refine an.nil ?_
 have ho:=Cs g (wS h0 h1) (r:= -1) (Int.le_refl _) (by show (-1:Int)<(k:Nat);omega)
 refine rf0 @and_self ?_
 refine an.aY (vals:=[.ptr (n+1+1+1+1+1) 0,.int .i64 (-1)]) ae xA4 ho fun q h3 ⟨t,hq,t1,t2,ot3,g3,k3,no3⟩ n3 _=>?_
 subst hq
 refine an.evF xAc ?_
 refine an.nil ?_
 refine rf0 (cj2 d0 @Bool.not_true) ?_
 refine Wp.ret ⟨trivial,.tup [.ptr t 0,.ptr (n+1+1+1+1+1) 0,.ptr (n+1) 0],?_,_,t,rfl,ew g t1,ot3,g3,aq.trans no no3 (by exact Nat.le_add_right _ 6) n3⟩
 simp only[go_sem]
 exact rfl
end
end Go.Proofs.YtbgmofhgfnmaiaaGreat.Tree
end
section
set_option maxRecDepth 100000
namespace Go.Proofs.YtbgmofhgfnmaiaaGreat.Tree
open Go Go.Av Go.Proofs Go.Proofs.YtbgmofhgfnmaiaaGreat.C Go.Proofs.YtbgmofhgfnmaiaaGreat.Page
open Go.Proofs.YtbgmofhgfnmaiaaGreat.Batch (Bs Pr prs aS)
open Go.Proofs.YtbgmofhgfnmaiaaGreat.R10 (jU)
structure Tn (x:PgI) (T:List Nat) (tid:Nat) (s:PgS) (R:Rt) (C:Nat) (l:List Pr) (h:H):Prop where
 ts:Ts x T tid s R C h
 pg:iL s R none
 np:s.np=10
 pl:s.p.length≤2000
 eq:aJ R=l
section
variable {x:PgI} {s:PgS} {T:List Nat} {h:H} {tid C:Nat} {R:Rt} {l:List Pr}
theorem Tn.room (g:Tn x T tid s R C l h):10≤free s+2*C:=by
 have:=Tree.room (W:=0) g.ts.ok g.pg (jx g.ts.rk).bp (Nat.zero_le _)
 have:=g.np
 omega
theorem Tn.low (g:Tn x T tid s R C l h):∀L t,R=some ⟨L,t⟩→2^L≤C:=fun L t e=>by
 have:=g.ts.rk
 rw[e] at this
 exact ym this.2
theorem Tn.qE {s':PgS} {R':Rt} {h':H} {C':Nat} {l':List Pr} (g:Tn x T tid s R C l h) (m:eC x T tid s R h C' s' R' h') (hp:s.p.length≤1800) (e:aJ R'=l'):Tn x T tid s' R' C' l' h':=
 ⟨m.ts,g.pg.mv m.mv,m.mv.np.trans g.np,by have:=m.pl;omega,e⟩
theorem nD {L C:Nat} (h:2^L≤C) (hC:C≤3):L≤1:=by
 rcases Nat.lt_or_ge L 2 with e|e
 ·omega
 ·have:=Nat.pow_le_pow_right (n:=2) ah e
  omega
theorem pow_zero {L C:Nat} (h:2^L≤C) (hC:C≤1):L=0:=by
 rcases Nat.lt_or_ge L 1 with e|e
 ·omega
 ·have:=Nat.pow_le_pow_right (n:=2) ah e
  omega
theorem Tn.box {h':H} (g:Tn x T tid s R C l h) (b:fJ x T tid s R C h h'):Tn x T tid s R C l h':=⟨b.ts,g.pg,g.np,g.pl,g.eq⟩
theorem Tn.lev (g:Tn x T tid s R C l h) (hC:C≤3):∀L t,R=some ⟨L,t⟩→L≤6:=fun L t e=>by have:=nD (g.low L t e) hC;omega
theorem Tn.scan (g:Tn x T tid s R C l h) (hC:C≤3) (hl:l.length≤1000):aM Tryz.prog 13 [.ptr tid 0,.str [],.str [],.int .i64 (-1)] h fun q h'=>q= .tup [.sl 2 (prs l) .any,.int .i64 0]∧Tn x T tid s R C l h':=by
 have he:=g.eq
 refine (C5 g.ts (g.lev hC) (by have:=g.pl;omega) (by rw[he];omega)).mono ?_
 rintro q h' ⟨b,e⟩
 rw[qD (jx g.ts.rk).Dd,he] at e
 exact ⟨e,g.box b⟩
theorem Tn.check (g:Tn x T tid s R C l h) (hC:C≤3) (hl:l.length≤1000):aM Tryz.prog 12 [.ptr tid 0] h fun q h'=>q= .tup [.int .i64 (l.length:Nat),.int .i64 0]∧Tn x T tid s R C l h':=by
 have he:=g.eq
 refine (tz g.ts (g.lev hC) (by have:=g.pl;omega) (by rw[he];omega)).mono ?_
 rintro q h' ⟨b,e⟩
 rw[he] at e
 exact ⟨e,g.box b⟩
theorem Tn.get {k:Bs} (g:Tn x T tid s R C [] h) (hC:C≤3):aM Tryz.prog 14 [.ptr tid 0,.str k] h fun q h'=>q= .tup [.str [],.int .i64 7]∧Tn x T tid s R C [] h':=by
 have he:=g.eq
 refine (GZ g.ts (g.lev hC) (by have:=g.pl;omega)).mono ?_
 rintro q h' ⟨b,e⟩
 rw[he] at e
 exact ⟨e,g.box b⟩
theorem sj (k:Nat):iL (pg0 k) none none:=by
 have h0:∀j,stt (pg0 k) j=0:=fun j=>by
  unfold stt pg0
  simp only[List.getD_eq_getElem?_getD,List.getElem?_replicate]
  split<;>rfl
 exact ⟨fun j=>by rw[h0];simp[cM],fun j=>by rw[h0];simp[cM]⟩
end
section
variable {x:PgI} {s:PgS} {T:List Nat} {h:H} {tid C:Nat} {R:Rt} {l:List Pr}
theorem Tn.FP {k v:Bs} (g:Tn x T tid s R C l h) (hC:C≤2) (hp:s.p.length≤200*C) (hk:k.length≤128) (hv:v.length≤200):aM Tryz.prog 24 [.ptr tid 0,.str k,.str v] h fun q h'=>q= .int .i64 0∧∃s' R',Tn x T tid s' R' (C+1) (fy l k v) h'∧s'.p.length≤200*(C+1):=by
 have hr:=g.room
 refine (GX g.ts (fun L t e=>by have:=nD (g.low L t e) ab;omega) ⟨ab,fun L t e=>?_⟩ ab).mono ?_
 ·have h2:=g.low L t e
  have:=nD h2 ab
  by_cases h1:C≤1
  ·have:=pow_zero h2 h1;omega
  ·omega
 ·rintro q h' ⟨s',R',m,c⟩
  rcases c with ⟨-,-,e,b⟩|⟨a,-⟩
  ·exact ⟨e,s',R',g.qE m ab (by rw[b,g.eq]),by have:=m.pl;omega⟩
  ·omega
theorem Tn.ER {k:Bs} (g:Tn x T tid s R 3 l h) (hp:s.p.length≤1600) (hk:∃p∈l,p.k=k):aM Tryz.prog 20 [.ptr tid 0,.str k] h fun q h'=>q= .int .i64 0∧∃s' R',Tn x T tid s' R' 3 (dS l k) h'∧s'.p.length≤s.p.length+200:=by
 have hr:=g.room
 have he:=g.eq
 refine (FG g.ts (fun L t e=>by have:=nD (g.low L t e) ab;omega) (fun L t e=>by have:=nD (g.low L t e) ab;omega) ab).mono ?_
 rintro q h' ⟨s',R',m,c⟩
 rcases c with ⟨-,e,b⟩|⟨a,-⟩
 ·exact ⟨e,s',R',g.qE m ab (by rw[b,he]),m.pl⟩
 ·obtain ⟨p,hp,e⟩:=hk
  exact absurd e (a p (he▸hp))
set_option maxHeartbeats 4000000 in
theorem yB:bc Tryz.prog 9 [] (.bool true):=by
 refine f9.dB af rfl rfl ?_
 unfold c9 zz
 have hb:aM Tryz.prog 10 [.int .i64 10] ⟨aB,0,[],0⟩ fun q h'=>∃x t,q= .tup [.ptr t 0,.ptr x.P 0,.ptr x.D 0]∧Tid x t∧h'.objs t=some (trO x (-1))∧PgH x (pg0 10) [] h'∧aq ⟨aB,0,[],0⟩ h':=yA (k:=10) (fun _ _=>rfl) (fun t ht=>by cases ht) ah ah
 refine rf0 @and_self ?_
 refine an.aY (vals:=[.int .i64 10]) ae xA4 hb fun q h0 ⟨x,tid,hq,tx,ot,g,_⟩ _ _=>?_
 subst hq
 refine an.evF xAc ?_
 refine an.nil ?_
 have t0:Tn x [] tid (pg0 10) none 0 [] h0:=⟨⟨g,wS ah ah,ot,tx,trivial⟩,sj 10,rfl,Nat.zero_le _,rfl⟩
 refine rf0 @and_self ?_
 refine an.aY (vals:=[.ptr tid 0,.str [98],.str [49]]) ae xA4 (t0.FP (k:=[98]) (v:=[49]) ah (Nat.zero_le _) ah ah) fun q h1 ⟨hq,s1,R1,t1,p1⟩ _ _=>?_
 subst hq
 refine an.evF xAc ?_
 refine an.nil ?_
 refine rf0 @and_self ?_
 refine an.aY (vals:=[.ptr tid 0,.str [97],.str [50]]) ae xA4 (t1.FP (k:=[97]) (v:=[50]) ah p1 ah ah) fun q h2 ⟨hq,s2,R2,t2,p2⟩ _ _=>?_
 subst hq
 refine an.evF xAc ?_
 refine an.nil ?_
 refine rf0 @and_self ?_
 refine an.aY (vals:=[.ptr tid 0,.str [98],.str [51]]) ae xA4 (t2.FP (k:=[98]) (v:=[51]) ah p2 ah ah) fun q h3 ⟨hq,s3,R3,t3,p3⟩ _ _=>?_
 subst hq
 refine an.evF xAc ?_
 refine an.nil ?_
 have e3:fy (fy (fy [] [98] [49]) [97] [50]) [98] [51]=[⟨[97],[50]⟩,⟨[98],[51]⟩]:=by decide
 rw[e3] at t3
 refine rf0 @and_self ?_
 refine an.aY (vals:=[.ptr tid 0,.str [],.str [],.int .i64 (-1)]) ae xA4 (t3.scan ah ah) fun q h4 ⟨hq,t4⟩ _ _=>?_
 subst hq
 refine an.evF xAc ?_
 refine an.nil ?_
 refine rf0 @and_self ?_
 refine an.aY (vals:=[.ptr tid 0]) ae xA4 (t4.check ah ah) fun q h5 ⟨hq,t5⟩ _ _=>?_
 subst hq
 refine an.evF xAc ?_
 refine an.nil ?_
 refine rf0 @and_self ?_
 refine an.aY (vals:=[.ptr tid 0,.str [97]]) ae xA4 (t5.ER (k:=[97]) ab ⟨_,List.mem_cons_self,rfl⟩) fun q h6 ⟨hq,s6,R6,t6,p6⟩ _ _=>?_
 subst hq
 refine an.evF xAc ?_
 refine an.nil ?_
 have e6:dS [⟨[97],[50]⟩,⟨[98],[51]⟩] [97]=[⟨[98],[51]⟩]:=by decide
 rw[e6] at t6
 refine rf0 @and_self ?_
 refine an.aY (vals:=[.ptr tid 0,.str [98]]) ae xA4 (t6.ER (k:=[98]) ab ⟨_,List.mem_cons_self,rfl⟩) fun q h7 ⟨hq,s7,R7,t7,p7⟩ _ _=>?_
 subst hq
 refine an.evF xAc ?_
 refine an.nil ?_
 have e7:dS [⟨[98],[51]⟩] [98]=[]:=by decide
 rw[e7] at t7
 refine rf0 @and_self ?_
 refine an.aY (vals:=[.ptr tid 0]) ae xA4 (t7.check ah ah) fun q h8 ⟨hq,t8⟩ _ _=>?_
 subst hq
 refine an.evF xAc ?_
 refine an.nil ?_
 refine rf0 @and_self ?_
 refine an.aY (vals:=[.ptr tid 0,.str [97]]) ae xA4 (t8.get (k:=[97]) ah) fun q h9 ⟨hq,t9⟩ _ _=>?_
 subst hq
 refine an.evF xAc ?_
 refine an.nil ?_
 have hr:rpg R7= -1:=by
  have e:=t9.eq
  cases R7 with
  |none=>rfl
  |some r=>
   obtain ⟨L,t⟩:=r
   exact absurd e (jq L _ _ t t9.ts.rk.1.wf).2.1
 have cr:=C7 t9.ts
 rw[hr] at cr
 have cs:=jU [⟨[97],[50]⟩,⟨[98],[51]⟩] [⟨[97],[50]⟩,⟨[98],[51]⟩] ah ah
 rw[decide_eq_true rfl] at cs
 have cs2:bc Tryz.prog 16 [.sl 2 (prs [⟨[97],[50]⟩,⟨[98],[51]⟩]) .any,.sl 2 [.agg [.str [97],.str [50]],.agg [.str [98],.str [51]]] .any] (.bool true):=cs
 clear cs
 generalize prs [⟨[97],[50]⟩,⟨[98],[51]⟩]=L0 at*
 have d0:decide ((0:Int)=0)=true:=by decide
 have d7:decide ((7:Int)=7)=true:=by decide
 have dm:decide ((-1:Int)= -1)=true:=by decide
 have dl:decide (((([⟨[97],[50]⟩,⟨[98],[51]⟩]:List Pr).length:Nat):Int)=2)=true:=by decide
 have dn:decide (((([]:List Pr).length:Nat):Int)=0)=true:=by decide
 generalize ((([⟨[97],[50]⟩,⟨[98],[51]⟩]:List Pr).length:Nat):Int)=N2 at*
 generalize ((([]:List Pr).length:Nat):Int)=N0 at*
 refine rf0 d0 ?_
 refine an.cd al (by simp only[go_sem,reduceIte,Nat.reduceEqDiff,List.map];exact au.cons (ay.refl _) (au.cons ay.cap au.nil)) cs2 ?_
 refine an.evF (xAd (cj2 d0 dl)) ?_
 refine an.cx al xA4 ⟨Nat.le_refl _,Nat.le_refl _⟩ cr ?_
 refine an.evF (xAd (cj4 d0 dm dn d7)) ?_
 refine an.nil ?_
 refine Wp.ret ⟨trivial,.bool true,?_,ay.refl _⟩
 simp only[go_sem]
 exact rfl
end
end Go.Proofs.YtbgmofhgfnmaiaaGreat.Tree
end
section
set_option maxRecDepth 100000
namespace Go.Proofs.YtbgmofhgfnmaiaaGreat.Tree
open Go Go.Av Go.Proofs Go.Proofs.YtbgmofhgfnmaiaaGreat.C Go.Proofs.YtbgmofhgfnmaiaaGreat.Page
open Go.Proofs.YtbgmofhgfnmaiaaGreat.Batch (Bs Pr prs aS)
open Go.Proofs.YtbgmofhgfnmaiaaGreat.R10 (jU Da se AL mi)
theorem Df {l:List Act} (h:lj l=true):l.length≤60:=by
 simp only[lj,Bool.and_eq_true,decide_eq_true_eq] at h;exact h.1
theorem Ez {l:List Act} (h:lj l=true) {j:Nat} (hj:j<l.length):(l.getD j default).k.length≤1000:=by
 simp only[lj,Bool.and_eq_true,decide_eq_true_eq,List.all_eq_true] at h
 have e:l.getD j default=l[j]:=by simp[List.getD,List.getElem?_eq_getElem hj]
 rw[e]
 exact (h.2 _ (List.getElem_mem hj)).1
section
variable {x:PgI} {s:PgS} {T:List Nat} {h:H} {sid tid C W:Nat} {R Rw:Rt}
end
end Go.Proofs.YtbgmofhgfnmaiaaGreat.Tree
end
section
set_option maxRecDepth 100000
namespace Go.Proofs.YtbgmofhgfnmaiaaGreat.Tree
open Go Go.Av Go.Proofs Go.Proofs.YtbgmofhgfnmaiaaGreat.C Go.Proofs.YtbgmofhgfnmaiaaGreat.Page
open Go.Proofs.YtbgmofhgfnmaiaaGreat.Batch (Bs Pr prs aS)
open Go.Proofs.YtbgmofhgfnmaiaaGreat.R10 (mj ir gA iK)
structure gE (x:PgI) (T:List Nat) (tid:Nat) (s:PgS) (R Rw:Rt) (C W:Nat) (h:H):Prop where
 ts:Ts x T tid s R C h
 pg:iL s R Rw
 old:fK s W Rw
 pe:AO s
 pl:s.p.length≤200*C
 ll:(aJ R).length≤C
 lw:(aJ Rw).length≤W
 wc:W≤C
structure oQ (x:PgI) (T:List Nat) (s:PgS) (Rw:Rt) (C W:Nat) (h:H):Prop where
 pg:PgH x s T h
 ok:bP s
 old:∀j,(stt s j=1∨stt s j=3)↔j∈cM Rw
 st:fK s W Rw
 pe:AO s
 pl:s.p.length≤200*C
 lw:(aJ Rw).length≤W
 wc:W≤C
section
variable {x:PgI} {s:PgS} {T:List Nat} {h:H} {tid C W:Nat} {R Rw:Rt}
theorem gE.lev (g:gE x T tid s R Rw C W h) (hc:C≤121):∀L t,R=some ⟨L,t⟩→L≤6:=(jx g.ts.rk).lev hc
theorem gE.Dd (g:gE x T tid s R Rw C W h):(aJ R).Pairwise kLt:=(jx g.ts.rk).Dd
theorem gE.box {h':H} (g:gE x T tid s R Rw C W h) (b:fJ x T tid s R C h h'):gE x T tid s R Rw C W h':=⟨b.ts,g.pg,g.old,g.pe,g.pl,g.ll,g.lw,g.wc⟩
theorem gE.qE {h':H} {s':PgS} {R':Rt} (g:gE x T tid s R Rw C W h) (m:eC x T tid s R h (C+1) s' R' h') (hl:(aJ R').length≤C+1):gE x T tid s' R' Rw (C+1) W h' where
 ts:=m.ts
 pg:=g.pg.mv m.mv
 old:=g.old.congr fun j hj=>m.mv.keep j ((g.pg.old j).2 hj)
 pe:=g.pe.mv m.mv
 pl:=by have:=m.pl;have:=g.pl;omega
 ll:=hl
 lw:=g.lw
 wc:=Nat.le_succ_of_le g.wc
theorem gE.full {h':H} {m:Nat} (g:gE x T tid s R Rw C W h) (f:Full x T s m h h'):∃s',oQ x T s' Rw (C+1) W h':=by
 obtain ⟨s',a,b,lo,pl⟩:=f.ex
 refine ⟨s',a,b,fun j=>(lo.k13 j).trans (g.pg.old j),g.old.congr fun j hj=>lo.keep j ((g.pg.old j).2 hj),fun w hw=>?_,by have:=g.pl;omega,g.lw,Nat.le_succ_of_le g.wc⟩
 have k:=lo.k13 (w.1/8)
 rcases lo.pend w hw with c|c
 ·have:=g.pe w c;omega
 ·omega
theorem oQ.FQ {h':H} {s':PgS} {t:Nat} {ws:List (BitVec 64)} (g:oQ x T s Rw C W h) (h1:s'= {s with ws:=ws,st:=eX 2 3 s.st s.np}) (ok:bP s') (g':PgH x s' T h') (tx:Tid x t) (ot:h'.objs t=some (trO x (rpg Rw))):gE x T t s' Rw Rw C W h':=by
 have hs:∀j,stt s' j=gz 2 3 (stt s j):=fun j=>by rw[h1];exact vo (s:=s) (ws:=ws) g.ok ah ah j
 have hb:∀j,bts s' j=bts s j:=fun j=>by rw[h1];rfl
 have st:=g.st.congr (s':=s') fun j _=>hb j
 have cur:∀j,(stt s' j=1∨stt s' j=2)↔j∈cM Rw:=fun j=>by
  rw[←g.old j,hs]
  have:stt s j≤3:=g.ok.st3 j
  unfold gz
  split
  ·omega
  ·split<;>omega
 have old:∀j,(stt s' j=1∨stt s' j=3)↔j∈cM Rw:=fun j=>by
  rw[←g.old j,hs]
  have:stt s j≤3:=g.ok.st3 j
  unfold gz
  split
  ·omega
  ·split<;>omega
 exact ⟨⟨g',ok,ot,tx,Dc (st.more g.wc) fun j hj=>⟨(cur j).2 hj,xo ok (by have:=(cur j).2 hj;omega)⟩⟩,⟨cur,old⟩,st,fun w hw=>by
  rw[h1] at hw
  have hp:=g.pe w hw
  rw[hs]
  unfold gz
  split
  ·omega
  ·split<;>omega,by rw[h1];exact g.pl,Nat.le_trans g.lw g.wc,g.lw,g.wc⟩
theorem gE.settled {h':H} {s':PgS} {ws:List (BitVec 64)} (g:gE x T tid s R Rw C W h) (h1:s'= {s with p:=[],d:=kd (fun _=>true) s.p s.d s.p.length,tk:=none,ws:=ws,st:=eX 3 2 s.st s.np}) (ok:bP s') (g':PgH x s' T h') (ot:h'.objs tid=some (trO x (rpg R))):gE x T tid s' R R (C+1) C h':=by
 have hs:∀j,stt s' j=gz 3 2 (stt s j):=fun j=>by rw[h1];exact vo (s:=s) (ws:=ws) g.ts.ok ah ah j
 have hb:∀j,bts s' j=bts s j:=fun j=>by rw[h1];exact wT j
 have st:=(jx g.ts.rk).congr (s':=s') fun j _=>hb j
 have cur:∀j,(stt s' j=1∨stt s' j=2)↔j∈cM R:=fun j=>by
  rw[←g.pg.cur j,hs]
  have:stt s j≤3:=g.ts.ok.st3 j
  unfold gz
  split
  ·omega
  ·split<;>omega
 have old:∀j,(stt s' j=1∨stt s' j=3)↔j∈cM R:=fun j=>by
  rw[←g.pg.cur j,hs]
  have:stt s j≤3:=g.ts.ok.st3 j
  unfold gz
  split
  ·omega
  ·split<;>omega
 exact ⟨⟨g',ok,ot,g.ts.tx,Dc (st.more (Nat.le_succ _)) fun j hj=>⟨(cur j).2 hj,xo ok (by have:=(cur j).2 hj;omega)⟩⟩,⟨cur,old⟩,st,(fun w hw=>by rw[h1] at hw;cases hw),by rw[h1];exact Nat.zero_le _,Nat.le_succ_of_le g.ll,g.ll,Nat.le_succ _⟩
theorem oQ.EA (g:oQ x T s Rw C W h):rpg Rw<s.np:=FO g.ok.np0 fun j hj=>xo g.ok (by have:=(g.old j).2 hj;omega)
def Did (x:PgI) (T:List Nat) (tid:Nat) (Rw:Rt) (C W:Nat) (l:List Pr) (w:Nat) (h:H) (q:AV) (h':H):Prop:=
 aq h h'∧∃e:Int,q= .int .i64 e∧((e=(w:Nat)∧e≠10∧∃s' R',gE x T tid s' R' Rw (C+1) W h'∧aJ R'=l)∨(e=10∧w=0∧∃s',oQ x T s' Rw (C+1) W h'))
theorem G7 (g:gE x T tid s R Rw C W h) (hc:C≤120) (key vl:Bs):aM Tryz.prog 24 [.ptr tid 0,.str key,.str vl] h (Did x T tid Rw C W (mj (aJ R) key vl) (ir key vl) h):=by
 have hrr:=g.Dd
 have hl:=R10.kZ key vl (aJ R) false
 refine (EO g.ts (g.lev ab) (by have:=g.pl;omega)).mono ?_
 rintro q h' (⟨s',R',m,c⟩|⟨a,b,e,f⟩)
 ·refine ⟨m.no,?_⟩
  rcases c with ⟨a,b,e,c⟩|⟨a,e,c,-⟩
  ·rw[(put_eq hrr a b).1,(put_eq hrr a b).2]
   exact ⟨0,e,.inl ⟨rfl,by decide,s',R',g.qE m (by rw[c];have:=De (k:=key) (v:=vl) hrr;have:=g.ll;omega),c⟩⟩
  ·rw[(vn (l:=aJ R) a).1,(vn (l:=aJ R) a).2]
   exact ⟨2,e,.inl ⟨rfl,by decide,s',R',g.qE m (by rw[c];exact Nat.le_succ_of_le g.ll),by rw[c]⟩⟩
 ·refine ⟨f.no,10,e,.inr ⟨rfl,(put_eq hrr a b).2,g.full f⟩⟩
theorem FR (g:gE x T tid s R Rw C W h) (hc:C≤120) (key:Bs):aM Tryz.prog 20 [.ptr tid 0,.str key] h (Did x T tid Rw C W (gA (aJ R) key) (iK (aJ R) key) h):=by
 refine (CV g.ts (g.lev ab) (by have:=g.pl;omega)).mono ?_
 rintro q h' (⟨s',R',m,c⟩|⟨a,e,f⟩)
 ·refine ⟨m.no,?_⟩
  rcases c with ⟨a,e,c⟩|⟨a,e,c,-⟩
  ·rw[(qC a).1,(qC a).2]
   exact ⟨0,e,.inl ⟨rfl,by decide,s',R',g.qE (m.more (Nat.le_succ _)) (by rw[c];have:=AP (l:=aJ R) (k:=key);have:=g.ll;omega),c⟩⟩
  ·rw[(yv a).1,(yv a).2]
   exact ⟨7,e,.inl ⟨rfl,by decide,s',R',g.qE (m.more (Nat.le_succ _)) (by rw[c];exact Nat.le_succ_of_le g.ll),by rw[c]⟩⟩
 ·refine ⟨f.no,10,e,.inr ⟨rfl,(qC a).2,g.full f⟩⟩
end
end Go.Proofs.YtbgmofhgfnmaiaaGreat.Tree
end
section
set_option maxRecDepth 100000
namespace Go.Proofs.YtbgmofhgfnmaiaaGreat.Tree
open Go Go.Av Go.Proofs Go.Proofs.YtbgmofhgfnmaiaaGreat.C Go.Proofs.YtbgmofhgfnmaiaaGreat.Page
open Go.Proofs.YtbgmofhgfnmaiaaGreat.Batch (Bs Pr prs aS)
open Go.Proofs.YtbgmofhgfnmaiaaGreat.R10 (mj ir gA iK jU xn tA)
structure FB where
 tid:Nat
 s:PgS
 R:Rt
 Rw:Rt
 W:Nat
 l:List Pr
 w:Nat
 e:Int
 h:H
def FI (x:PgI) (C:Nat) (b:FB):Prop:=(b.e=(b.w:Nat)∧b.e≠10∧gE x [] b.tid b.s b.R b.Rw (C+1) b.W b.h∧b.l=aJ b.R)∨(b.e=10∧b.w=0∧oQ x [] b.s b.Rw (C+1) b.W b.h)
set_option maxHeartbeats 8000000 in
theorem AQ (l:List Act) (k:Nat) (hf:lj l=true) (hk1:1≤k) (hk2:k≤40):bc Tryz.prog 4 [.sl 3 (tD l) .any,.int .i64 (k:Nat)] (.bool true):=by
 have hl60:=Df hf
 refine f4.dB af (by simp[aU,bq,cR,og]) rfl ?_
 unfold c4 zz
 have cf:=EP l ab
 rw[hf] at cf
 have hb:aM Tryz.prog 10 [.int .i64 (k:Nat)] ⟨aB,0,[],0⟩ fun q h'=>∃x t,q= .tup [.ptr t 0,.ptr x.P 0,.ptr x.D 0]∧Tid x t∧h'.objs t=some (trO x (-1))∧PgH x (pg0 k) [] h'∧aq ⟨aB,0,[],0⟩ h':=yA (k:=k) (fun _ _=>rfl) (fun t ht=>by cases ht) ab ab
 have clv:=yB
 have d0:decide ((0:Int)=0)=true:=by decide
 have dp1:decide ((k:Int)<1)=false:=decide_eq_false ab
 have dp2:decide ((40:Int)<(k:Int))=false:=decide_eq_false ab
 refine rf1 (cj3 @Bool.not_true dp1 dp2) cf ?_
 refine an.aY (vals:=[.int .i64 (k:Nat)]) ae xA4 hb fun q h0 ⟨x,tid,hq,tx,ot,g,_⟩ _ _=>?_
 subst hq
 have g0:gE x [] tid (pg0 k) none none 0 0 h0:=⟨⟨g,wS ab ab,ot,tx,trivial⟩,sj k,trivial,fun w hw=>(by cases hw),Nat.zero_le _,Nat.zero_le _,Nat.zero_le _,Nat.le_refl _⟩
 refine an.evF xAc ?_
 refine an.nil ?_
 refine rf0 @and_self ?_
 refine Wp.eV [0,6,7] xA7 (fun b:Nat × FB=>[(11,.int .i64 (b.1:Nat)),(5,.ptr b.2.tid 0),(8,.sl 2 (prs (aJ b.2.R)) .any),(9,.sl 2 (prs (aJ b.2.Rw)) .any),(10,.int .i64 (rpg b.2.Rw))]) (fun b=>b.2.h) (fun b=>b.1≤l.length∧gE x [] b.2.tid b.2.s b.2.R b.2.Rw b.1 b.2.W b.2.h) (fun b=>l.length - b.1) (0,⟨tid,pg0 k,none,none,0,[],0,0,h0⟩) ⟨Nat.zero_le _,g0⟩ rfl ?_ ?_
 ·simp only[ba,go_sem,reduceIte,Nat.reduceEqDiff,Nat.reduceAdd,bx];and_intros<;>first|exact trivial|exact ay.refl _|exact ay.any _|exact ay.cap|(refine ay.int ?_;omega)
 clear g0 ot g tx hb
 rintro ⟨j,⟨tid2,s,R,Rw,W,lx,wx,ex,hp⟩⟩ ⟨hj,g⟩
 have hj:j≤l.length:=hj
 have g:gE x [] tid2 s R Rw j W hp:=g
 by_cases hc:j<l.length
 ·obtain ⟨g1,h2,h3,e1⟩:=ixF (j:=j) (n:=l.length) ab ab
  have hat:=sg l j .any hc
  have hk:=Ez hf hc
  generalize l.getD j default=a at*
  unfold tC at hat
  refine Wp.seq ?_
  refine Wp.aR (xAd (cj2 @cP g1)) ?_
  refine an.nil ?_
  refine Wp.cond_true (by simp only[go_sem,reduceIte,Nat.reduceEqDiff,Nat.reduceAdd,bx,g1]) ?_
  refine Wp.skip ?_
  refine Wp.seq (Wp.block ?_)
  refine Wp.aR (xAd @and_self) ?_
  refine an.nil ?_
  refine Wp.aR (xAd @and_self) ?_
  refine an.nil ?_
  refine Wp.seq (Wp.ex (β:=FB) (fun b=>⟨tm [(0,.sl 3 (tD l) .any),(5,.ptr b.tid 0),(6,.ptr x.P 0),(7,.ptr x.D 0),(8,.sl 2 (prs b.l) .any),(9,.sl 2 (prs (aJ b.Rw)) .any),(10,.int .i64 (rpg b.Rw)),(11,.int .i64 (j:Nat)),(12,.int .i64 (b.w:Nat)),(13,.int .i64 b.e)],b.h⟩) (FI x j) ?_ ?_)
  ·by_cases k1:a.kd=1
   ·have d1:=decide_eq_true k1
    have hdp:=tA (aJ R) (by have:=g.ll;omega) a.k
    have hD:=FR g ab a.k
    refine rf1 (cj9 @cP g1 h2 h3 @and_self e1 @Int.toNat_natCast hat d1) hdp ?_
    refine an.aY (vals:=[.ptr tid2 0,.str a.k]) ae xA4 hD fun q h4 ⟨no4,e,hq,cs⟩ n4 _=>?_
    subst hq
    refine an.evF xAc ?_
    refine an.nil ?_
    rcases cs with ⟨he,hne,s',R',g',hR⟩|⟨he,hw,s',g'⟩
    ·refine ⟨⟨tid2,s',R',Rw,W,gA (aJ R) a.k,iK (aJ R) a.k,e,h4⟩,.inl ⟨he,hne,g',hR.symm⟩,aK.tm ?_⟩
     exact xSb
    ·refine ⟨⟨tid2,s',R,Rw,W,gA (aJ R) a.k,iK (aJ R) a.k,e,h4⟩,.inr ⟨he,hw,g'⟩,aK.tm ?_⟩
     exact xSb
   ·have d1:=decide_eq_false k1
    by_cases k2:a.kd=2
    ·have d2:=decide_eq_true k2
     have hfl:=Ed g.ts.pg g.ts.ok (by have:=g.pl;omega)
     have ltt:=g.ts.lt
     refine rf0 (mN @cP g1 h2 h3 @and_self e1 @Int.toNat_natCast hat d1 d2) ?_
     refine an.aY (vals:=[.ptr x.D 0]) ae xA4 hfl fun q h3' ⟨hq,g3,sm3,no3⟩ n3 _=>?_
     subst hq
     have ot3:=(cH sm3 ltt g.ts.tx).trans g.ts.ot
     have hs:=Cp g3 (g.ts.ok.kept)
     refine an.evF (xAd (cj2 d0 @Bool.not_true)) ?_
     refine an.aY (vals:=[.ptr x.P 0]) al xA4 hs fun q h4 ⟨hq,tu⟩ n4 _=>?_
     subst hq
     obtain ⟨-,⟨ws,g4,ok4⟩,sm4,no4,-⟩:=tu
     have ot4:=(cH sm4 ab g.ts.tx).trans ot3
     have lw:=g.settled rfl ok4 g4 ot4
     have hro:=C7 lw.ts
     refine an.evF (xAd (cj2 d0 @Bool.not_true)) ?_
     refine an.nil ?_
     refine rg1 @and_self hro ?_
     refine ⟨⟨tid2,_,R,R,j,aJ R,0,0,h4⟩,.inl ⟨rfl,(by show (0:Int)≠10;decide),lw,rfl⟩,aK.tm ?_⟩
     exact xSb
    ·have d2:=decide_eq_false k2
     have hsh:=(jx g.ts.rk).short
     have hdp:=xn (aJ R) (by have:=g.ll;omega) (fun p hp=>by have:=hsh p hp;unfold Batch.Ls;omega) a.k a.v (by unfold Batch.Ls;omega)
     have hD:=G7 g ab a.k a.v
     refine rf0 (mN @cP g1 h2 h3 @and_self e1 @Int.toNat_natCast hat d1 d2) ?_
     refine Wp.reg ?_
     refine ao.part 11 (xAd (cj8 @cP g1 h2 h3 @and_self e1 @Int.toNat_natCast hat)) ?_
     simp only[List.drop_succ_cons,List.drop_zero,List.drop_nil]
     refine ao.cd xA2 xAb (hdp) ?_
     refine ao.part 5 xA1 ?_
     simp only[List.drop_succ_cons,List.drop_zero,List.drop_nil]
     refine ao.nil ⟨by simp[bw,aV,apart,aT],?_⟩
     refine rf0 @and_self ?_
     refine Wp.reg ?_
     refine ao.part 11 (xAd (cj8 @cP g1 h2 h3 @and_self e1 @Int.toNat_natCast hat)) ?_
     simp only[List.drop_succ_cons,List.drop_zero,List.drop_nil]
     refine ao.aY (vals:=[.ptr tid2 0,.str a.k,.str a.v]) ae xA4 (fun j hj=>g.ts.pg.ltn hj) hD (fun r h' a=>a.1) fun q h4 ⟨no4,e,hq,cs⟩ n4 _=>?_
     subst hq
     refine ao.part 1 xA1 ?_
     simp only[List.drop_succ_cons,List.drop_zero,List.drop_nil]
     refine ao.nil ⟨by simp[bw,aV,apart,aT],?_⟩
     rcases cs with ⟨he,hne,s',R',g',hR⟩|⟨he,hw,s',g'⟩
     ·refine ⟨⟨tid2,s',R',Rw,W,mj (aJ R) a.k a.v,ir a.k a.v,e,h4⟩,.inl ⟨he,hne,g',hR.symm⟩,aK.tm ?_⟩
      exact xSb
     ·refine ⟨⟨tid2,s',R,Rw,W,mj (aJ R) a.k a.v,ir a.k a.v,e,h4⟩,.inr ⟨he,hw,g'⟩,aK.tm ?_⟩
      exact xSb
  ·rintro ⟨tid3,s3,R3,Rw3,W3,l3,w3,e3,h4⟩ s' hI le
   refine Wp.le le ?_
   clear le g hat hk
   rcases hI with ⟨he,hne,g,hl⟩|⟨he,hw,g⟩
   ·change e3=(w3:Int) at he
    change e3≠10 at hne
    change gE x [] tid3 s3 R3 Rw3 (j+1) W3 h4 at g
    change l3=aJ R3 at hl
    subst he hl
    have d1:=decide_eq_false hne
    have d2:decide ((w3:Int)=(w3:Int))=true:=decide_eq_true rfl
    have hch:=tz g.ts (g.lev ab) (by have:=g.pl;omega) (by have:=g.ll;omega)
    have dl:decide ((((aJ R3).length:Nat):Int)=(((aJ R3).length:Nat):Int))=true:=decide_eq_true rfl
    have hpl:=Batch.cz (aJ R3)
    refine rf0 (cj3 d1 d2 @Bool.not_true) ?_
    refine an.aY (vals:=[.ptr tid3 0]) ae xA4 hch fun q h5 ⟨bx,hq⟩ _ _=>?_
    subst hq
    have g5:=g.box bx
    refine an.evF xAc ?_
    refine an.nil ?_
    refine rf0 (cj5 hpl dl d0 @Bool.not_true e1) ?_
    refine ⟨(j+1,⟨tid3,s3,R3,Rw3,W3,[],0,0,h5⟩),⟨by simp only;omega,g5⟩,by simp only;omega,aK.tm ?_⟩
    exact xSb
   ·change e3=10 at he
    change w3=0 at hw
    change oQ x [] s3 Rw3 (j+1) W3 h4 at g
    subst he hw
    have d1:decide ((10:Int)=10)=true:=by decide
    have d2:decide (((0:Nat):Int)=0)=true:=by decide
    have hu:=FA g.pg g.ok
    refine rf0 (cj2 d1 d2) ?_
    refine an.aY (vals:=[.ptr x.P 0]) ae xA4 hu fun q h5 ⟨hq,tu⟩ n5 _=>?_
    subst hq
    obtain ⟨-,⟨ws,g5,ok5⟩,sm5,no5,-⟩:=tu
    have ho:=Cs g5 ok5 (FN Rw3) g.EA
    refine an.evF xAc ?_
    refine an.nil ?_
    refine rf0 @and_self ?_
    refine an.aY (vals:=[.ptr x.P 0,.int .i64 (rpg Rw3)]) ae xA4 ho fun q h6 ⟨t,hq,t1,t2,ot6,g6,k6,no6⟩ n6 _=>?_
    subst hq
    have lw:=g.FQ rfl ok5 g6 (ew g5 t1) ot6
    have hch:=tz lw.ts (lw.lev ab) (by have:=lw.pl;omega) (by have:=lw.ll;omega)
    have dl:decide ((((aJ Rw3).length:Nat):Int)=(((aJ Rw3).length:Nat):Int))=true:=decide_eq_true rfl
    have hpl:=Batch.cz (aJ Rw3)
    refine an.evF xAc ?_
    refine an.nil ?_
    refine rf0 (cj2 d0 @Bool.not_true) ?_
    refine an.aY (vals:=[.ptr t 0]) ae xA4 hch fun q h7 ⟨bx,hq⟩ _ _=>?_
    subst hq
    have g7:=lw.box bx
    refine an.evF xAc ?_
    refine an.nil ?_
    refine rf0 (cj5 hpl dl d0 @Bool.not_true e1) ?_
    refine ⟨(j+1,⟨t,_,Rw3,Rw3,W3,[],0,0,h7⟩),⟨by simp only;omega,g7⟩,by simp only;omega,aK.tm ?_⟩
    exact xSb
 ·obtain rfl:j=l.length:=by omega
  have g1:=ixE (l.length)
  have hs1:=C5 (key:=[]) (to:=[]) (most:= -1) g.ts (g.lev ab) (by have:=g.pl;omega) (by have:=g.ll;omega)
  rw[qD g.Dd] at hs1
  refine rf0 (cj2 @cP g1) ?_
  refine an.aY (vals:=[.ptr tid2 0,.str [],.str [],.int .i64 (-1)]) ae xA4 hs1 fun q h3 ⟨bx3,hq⟩ _ _=>?_
  subst hq
  have hll:=g.ll
  have c1:=jU (aJ R) (aJ R) ab ab
  rw[decide_eq_true rfl] at c1
  refine an.evF xAc ?_
  refine an.nil ?_
  refine rf2 d0 c1 clv ?_
  refine Wp.ret ⟨trivial,.bool true,?_,ay.refl _⟩
  simp only[go_sem]
  exact rfl
end Go.Proofs.YtbgmofhgfnmaiaaGreat.Tree
end
section
set_option maxRecDepth 100000
namespace Go.Proofs.YtbgmofhgfnmaiaaGreat.Tree
open Go Go.Av Go.Proofs Go.Proofs.YtbgmofhgfnmaiaaGreat.C Go.Proofs.YtbgmofhgfnmaiaaGreat.Page
open Go.Proofs.YtbgmofhgfnmaiaaGreat.Batch (Bs Pr prs aS)
def ES (a:Act):Prop:=(Lit.int .i64 a.kd).wf=true∧a.k.length≤reachBytes∧a.v.length≤reachBytes
theorem Dg {k:Nat} {cs:List AV} (h:Fits Tryz.prog (k+4) 36 cs):∃p:Act,fI Tryz.prog 36 cs=tC p∧ES p:=by
 have hw:∀cs,fI Tryz.prog 36 cs= .agg cs:=fun cs=>by
  unfold fI;rw[if_pos (by kernel_rfl)]
 rw[hw]
 unfold Fits at h
 rw[Tryz.underlying36] at h
 obtain ⟨xss,rfl,h⟩:=h
 cases h with|cons h0 h=>cases h with|cons h1 h=>cases h with|cons h2 h=>
 cases h
 unfold Fits at h0 h1 h2
 simp only at h0 h1 h2
 rw[Tryz.underlying3] at h0
 rw[Tryz.underlying9] at h1 h2
 obtain ⟨n,rfl,hn⟩:=h0
 obtain ⟨v,rfl,hv⟩:=h1
 obtain ⟨w,rfl,hw⟩:=h2
 exact ⟨⟨n,v,w⟩,rfl,hn,hv,hw⟩
theorem Dh {α:Type} {t:TypeId} {k:Nat} {enc:α→AV} {Q:α→Prop} (h1:∀cs,Fits Tryz.prog k t cs→∃x,fI Tryz.prog t cs=enc x∧Q x):∀{ys:List AV},(∀y∈ys,∃cs,Fits Tryz.prog k t cs∧y=fI Tryz.prog t cs)→∃l:List α,ys=l.map enc∧∀x∈l,Q x
 |[],_=>⟨[],rfl,by simp⟩
 |y::ys,h=>by
  obtain ⟨l,rfl,hl⟩:=Dh h1 (ys:=ys) (fun z hz=>h z (by simp[hz]))
  obtain ⟨cs,g1,g2⟩:=h y af
  obtain ⟨x,e,q⟩:=h1 cs g1
  refine ⟨x::l,by simp[g2,e],fun z hz=>?_⟩
  rcases List.mem_cons.1 hz with rfl|hz
  ·exact q
  ·exact hl z hz
theorem EB {n b:Nat} (hb:4≤b) (h:n*b≤reachBytes):n≤35184372088832:=by
 have:n*4≤n*b:=Nat.mul_le_mul_left n hb
 have e:reachBytes=140737488351232:=rfl
 omega
theorem AR {a:AV} (h:nh Tryz.prog 5 22 a):∃l:List Act,a= .sl 3 (l.map tC) .any∧l.length≤35184372088832∧∀p∈l,ES p:=by
 obtain ⟨cs,h,rfl⟩:=h
 unfold Fits at h
 rw[Tryz.underlying22] at h
 obtain ⟨xs,rfl,hlx,hx⟩:=h
 obtain ⟨l,rfl,hl⟩:=Dh (fun cs h=>Dg h) hx
 have c1:Tryz.prog.cellsOf 36=3:=by kernel_rfl
 have c2:Tryz.prog.bytesOf 36=40:=by kernel_rfl
 rw[List.length_map,c2] at hlx
 refine ⟨l,?_,EB ah hlx,hl⟩
 unfold fI;rw[if_neg (by rw[show cu Tryz.prog 22=false by kernel_rfl];simp),c1];rfl
theorem AS (l:List Act) (hl:l.length≤4611686018427387904) (p:Int) (h:lj l=true→p<1∨40<p):bc Tryz.prog 4 [.sl 3 (tD l) .any,.int .i64 p] (.bool true):=by
 refine f4.dB af (by simp[aU,bq,cR,og]) rfl ?_
 unfold c4 zz
 have cf:=EP l hl
 have clv:=yB
 by_cases hf:lj l=true
 ·rw[hf] at cf
  by_cases h1:p<1
  ·have d1:=decide_eq_true h1
   refine rf2 (cj2 @Bool.not_true d1) cf clv ?_
   refine Wp.ret ⟨trivial,.bool true,?_,ay.refl _⟩
   simp only[go_sem]
   exact rfl
  ·have d1:=decide_eq_false h1
   have d2:decide ((40:Int)<p)=true:=decide_eq_true (by have:=h hf;omega)
   refine rf2 (cj3 @Bool.not_true d1 d2) cf clv ?_
   refine Wp.ret ⟨trivial,.bool true,?_,ay.refl _⟩
   simp only[go_sem]
   exact rfl
 ·have hf:lj l=false:=by simpa using hf
  rw[hf] at cf
  refine rf2 @Bool.not_false cf clv ?_
  refine Wp.ret ⟨trivial,.bool true,?_,ay.refl _⟩
  simp only[go_sem]
  exact rfl
theorem tE {b:Nat} (avs:List AV) (h:uK (nh Tryz.prog 5) Tryz.f4.params.toList avs) (_:cY avs≤b):bc Tryz.prog 4 avs (.bool true):=by
 rw[Tryz.params4] at h
 cases h with|cons h0 h=>cases h with|cons h1 h=>
 cases h
 obtain ⟨l,rfl,hl,-⟩:=AR h0
 obtain ⟨p,rfl,-⟩:=Fu h1
 by_cases hf:lj l=true∧1≤p∧p≤40
 ·obtain ⟨a,b,c⟩:=hf
  obtain ⟨k,rfl⟩:∃k:Nat,p=(k:Nat):=⟨p.toNat,ab⟩
  exact AQ l k a ab ab
 ·refine AS l ab p fun a=>?_
  rcases Int.lt_or_le p 1 with c|c
  ·exact .inl c
  ·rcases Int.lt_or_le 40 p with d|d
   ·exact .inr d
   ·exact absurd ⟨a,c,d⟩ hf
end Go.Proofs.YtbgmofhgfnmaiaaGreat.Tree
end
section
namespace Go.Proofs.YtbgmofhgfnmaiaaGreat.Tree
open Go Go.Av Go.Proofs Go.Proofs.YtbgmofhgfnmaiaaGreat.C
open Go.ChangeShapes Go.WideShapes Go.ChangeAt Go.RowKit
set_option maxRecDepth 100000 in
theorem oS (os:Os) (started:os.Started) (H:Type) (enc:TypeId × Value→H):
  ReturnsInHanded {} Tryz.checked os 4 .any (Rows.treeFullSpec.pre6 enc Tryz.prog Tryz.f4 Rows.treeFullRow.domain false) (Rows.treeFullSpec.post enc Tryz.prog Tryz.f4 false true false false):=by
 refine returnsInHanded_of_change_sized (C:=Tryz.checked) own started (by kernel_rfl) Tryz.func4
  (ChangeSpec.witness6 (enc:=enc) (C:=Tryz.checked) false ⟨#[],#[.slice none 0 0,.int .i64 0],[]⟩ 8 (by kernel_rfl) (by kernel_rfl) (by kernel_rfl) (by kernel_rfl)) ?_
 intro W base args ds gs before hval hW _ hwt _
 exact Ag laid Hn GJ full rfl (fun l hl=>by match l,hl with|[_,_],_=>rfl) rfl Tryz.underlying4 (by kernel_rfl) (by kernel_rfl) hval hW hwt (fun avs h hb=>tE avs h hb)
theorem tF:(Rows.treeFullRow.inPlace == Tryz.pinned.checked.prog.inPlace 4)=true:=by kernel_rfl
theorem tG:(Rows.treeFullRow.unfollowed == Tryz.pinned.checked.prog.unfollowed 4)=true:=by kernel_rfl
theorem tH:(Rows.treeFullRow.recurses == Tryz.pinned.checked.prog.recurses 4)=true:=by kernel_rfl
theorem tI:(Rows.treeFullRow.named == Tryz.pinned.checked.prog.varsNamed 4)=true:=by kernel_rfl
theorem oT:joinedFacts Tryz.pinned.checked.prog 4 Tryz.f4 Rows.treeFullSpec Rows.treeFullRow=true:=by
 unfold joinedFacts
 rw[tF,tG,tH,tI]
 kernel_rfl
theorem qF:Tryz.pinned.checked.prog.funcNamed Rows.treeFullRow.func=some 4:=by kernel_rfl
theorem said_TreeFull:Rows.TreeFullSaid:=
 OpenClaim.holds_of_wide 4 Tryz.f4 rfl rfl rfl rfl rfl rfl rfl ⟨rfl,rfl,rfl,rfl,rfl⟩ rfl rfl rfl rfl rfl qF Tryz.func4 oT
  (of_decide_eq_true (by kernel_rfl)) (by unfold Func.isWrapper;first|(rw [if_pos (by decide+kernel)];kernel_rfl)|(rw [if_neg (by decide+kernel)];exact ⟨rfl,rfl⟩))
  (fun os started H enc _=>oS os started H enc)
#print axioms said_TreeFull
end Go.Proofs.YtbgmofhgfnmaiaaGreat.Tree
end
