/- TxnSerial: the statement 'TxnSerialSaid', closed by the law that the walk shows. No condition. -/
import Derived.Deep.CondSized
import Derived.IntWalk
import Derived.KernelRfl
import Derived.Laws.Append
import Derived.Laws.AppendOwn
import Derived.Laws.BytesArg
import Derived.Laws.Cover3
import Derived.Laws.Entries
import Derived.Laws.IdiomCopy
import Derived.Laws.IdiomStrings
import Derived.Laws.Pointers
import Derived.Laws.Small
import Derived.Laws.Strings
import Derived.Laws.StructEq
import Derived.MapKept
import Derived.OpenShut
import Derived.Orders
import Derived.OrdersIn
import Derived.ProofKit
import Derived.RangeFuncRecord
import Derived.RangeFuncSeq
import Derived.ReadAgain
import Derived.Scope
import Derived.Shelf.Slices.Cells
import Derived.Shelf.Slices.Delete
import Derived.Shelf.Spec.SlicesInsertGrow
import Derived.SizedLaws
import Derived.Test.YtpehfflehebmbaaGreatRows
import Derived.Test.YtpehfflehebmbaaGreatTSE
set_option linter.unusedSimpArgs false
set_option linter.unusedVariables false
section
set_option maxRecDepth 10000
namespace Go.Proofs.YtpehfflehebmbaaGreat.Txn
open Go Go.Av Go.Proofs Go.Proofs.YtpehfflehebmbaaGreat.C Go.Proofs.YtpehfflehebmbaaGreat.Batch Go.Proofs.YtpehfflehebmbaaGreat.Space Go.Proofs.YtpehfflehebmbaaGreat.Reads
set_option maxHeartbeats 4000000 in
theorem vn {s w k:Nat} {S:Spc} {FS:Fr} {xv:AV} {Y:Tx} (hS:cQ s S FS) (hI:Fit S k) (hR:Rt S) (c:Ac) (hk:c.kind=4) (hl:k+c.l.length+1≤400000):
  aL Tryz.prog 10 [.ptr w 0,dc c] [FS,ob w (wO s S xv Y)] fun r L=>r= .bool true∧∃FS',L=[FS',ob w (wO s (bO S (S.last+1) c.l).1 xv Y)]∧cQ s (bO S (S.last+1) c.l).1 FS':=by
 refine f10.bw (by simp) fun n m ok=>?_
 unfold c10
 simp only[C.zz]
 have hwn:=ok.lt (F:=ob w (wO s S xv Y)) (by simp) (j:=w) (o:=wO s S xv Y) (by simp[aY])
 have d1:decide (c.kind=1)=false:=decide_eq_false (by omega)
 have d2:decide (c.kind=2)=false:=decide_eq_false (by omega)
 have d3:decide (c.kind=3)=false:=decide_eq_false (by omega)
 have d4:decide (c.kind=4)=true:=decide_eq_true hk
 have hml:=hR.ml
 have hmn:=hR.mn
 have hmx:=hR.mx
 have hsm:=hI.small (show k≤500000 by omega)
 have hsn:s<n:=by obtain ⟨_,_,_,_,_,h,_⟩:=hS.go;exact ok.lt (by simp) h
 have w3:IntKind.i64.wrap (S.last+1)=S.last+1:=IntWalk.i64_in _ (by omega)
 have hap:=yM S hI.ri hsm hI.ls (S.last+1) c.l (by omega)
 have hag:=qD hS hI.ri (S.last+1) c.l (by omega) (hI.room (by omega))
 generalize hV:bO S (S.last+1) c.l=V at*
 unfold du at hap
 have okx:=ok
 have ok1:=ok.more (.cells [.int .i64 c.kind,.int .i64 c.n,.str c.a,.str c.b,.sl 3 (chs c.l) .any])
 have fa:=aH n (.cells [.int .i64 c.kind,.int .i64 c.n,.str c.a,.str c.b,.sl 3 (chs c.l) .any]) [FS,ob w (wO s S xv Y)]
 have fw:lay [ob n (.cells [.int .i64 c.kind,.int .i64 c.n,.str c.a,.str c.b,.sl 3 (chs c.l) .any]),FS,ob w (wO s S xv Y)] w=some (.cells [.ptr s 0,.sl 2 (S.L.map Space.encI) .any,.int .i64 S.last,.int .i64 S.mark,xv,.int .i64 Y.t,.sl 3 (chs Y.C) .any,.sl 1 (strs Y.rk) .any,.sl 2 (sps Y.rs) .any,.bool Y.ended]):=ok1.sub (F:=ob w (wO s S xv Y)) (by simp) w (wO s S xv Y) (by simp[aY])
 refine Wp.aA (by simp only[go_sem,reduceIte,Nat.reduceEqDiff,Nat.reduceAdd,bx,dc];exact rfl) (by trivial) ?_
 rw[bm]
 have hw1:(w=n)=False:=eq_false (by omega)
 have hw2:(n=w)=False:=eq_false (by omega)
 have hw3:(w=n+1)=False:=eq_false (by omega)
 have hw4:(n+1=w)=False:=eq_false (by omega)
 refine rn1 (cj7 fa fw d1 d2 d3 d4 w3) hap ?_
 refine aa.nil ⟨by simp[aw,aq,apart,aG,hw1,hw2,hw3,hw4],?_⟩
 rw[bm,bC]
 have ok2:=ok1.more (.cells [.sl 2 (V.1.L.map Space.encI) .any,.int .i64 V.1.last,.int .i64 V.1.mark])
 have f17:=aH (n+1) (.cells [.sl 2 (V.1.L.map Space.encI) .any,.int .i64 V.1.last,.int .i64 V.1.mark]) [ob n (.cells [.int .i64 c.kind,.int .i64 c.n,.str c.a,.str c.b,.sl 3 (chs c.l) .any]),FS,ob w (wO s S xv Y)]
 have fw2:lay [ob (n+1) (.cells [.sl 2 (V.1.L.map Space.encI) .any,.int .i64 V.1.last,.int .i64 V.1.mark]),ob n (.cells [.int .i64 c.kind,.int .i64 c.n,.str c.a,.str c.b,.sl 3 (chs c.l) .any]),FS,ob w (wO s S xv Y)] w=some (.cells [.ptr s 0,.sl 2 (S.L.map Space.encI) .any,.int .i64 S.last,.int .i64 S.mark,xv,.int .i64 Y.t,.sl 3 (chs Y.C) .any,.sl 1 (strs Y.rk) .any,.sl 2 (sps Y.rs) .any,.bool Y.ended]):=ok2.sub (F:=ob w (wO s S xv Y)) (by simp) w (wO s S xv Y) (by simp[aY])
 have e8:=Ok.bC (A:=[_,_,_]) (.cells [.ptr s 0,.sl 2 (V.1.L.map Space.encI) .any,.int .i64 V.1.last,.int .i64 V.1.mark,xv,.int .i64 Y.t,.sl 3 (chs Y.C) .any,.sl 1 (strs Y.rk) .any,.sl 2 (sps Y.rs) .any,.bool Y.ended]) ok2
 have on8:=On.dq (A:=[_,_,_]) (o':=(.cells [.ptr s 0,.sl 2 (V.1.L.map Space.encI) .any,.int .i64 V.1.last,.int .i64 V.1.mark,xv,.int .i64 Y.t,.sl 3 (chs Y.C) .any,.sl 1 (strs Y.rk) .any,.sl 2 (sps Y.rs) .any,.bool Y.ended])) ok2
 simp only[List.cons_append,List.nil_append] at e8 on8
 refine Wp.aA (by simp only[go_sem,reduceIte,Nat.reduceEqDiff,Nat.reduceAdd,bx,ax,if_true,if_false,Nat.reduceMul,Nat.reduceLeDiff,f17,fw2];exact rfl) (by trivial) ?_
 rw[e8]
 have ok3:=on8.ok
 have fw3:=ok3.sub (F:=ob w (.cells [.ptr s 0,.sl 2 (V.1.L.map Space.encI) .any,.int .i64 V.1.last,.int .i64 V.1.mark,xv,.int .i64 Y.t,.sl 3 (chs Y.C) .any,.sl 1 (strs Y.rk) .any,.sl 2 (sps Y.rs) .any,.bool Y.ended])) (by simp) w _ (by simp[aY];rfl)
 have fa3:=ok3.sub (F:=ob n (.cells [.int .i64 c.kind,.int .i64 c.n,.str c.a,.str c.b,.sl 3 (chs c.l) .any])) (by simp) n _ (by simp[aY];rfl)
 have ok:=ok3
 refine xL0 (cj3 fa3 fw3 w3) (tP hS) ?_
 intro ids
 refine aa.bY [_,_] [FS] [_] (by simp only[go_sem,bx]) xA4 hag ok3 fun r G' n' T' m' ids hq on hids=>?_
 obtain ⟨rfl,FS',rfl,hres⟩:=hq
 simp only[List.cons_append,List.nil_append,List.append_nil] at on ⊢
 have dz:decide (V.2=V.2)=true:=decide_eq_true rfl
 refine aa.evR (by simp only[go_sem,reduceIte,Nat.reduceEqDiff,Nat.reduceAdd,bx,dz];exact rfl) ?_
 refine aa.nil ⟨by simp[aw,aq,apart,aG],?_⟩
 refine dp ?_
 have onA:=((((On.refl ok2).grown.grown).step on8).step on).cI.cI
 exact Wp.ret ⟨trivial,_,rfl,_,_,On.jk onA (ey on.ok (fun G hG=>List.mem_cons_of_mem _ (List.mem_cons_of_mem _ hG))) (ab.refl _) ⟨rfl,_,rfl,hres⟩⟩
set_option maxHeartbeats 4000000 in
theorem vo {s w k:Nat} {S:Spc} {FS:Fr} {xv:AV} {Y:Tx} (hS:cQ s S FS) (hI:Fit S k) (hR:Rt S) (c:Ac) (hk:c.kind=5) (hl:k+1≤400000):
  aL Tryz.prog 10 [.ptr w 0,dc c] [FS,ob w (wO s S xv Y)] fun r L=>r= .bool true∧∃FS',L=[FS',ob w (wO s (bD S c.n).1 xv Y)]∧cQ s (bD S c.n).1 FS':=by
 refine f10.bw (by simp) fun n m ok=>?_
 unfold c10
 simp only[C.zz]
 have hwn:=ok.lt (F:=ob w (wO s S xv Y)) (by simp) (j:=w) (o:=wO s S xv Y) (by simp[aY])
 have d1:decide (c.kind=1)=false:=decide_eq_false (by omega)
 have d2:decide (c.kind=2)=false:=decide_eq_false (by omega)
 have d3:decide (c.kind=3)=false:=decide_eq_false (by omega)
 have d4:decide (c.kind=4)=false:=decide_eq_false (by omega)
 have d5:decide (c.kind=5)=true:=decide_eq_true hk
 have hml:=hR.ml
 have hmn:=hR.mn
 have hmx:=hR.mx
 have hsm:=hI.small (show k≤500000 by omega)
 have hsn:s<n:=by obtain ⟨_,_,_,_,_,h,_⟩:=hS.go;exact ok.lt (by simp) h
 have hap:=AK S hI.ri hsm c.n
 have hag:=yD hS hI.ri hsm c.n
 generalize hV:bD S c.n=V at*
 unfold du at hap
 have okx:=ok
 have ok1:=ok.more (.cells [.int .i64 c.kind,.int .i64 c.n,.str c.a,.str c.b,.sl 3 (chs c.l) .any])
 have fa:=aH n (.cells [.int .i64 c.kind,.int .i64 c.n,.str c.a,.str c.b,.sl 3 (chs c.l) .any]) [FS,ob w (wO s S xv Y)]
 have fw:lay [ob n (.cells [.int .i64 c.kind,.int .i64 c.n,.str c.a,.str c.b,.sl 3 (chs c.l) .any]),FS,ob w (wO s S xv Y)] w=some (.cells [.ptr s 0,.sl 2 (S.L.map Space.encI) .any,.int .i64 S.last,.int .i64 S.mark,xv,.int .i64 Y.t,.sl 3 (chs Y.C) .any,.sl 1 (strs Y.rk) .any,.sl 2 (sps Y.rs) .any,.bool Y.ended]):=ok1.sub (F:=ob w (wO s S xv Y)) (by simp) w (wO s S xv Y) (by simp[aY])
 refine Wp.aA (by simp only[go_sem,reduceIte,Nat.reduceEqDiff,Nat.reduceAdd,bx,dc];exact rfl) (by trivial) ?_
 rw[bm]
 have hw1:(w=n)=False:=eq_false (by omega)
 have hw2:(n=w)=False:=eq_false (by omega)
 have hw3:(w=n+1)=False:=eq_false (by omega)
 have hw4:(n+1=w)=False:=eq_false (by omega)
 refine rn1 (cj7 fa fw d1 d2 d3 d4 d5) hap ?_
 refine aa.nil ⟨by simp[aw,aq,apart,aG,hw1,hw2,hw3,hw4],?_⟩
 rw[bm,bC]
 have ok2:=ok1.more (.cells [.sl 2 (V.1.L.map Space.encI) .any,.int .i64 V.1.last,.int .i64 V.1.mark])
 have f17:=aH (n+1) (.cells [.sl 2 (V.1.L.map Space.encI) .any,.int .i64 V.1.last,.int .i64 V.1.mark]) [ob n (.cells [.int .i64 c.kind,.int .i64 c.n,.str c.a,.str c.b,.sl 3 (chs c.l) .any]),FS,ob w (wO s S xv Y)]
 have fw2:lay [ob (n+1) (.cells [.sl 2 (V.1.L.map Space.encI) .any,.int .i64 V.1.last,.int .i64 V.1.mark]),ob n (.cells [.int .i64 c.kind,.int .i64 c.n,.str c.a,.str c.b,.sl 3 (chs c.l) .any]),FS,ob w (wO s S xv Y)] w=some (.cells [.ptr s 0,.sl 2 (S.L.map Space.encI) .any,.int .i64 S.last,.int .i64 S.mark,xv,.int .i64 Y.t,.sl 3 (chs Y.C) .any,.sl 1 (strs Y.rk) .any,.sl 2 (sps Y.rs) .any,.bool Y.ended]):=ok2.sub (F:=ob w (wO s S xv Y)) (by simp) w (wO s S xv Y) (by simp[aY])
 have e8:=Ok.bC (A:=[_,_,_]) (.cells [.ptr s 0,.sl 2 (V.1.L.map Space.encI) .any,.int .i64 V.1.last,.int .i64 V.1.mark,xv,.int .i64 Y.t,.sl 3 (chs Y.C) .any,.sl 1 (strs Y.rk) .any,.sl 2 (sps Y.rs) .any,.bool Y.ended]) ok2
 have on8:=On.dq (A:=[_,_,_]) (o':=(.cells [.ptr s 0,.sl 2 (V.1.L.map Space.encI) .any,.int .i64 V.1.last,.int .i64 V.1.mark,xv,.int .i64 Y.t,.sl 3 (chs Y.C) .any,.sl 1 (strs Y.rk) .any,.sl 2 (sps Y.rs) .any,.bool Y.ended])) ok2
 simp only[List.cons_append,List.nil_append] at e8 on8
 refine Wp.aA (by simp only[go_sem,reduceIte,Nat.reduceEqDiff,Nat.reduceAdd,bx,ax,if_true,if_false,Nat.reduceMul,Nat.reduceLeDiff,f17,fw2];exact rfl) (by trivial) ?_
 rw[e8]
 have ok3:=on8.ok
 have fw3:=ok3.sub (F:=ob w (.cells [.ptr s 0,.sl 2 (V.1.L.map Space.encI) .any,.int .i64 V.1.last,.int .i64 V.1.mark,xv,.int .i64 Y.t,.sl 3 (chs Y.C) .any,.sl 1 (strs Y.rk) .any,.sl 2 (sps Y.rs) .any,.bool Y.ended])) (by simp) w _ (by simp[aY];rfl)
 have fa3:=ok3.sub (F:=ob n (.cells [.int .i64 c.kind,.int .i64 c.n,.str c.a,.str c.b,.sl 3 (chs c.l) .any])) (by simp) n _ (by simp[aY];rfl)
 have ok:=ok3
 refine rn0 (cj2 fa3 fw3) ?_
 refine aa.bY [_,_] [FS] [_] (by simp only[go_sem,bx]) xA4 hag ok3 fun r G' n' T' m' ids hq on hids=>?_
 obtain ⟨rfl,FS',rfl,hres⟩:=hq
 simp only[List.cons_append,List.nil_append,List.append_nil] at on ⊢
 have dz:decide (V.2=V.2)=true:=decide_eq_true rfl
 refine aa.evR (by simp only[go_sem,reduceIte,Nat.reduceEqDiff,Nat.reduceAdd,bx,dz];exact rfl) ?_
 refine aa.nil ⟨by simp[aw,aq,apart,aG],?_⟩
 refine dp ?_
 have onA:=((((On.refl ok2).grown.grown).step on8).step on).cI.cI
 exact Wp.ret ⟨trivial,_,rfl,_,_,On.jk onA (ey on.ok (fun G hG=>List.mem_cons_of_mem _ (List.mem_cons_of_mem _ hG))) (ab.refl _) ⟨rfl,_,rfl,hres⟩⟩
set_option maxHeartbeats 4000000 in
theorem Bg {s w x k:Nat} {S:Spc} {F FS:Fr} {Y:Tx} (hF:TxF x s Y F) (hS:cQ s S FS) (hI:Inv k S Y) (c:Ac) (hk:c.kind=1) (hl:k+1≤400000) (la:Ls c.a):
  aL Tryz.prog 10 [.ptr w 0,dc c] [F,FS,ob w (wO s S (.ptr x 0) Y)] fun r L=>r= .bool true∧∃F',L=[F',FS,ob w (wO s S (.ptr x 0) (ew Y ⟨c.a,[],true⟩).1)]∧TxF x s (ew Y ⟨c.a,[],true⟩).1 F':=by
 refine f10.bw (by simp) fun n m ok=>?_
 unfold c10
 simp only[C.zz]
 have hwn:=ok.lt (F:=ob w (wO s S (.ptr x 0) Y)) (by simp) (j:=w) (o:=wO s S (.ptr x 0) Y) (by simp[aY])
 have d1:decide (c.kind=1)=true:=decide_eq_true hk
 have hsm:=hI.fit.small (show k≤500000 by omega)
 have hsn:s<n:=by obtain ⟨_,_,_,_,_,h,_⟩:=hS.go;exact ok.lt (by simp) h
 have hxn:x<n:=by obtain ⟨_,_,_,_,_,h,_⟩:=hF.go;exact ok.lt (by simp) h
 have hap:=mj Y hI.rC hI.lC hI.lsC ⟨c.a,[],true⟩ la (fun _=>rfl)
 have hag:=yZ hF hI.rC hI.lC c.a
 generalize hV:ew Y ⟨c.a,[],true⟩=V at*
 unfold fS aP at hap
 have okx:=ok
 have ok1:=ok.more (.cells [.int .i64 c.kind,.int .i64 c.n,.str c.a,.str c.b,.sl 3 (chs c.l) .any])
 have fa:=aH n (.cells [.int .i64 c.kind,.int .i64 c.n,.str c.a,.str c.b,.sl 3 (chs c.l) .any]) [F,FS,ob w (wO s S (.ptr x 0) Y)]
 have fw:lay [ob n (.cells [.int .i64 c.kind,.int .i64 c.n,.str c.a,.str c.b,.sl 3 (chs c.l) .any]),F,FS,ob w (wO s S (.ptr x 0) Y)] w=some (.cells [.ptr s 0,.sl 2 (S.L.map Space.encI) .any,.int .i64 S.last,.int .i64 S.mark,(.ptr x 0),.int .i64 Y.t,.sl 3 (chs Y.C) .any,.sl 1 (strs Y.rk) .any,.sl 2 (sps Y.rs) .any,.bool Y.ended]):=ok1.sub (F:=ob w (wO s S (.ptr x 0) Y)) (by simp) w (wO s S (.ptr x 0) Y) (by simp[aY])
 refine Wp.aA (by simp only[go_sem,reduceIte,Nat.reduceEqDiff,Nat.reduceAdd,bx,dc];exact rfl) (by trivial) ?_
 rw[bm]
 have hw1:(w=n)=False:=eq_false (by omega)
 have hw2:(n=w)=False:=eq_false (by omega)
 have hw3:(w=n+1)=False:=eq_false (by omega)
 have hw4:(n+1=w)=False:=eq_false (by omega)
 refine rn1 (cj3 fa fw d1) hap ?_
 refine aa.nil ⟨by simp[aw,aq,apart,aG,hw1,hw2,hw3,hw4],?_⟩
 rw[bm,bC]
 have ok2:=ok1.more (.cells [.int .i64 V.1.t,.sl 3 (chs V.1.C) .any,.sl 1 (strs V.1.rk) .any,.sl 2 (sps V.1.rs) .any,.bool V.1.ended])
 have f17:=aH (n+1) (.cells [.int .i64 V.1.t,.sl 3 (chs V.1.C) .any,.sl 1 (strs V.1.rk) .any,.sl 2 (sps V.1.rs) .any,.bool V.1.ended]) [ob n (.cells [.int .i64 c.kind,.int .i64 c.n,.str c.a,.str c.b,.sl 3 (chs c.l) .any]),F,FS,ob w (wO s S (.ptr x 0) Y)]
 have fw2:lay [ob (n+1) (.cells [.int .i64 V.1.t,.sl 3 (chs V.1.C) .any,.sl 1 (strs V.1.rk) .any,.sl 2 (sps V.1.rs) .any,.bool V.1.ended]),ob n (.cells [.int .i64 c.kind,.int .i64 c.n,.str c.a,.str c.b,.sl 3 (chs c.l) .any]),F,FS,ob w (wO s S (.ptr x 0) Y)] w=some (.cells [.ptr s 0,.sl 2 (S.L.map Space.encI) .any,.int .i64 S.last,.int .i64 S.mark,(.ptr x 0),.int .i64 Y.t,.sl 3 (chs Y.C) .any,.sl 1 (strs Y.rk) .any,.sl 2 (sps Y.rs) .any,.bool Y.ended]):=ok2.sub (F:=ob w (wO s S (.ptr x 0) Y)) (by simp) w (wO s S (.ptr x 0) Y) (by simp[aY])
 have e8:=Ok.bC (A:=[_,_,_,_]) (.cells [.ptr s 0,.sl 2 (S.L.map Space.encI) .any,.int .i64 S.last,.int .i64 S.mark,(.ptr x 0),.int .i64 V.1.t,.sl 3 (chs V.1.C) .any,.sl 1 (strs V.1.rk) .any,.sl 2 (sps V.1.rs) .any,.bool V.1.ended]) ok2
 have on8:=On.dq (A:=[_,_,_,_]) (o':=(.cells [.ptr s 0,.sl 2 (S.L.map Space.encI) .any,.int .i64 S.last,.int .i64 S.mark,(.ptr x 0),.int .i64 V.1.t,.sl 3 (chs V.1.C) .any,.sl 1 (strs V.1.rk) .any,.sl 2 (sps V.1.rs) .any,.bool V.1.ended])) ok2
 simp only[List.cons_append,List.nil_append] at e8 on8
 refine Wp.aA (by simp only[go_sem,reduceIte,Nat.reduceEqDiff,Nat.reduceAdd,bx,ax,if_true,if_false,Nat.reduceMul,Nat.reduceLeDiff,f17,fw2];exact rfl) (by trivial) ?_
 rw[e8]
 have ok3:=on8.ok
 have fw3:=ok3.sub (F:=ob w (.cells [.ptr s 0,.sl 2 (S.L.map Space.encI) .any,.int .i64 S.last,.int .i64 S.mark,(.ptr x 0),.int .i64 V.1.t,.sl 3 (chs V.1.C) .any,.sl 1 (strs V.1.rk) .any,.sl 2 (sps V.1.rs) .any,.bool V.1.ended])) (by simp) w _ (by simp[aY];rfl)
 have fa3:=ok3.sub (F:=ob n (.cells [.int .i64 c.kind,.int .i64 c.n,.str c.a,.str c.b,.sl 3 (chs c.l) .any])) (by simp) n _ (by simp[aY];rfl)
 have ok:=ok3
 refine rn0 (cj2 fa3 fw3) ?_
 refine aa.bY [_,_] [F] [_,_] (by simp only[go_sem,bx]) xA4 hag ok3 fun r G' n' T' m' ids hq on hids=>?_
 obtain ⟨rfl,F',rfl,hres⟩:=hq
 simp only[List.cons_append,List.nil_append,List.append_nil] at on ⊢
 have dz:decide (V.2=V.2)=true:=decide_eq_true rfl
 refine aa.evR (by simp only[go_sem,reduceIte,Nat.reduceEqDiff,Nat.reduceAdd,bx,dz];exact rfl) ?_
 refine aa.nil ⟨by simp[aw,aq,apart,aG],?_⟩
 refine dp ?_
 have onA:=((((On.refl ok2).grown.grown).step on8).step on).cI.cI
 exact Wp.ret ⟨trivial,_,rfl,_,_,On.jk onA (ey on.ok (fun G hG=>List.mem_cons_of_mem _ (List.mem_cons_of_mem _ hG))) (ab.refl _) ⟨rfl,_,rfl,hres⟩⟩
set_option maxHeartbeats 4000000 in
theorem Bh {s w x k:Nat} {S:Spc} {F FS:Fr} {Y:Tx} (hF:TxF x s Y F) (hS:cQ s S FS) (hI:Inv k S Y) (c:Ac) (hk:c.kind=2) (hl:k+1≤400000) (la:Ls c.a):
  aL Tryz.prog 10 [.ptr w 0,dc c] [F,FS,ob w (wO s S (.ptr x 0) Y)] fun r L=>r= .bool true∧∃F',L=[F',FS,ob w (wO s S (.ptr x 0) (dT S Y c.a).1)]∧TxF x s (dT S Y c.a).1 F':=by
 refine f10.bw (by simp) fun n m ok=>?_
 unfold c10
 simp only[C.zz]
 have hwn:=ok.lt (F:=ob w (wO s S (.ptr x 0) Y)) (by simp) (j:=w) (o:=wO s S (.ptr x 0) Y) (by simp[aY])
 have d1:decide (c.kind=1)=false:=decide_eq_false (by omega)
 have d2:decide (c.kind=2)=true:=decide_eq_true hk
 have hsm:=hI.fit.small (show k≤500000 by omega)
 have hsn:s<n:=by obtain ⟨_,_,_,_,_,h,_⟩:=hS.go;exact ok.lt (by simp) h
 have hxn:x<n:=by obtain ⟨_,_,_,_,_,h,_⟩:=hF.go;exact ok.lt (by simp) h
 have hap:=y8 S Y hsm.wide (by have:=hI.lC;omega) hI.lk hI.ls hI.tl c.a la
 have hag:=uV hF hS hsm.wide c.a
 generalize hV:dT S Y c.a=V at*
 unfold fS du at hap
 have okx:=ok
 have ok1:=ok.more (.cells [.int .i64 c.kind,.int .i64 c.n,.str c.a,.str c.b,.sl 3 (chs c.l) .any])
 have fa:=aH n (.cells [.int .i64 c.kind,.int .i64 c.n,.str c.a,.str c.b,.sl 3 (chs c.l) .any]) [F,FS,ob w (wO s S (.ptr x 0) Y)]
 have fw:lay [ob n (.cells [.int .i64 c.kind,.int .i64 c.n,.str c.a,.str c.b,.sl 3 (chs c.l) .any]),F,FS,ob w (wO s S (.ptr x 0) Y)] w=some (.cells [.ptr s 0,.sl 2 (S.L.map Space.encI) .any,.int .i64 S.last,.int .i64 S.mark,(.ptr x 0),.int .i64 Y.t,.sl 3 (chs Y.C) .any,.sl 1 (strs Y.rk) .any,.sl 2 (sps Y.rs) .any,.bool Y.ended]):=ok1.sub (F:=ob w (wO s S (.ptr x 0) Y)) (by simp) w (wO s S (.ptr x 0) Y) (by simp[aY])
 refine Wp.aA (by simp only[go_sem,reduceIte,Nat.reduceEqDiff,Nat.reduceAdd,bx,dc];exact rfl) (by trivial) ?_
 rw[bm]
 have hw1:(w=n)=False:=eq_false (by omega)
 have hw2:(n=w)=False:=eq_false (by omega)
 have hw3:(w=n+1)=False:=eq_false (by omega)
 have hw4:(n+1=w)=False:=eq_false (by omega)
 refine rn1 (cj4 fa fw d1 d2) hap ?_
 refine aa.nil ⟨by simp[aw,aq,apart,aG,hw1,hw2,hw3,hw4],?_⟩
 rw[bm,bC]
 have ok2:=ok1.more (.cells [.int .i64 V.1.t,.sl 3 (chs V.1.C) .any,.sl 1 (strs V.1.rk) .any,.sl 2 (sps V.1.rs) .any,.bool V.1.ended])
 have f17:=aH (n+1) (.cells [.int .i64 V.1.t,.sl 3 (chs V.1.C) .any,.sl 1 (strs V.1.rk) .any,.sl 2 (sps V.1.rs) .any,.bool V.1.ended]) [ob n (.cells [.int .i64 c.kind,.int .i64 c.n,.str c.a,.str c.b,.sl 3 (chs c.l) .any]),F,FS,ob w (wO s S (.ptr x 0) Y)]
 have fw2:lay [ob (n+1) (.cells [.int .i64 V.1.t,.sl 3 (chs V.1.C) .any,.sl 1 (strs V.1.rk) .any,.sl 2 (sps V.1.rs) .any,.bool V.1.ended]),ob n (.cells [.int .i64 c.kind,.int .i64 c.n,.str c.a,.str c.b,.sl 3 (chs c.l) .any]),F,FS,ob w (wO s S (.ptr x 0) Y)] w=some (.cells [.ptr s 0,.sl 2 (S.L.map Space.encI) .any,.int .i64 S.last,.int .i64 S.mark,(.ptr x 0),.int .i64 Y.t,.sl 3 (chs Y.C) .any,.sl 1 (strs Y.rk) .any,.sl 2 (sps Y.rs) .any,.bool Y.ended]):=ok2.sub (F:=ob w (wO s S (.ptr x 0) Y)) (by simp) w (wO s S (.ptr x 0) Y) (by simp[aY])
 have e8:=Ok.bC (A:=[_,_,_,_]) (.cells [.ptr s 0,.sl 2 (S.L.map Space.encI) .any,.int .i64 S.last,.int .i64 S.mark,(.ptr x 0),.int .i64 V.1.t,.sl 3 (chs V.1.C) .any,.sl 1 (strs V.1.rk) .any,.sl 2 (sps V.1.rs) .any,.bool V.1.ended]) ok2
 have on8:=On.dq (A:=[_,_,_,_]) (o':=(.cells [.ptr s 0,.sl 2 (S.L.map Space.encI) .any,.int .i64 S.last,.int .i64 S.mark,(.ptr x 0),.int .i64 V.1.t,.sl 3 (chs V.1.C) .any,.sl 1 (strs V.1.rk) .any,.sl 2 (sps V.1.rs) .any,.bool V.1.ended])) ok2
 simp only[List.cons_append,List.nil_append] at e8 on8
 refine Wp.aA (by simp only[go_sem,reduceIte,Nat.reduceEqDiff,Nat.reduceAdd,bx,ax,if_true,if_false,Nat.reduceMul,Nat.reduceLeDiff,f17,fw2];exact rfl) (by trivial) ?_
 rw[e8]
 have ok3:=on8.ok
 have fw3:=ok3.sub (F:=ob w (.cells [.ptr s 0,.sl 2 (S.L.map Space.encI) .any,.int .i64 S.last,.int .i64 S.mark,(.ptr x 0),.int .i64 V.1.t,.sl 3 (chs V.1.C) .any,.sl 1 (strs V.1.rk) .any,.sl 2 (sps V.1.rs) .any,.bool V.1.ended])) (by simp) w _ (by simp[aY];rfl)
 have fa3:=ok3.sub (F:=ob n (.cells [.int .i64 c.kind,.int .i64 c.n,.str c.a,.str c.b,.sl 3 (chs c.l) .any])) (by simp) n _ (by simp[aY];rfl)
 have ok:=ok3
 refine rn0 (cj2 fa3 fw3) ?_
 refine aa.bY [_,_] [F,FS] [_] (by simp only[go_sem,bx]) xA4 hag ok3 fun r G' n' T' m' ids hq on hids=>?_
 obtain ⟨rfl,F',rfl,hres⟩:=hq
 simp only[List.cons_append,List.nil_append,List.append_nil] at on ⊢
 have dz:decide (V.2.1=V.2.1)=true:=decide_eq_true rfl
 have dy:decide (V.2.2=V.2.2)=true:=decide_eq_true rfl
 refine aa.evR (by simp only[go_sem,reduceIte,Nat.reduceEqDiff,Nat.reduceAdd,bx,dz,dy];exact rfl) ?_
 refine aa.nil ⟨by simp[aw,aq,apart,aG],?_⟩
 refine rn0 (cj2 dz dy) ?_
 have onA:=((((On.refl ok2).grown.grown).step on8).step on).cI.cI
 exact Wp.ret ⟨trivial,_,rfl,_,_,On.jk onA (ey on.ok (fun G hG=>List.mem_cons_of_mem _ (List.mem_cons_of_mem _ hG))) (ab.refl _) ⟨rfl,_,rfl,hres⟩⟩
set_option maxHeartbeats 4000000 in
theorem Bi {s w x k:Nat} {S:Spc} {F FS:Fr} {Y:Tx} (hF:TxF x s Y F) (hS:cQ s S FS) (hI:Inv k S Y) (c:Ac) (hk:c.kind=3) (hl:k+1≤400000) (la:Ls c.a) (lb:Ls c.b):
  aL Tryz.prog 10 [.ptr w 0,dc c] [F,FS,ob w (wO s S (.ptr x 0) Y)] fun r L=>r= .bool true∧∃F',L=[F',FS,ob w (wO s S (.ptr x 0) (cq S Y c.a c.b c.n).1)]∧TxF x s (cq S Y c.a c.b c.n).1 F':=by
 refine f10.bw (by simp) fun n m ok=>?_
 unfold c10
 simp only[C.zz]
 have hwn:=ok.lt (F:=ob w (wO s S (.ptr x 0) Y)) (by simp) (j:=w) (o:=wO s S (.ptr x 0) Y) (by simp[aY])
 have d1:decide (c.kind=1)=false:=decide_eq_false (by omega)
 have d2:decide (c.kind=2)=false:=decide_eq_false (by omega)
 have d3:decide (c.kind=3)=true:=decide_eq_true hk
 have hsm:=hI.fit.small (show k≤500000 by omega)
 have hsn:s<n:=by obtain ⟨_,_,_,_,_,h,_⟩:=hS.go;exact ok.lt (by simp) h
 have hxn:x<n:=by obtain ⟨_,_,_,_,_,h,_⟩:=hF.go;exact ok.lt (by simp) h
 have hap:=w6 S Y hI.fit.ri hsm (fun p hp=>by have:=(hI.rt.it p hp).1;omega) hI.rC hI.lC hI.kC hI.lk hI.ls hI.tl c.a c.b la lb c.n
 have hag:=lI hF hS hI.fit.ri hsm (fun p hp=>by have:=(hI.rt.it p hp).1;omega) hI.rC hI.lC (fun q hq=>by have:=jP (hI.kC q hq);omega) c.a c.b c.n
 have hln:=qa hI hsm c.a c.b c.n
 generalize hV:cq S Y c.a c.b c.n=V at*
 have hsa:=oL V.2.1 V.2.1 hln
 unfold fS du at hap
 have okx:=ok
 have ok1:=ok.more (.cells [.int .i64 c.kind,.int .i64 c.n,.str c.a,.str c.b,.sl 3 (chs c.l) .any])
 have fa:=aH n (.cells [.int .i64 c.kind,.int .i64 c.n,.str c.a,.str c.b,.sl 3 (chs c.l) .any]) [F,FS,ob w (wO s S (.ptr x 0) Y)]
 have fw:lay [ob n (.cells [.int .i64 c.kind,.int .i64 c.n,.str c.a,.str c.b,.sl 3 (chs c.l) .any]),F,FS,ob w (wO s S (.ptr x 0) Y)] w=some (.cells [.ptr s 0,.sl 2 (S.L.map Space.encI) .any,.int .i64 S.last,.int .i64 S.mark,(.ptr x 0),.int .i64 Y.t,.sl 3 (chs Y.C) .any,.sl 1 (strs Y.rk) .any,.sl 2 (sps Y.rs) .any,.bool Y.ended]):=ok1.sub (F:=ob w (wO s S (.ptr x 0) Y)) (by simp) w (wO s S (.ptr x 0) Y) (by simp[aY])
 refine Wp.aA (by simp only[go_sem,reduceIte,Nat.reduceEqDiff,Nat.reduceAdd,bx,dc];exact rfl) (by trivial) ?_
 rw[bm]
 have hw1:(w=n)=False:=eq_false (by omega)
 have hw2:(n=w)=False:=eq_false (by omega)
 have hw3:(w=n+1)=False:=eq_false (by omega)
 have hw4:(n+1=w)=False:=eq_false (by omega)
 refine rn1 (cj5 fa fw d1 d2 d3) hap ?_
 refine aa.nil ⟨by simp[aw,aq,apart,aG,hw1,hw2,hw3,hw4],?_⟩
 rw[bm,bC]
 have ok2:=ok1.more (.cells [.int .i64 V.1.t,.sl 3 (chs V.1.C) .any,.sl 1 (strs V.1.rk) .any,.sl 2 (sps V.1.rs) .any,.bool V.1.ended])
 have f17:=aH (n+1) (.cells [.int .i64 V.1.t,.sl 3 (chs V.1.C) .any,.sl 1 (strs V.1.rk) .any,.sl 2 (sps V.1.rs) .any,.bool V.1.ended]) [ob n (.cells [.int .i64 c.kind,.int .i64 c.n,.str c.a,.str c.b,.sl 3 (chs c.l) .any]),F,FS,ob w (wO s S (.ptr x 0) Y)]
 have fw2:lay [ob (n+1) (.cells [.int .i64 V.1.t,.sl 3 (chs V.1.C) .any,.sl 1 (strs V.1.rk) .any,.sl 2 (sps V.1.rs) .any,.bool V.1.ended]),ob n (.cells [.int .i64 c.kind,.int .i64 c.n,.str c.a,.str c.b,.sl 3 (chs c.l) .any]),F,FS,ob w (wO s S (.ptr x 0) Y)] w=some (.cells [.ptr s 0,.sl 2 (S.L.map Space.encI) .any,.int .i64 S.last,.int .i64 S.mark,(.ptr x 0),.int .i64 Y.t,.sl 3 (chs Y.C) .any,.sl 1 (strs Y.rk) .any,.sl 2 (sps Y.rs) .any,.bool Y.ended]):=ok2.sub (F:=ob w (wO s S (.ptr x 0) Y)) (by simp) w (wO s S (.ptr x 0) Y) (by simp[aY])
 have e8:=Ok.bC (A:=[_,_,_,_]) (.cells [.ptr s 0,.sl 2 (S.L.map Space.encI) .any,.int .i64 S.last,.int .i64 S.mark,(.ptr x 0),.int .i64 V.1.t,.sl 3 (chs V.1.C) .any,.sl 1 (strs V.1.rk) .any,.sl 2 (sps V.1.rs) .any,.bool V.1.ended]) ok2
 have on8:=On.dq (A:=[_,_,_,_]) (o':=(.cells [.ptr s 0,.sl 2 (S.L.map Space.encI) .any,.int .i64 S.last,.int .i64 S.mark,(.ptr x 0),.int .i64 V.1.t,.sl 3 (chs V.1.C) .any,.sl 1 (strs V.1.rk) .any,.sl 2 (sps V.1.rs) .any,.bool V.1.ended])) ok2
 simp only[List.cons_append,List.nil_append] at e8 on8
 refine Wp.aA (by simp only[go_sem,reduceIte,Nat.reduceEqDiff,Nat.reduceAdd,bx,ax,if_true,if_false,Nat.reduceMul,Nat.reduceLeDiff,f17,fw2];exact rfl) (by trivial) ?_
 rw[e8]
 have ok3:=on8.ok
 have fw3:=ok3.sub (F:=ob w (.cells [.ptr s 0,.sl 2 (S.L.map Space.encI) .any,.int .i64 S.last,.int .i64 S.mark,(.ptr x 0),.int .i64 V.1.t,.sl 3 (chs V.1.C) .any,.sl 1 (strs V.1.rk) .any,.sl 2 (sps V.1.rs) .any,.bool V.1.ended])) (by simp) w _ (by simp[aY];rfl)
 have fa3:=ok3.sub (F:=ob n (.cells [.int .i64 c.kind,.int .i64 c.n,.str c.a,.str c.b,.sl 3 (chs c.l) .any])) (by simp) n _ (by simp[aY];rfl)
 have ok:=ok3
 refine rn0 (cj2 fa3 fw3) ?_
 refine aa.bY [_,_] [F,FS] [_] (by simp only[go_sem,bx]) xA4 hag ok3 fun r G' n' T' m' ids hq on hids=>?_
 obtain ⟨rfl,F',rfl,hres⟩:=hq
 simp only[List.cons_append,List.nil_append,List.append_nil] at on ⊢
 have dz:decide (V.2.1=V.2.1)=true:=decide_eq_true rfl
 have dy:decide (V.2.2=V.2.2)=true:=decide_eq_true rfl
 rw[dz] at hsa
 refine aa.evR xA1 ?_
 refine aa.nil ⟨by simp[aw,aq,apart,aG],?_⟩
 refine rn1 dy hsa ?_
 have onA:=((((On.refl ok2).grown.grown).step on8).step on).cI.cI
 exact Wp.ret ⟨trivial,_,rfl,_,_,On.jk onA (ey on.ok (fun G hG=>List.mem_cons_of_mem _ (List.mem_cons_of_mem _ hG))) (ab.refl _) ⟨rfl,_,rfl,hres⟩⟩
set_option maxHeartbeats 4000000 in
theorem Bj {s w x k:Nat} {S:Spc} {F FS:Fr} {Y:Tx} (hF:TxF x s Y F) (hS:cQ s S FS) (c:Ac) (hk:c.kind=6):
  aL Tryz.prog 10 [.ptr w 0,dc c] [F,FS,ob w (wO s S (.ptr x 0) Y)] fun r L=>r= .bool true∧∃F',L=[F',FS,ob w (wO s S (.ptr x 0) {Y with ended:=true})]∧TxF x s {Y with ended:=true} F':=by
 refine f10.bw (by simp) fun n m ok=>?_
 unfold c10
 simp only[C.zz]
 have hwn:=ok.lt (F:=ob w (wO s S (.ptr x 0) Y)) (by simp) (j:=w) (o:=wO s S (.ptr x 0) Y) (by simp[aY])
 have hsn:s<n:=by obtain ⟨_,_,_,_,_,h,_⟩:=hS.go;exact ok.lt (by simp) h
 have hxn:x<n:=by obtain ⟨_,_,_,_,_,h,_⟩:=hF.go;exact ok.lt (by simp) h
 have okx:=ok
 have ok1:=ok.more (.cells [.int .i64 c.kind,.int .i64 c.n,.str c.a,.str c.b,.sl 3 (chs c.l) .any])
 have fa:=aH n (.cells [.int .i64 c.kind,.int .i64 c.n,.str c.a,.str c.b,.sl 3 (chs c.l) .any]) [F,FS,ob w (wO s S (.ptr x 0) Y)]
 have fw:lay [ob n (.cells [.int .i64 c.kind,.int .i64 c.n,.str c.a,.str c.b,.sl 3 (chs c.l) .any]),F,FS,ob w (wO s S (.ptr x 0) Y)] w=some (.cells [.ptr s 0,.sl 2 (S.L.map Space.encI) .any,.int .i64 S.last,.int .i64 S.mark,(.ptr x 0),.int .i64 Y.t,.sl 3 (chs Y.C) .any,.sl 1 (strs Y.rk) .any,.sl 2 (sps Y.rs) .any,.bool Y.ended]):=ok1.sub (F:=ob w (wO s S (.ptr x 0) Y)) (by simp) w (wO s S (.ptr x 0) Y) (by simp[aY])
 have hw1:(w=n)=False:=eq_false (by omega)
 have hw2:(n=w)=False:=eq_false (by omega)
 have hw3:(w=n+1)=False:=eq_false (by omega)
 have hw4:(n+1=w)=False:=eq_false (by omega)
 have d1:decide (c.kind=1)=false:=decide_eq_false (by omega)
 have d2:decide (c.kind=2)=false:=decide_eq_false (by omega)
 have d3:decide (c.kind=3)=false:=decide_eq_false (by omega)
 have d4:decide (c.kind=4)=false:=decide_eq_false (by omega)
 have d5:decide (c.kind=5)=false:=decide_eq_false (by omega)
 have d6:decide (c.kind=6)=true:=decide_eq_true hk
 have hop:decide (ir Y=17)=Y.ended:=by
  unfold ir
  cases Y.ended<;>rfl
 have e8:=Ok.bC (A:=[_,_,_]) (.cells [.ptr s 0,.sl 2 (S.L.map Space.encI) .any,.int .i64 S.last,.int .i64 S.mark,(.ptr x 0),.int .i64 Y.t,.sl 3 (chs Y.C) .any,.sl 1 (strs Y.rk) .any,.sl 2 (sps Y.rs) .any,.bool true]) ok1
 have on8:=On.dq (A:=[_,_,_]) (o':=(.cells [.ptr s 0,.sl 2 (S.L.map Space.encI) .any,.int .i64 S.last,.int .i64 S.mark,(.ptr x 0),.int .i64 Y.t,.sl 3 (chs Y.C) .any,.sl 1 (strs Y.rk) .any,.sl 2 (sps Y.rs) .any,.bool true])) ok1
 simp only[List.cons_append,List.nil_append] at e8 on8
 have ok3:=on8.ok
 have fw3:=ok3.sub (F:=ob w (.cells [.ptr s 0,.sl 2 (S.L.map Space.encI) .any,.int .i64 S.last,.int .i64 S.mark,(.ptr x 0),.int .i64 Y.t,.sl 3 (chs Y.C) .any,.sl 1 (strs Y.rk) .any,.sl 2 (sps Y.rs) .any,.bool true])) (by simp) w _ (by simp[aY];rfl)
 refine Wp.aA (by simp only[go_sem,reduceIte,Nat.reduceEqDiff,Nat.reduceAdd,bx,dc];exact rfl) (by trivial) ?_
 rw[bm]
 refine rn0 (cj8 fa fw d1 d2 d3 d4 d5 d6) ?_
 rw[e8]
 refine rn0 fw3 ?_
 refine aa.bY [_] [F] [_,_] (by simp only[go_sem,bx]) xA4 (Dj hF) ok3 fun r G' n' T' m' ids hq on hids=>?_
 obtain ⟨rfl,F',rfl,hres⟩:=hq
 simp only[List.cons_append,List.nil_append,List.append_nil] at on ⊢
 refine aa.evR (by simp only[go_sem,reduceIte,Nat.reduceEqDiff,Nat.reduceAdd,bx,hop,beq_self_eq_true];exact rfl) ?_
 refine aa.nil ⟨by simp[aw,aq,apart,aG],?_⟩
 refine dp ?_
 have onA:=(((On.refl ok1).grown.step on8).step on).cI
 exact Wp.ret ⟨trivial,_,rfl,_,_,On.jk onA (ey on.ok (fun G hG=>List.mem_cons_of_mem _ hG)) (ab.refl _) ⟨rfl,_,rfl,hres⟩⟩
set_option maxHeartbeats 4000000 in
theorem Bk {s w x k:Nat} {S:Spc} {F FS:Fr} {Y:Tx} (hF:TxF x s Y F) (hS:cQ s S FS) (hI:Inv k S Y) (c:Ac) (hk:¬(1≤c.kind∧c.kind≤7)) (hl:k+1≤400000) (la:Ls c.a):
  aL Tryz.prog 10 [.ptr w 0,dc c] [F,FS,ob w (wO s S (.ptr x 0) Y)] fun r L=>r= .bool true∧∃F',L=[F',FS,ob w (wO s S (.ptr x 0) (ew Y ⟨c.a,c.b,false⟩).1)]∧TxF x s (ew Y ⟨c.a,c.b,false⟩).1 F':=by
 refine f10.bw (by simp) fun n m ok=>?_
 unfold c10
 simp only[C.zz]
 have hwn:=ok.lt (F:=ob w (wO s S (.ptr x 0) Y)) (by simp) (j:=w) (o:=wO s S (.ptr x 0) Y) (by simp[aY])
 have hsn:s<n:=by obtain ⟨_,_,_,_,_,h,_⟩:=hS.go;exact ok.lt (by simp) h
 have hxn:x<n:=by obtain ⟨_,_,_,_,_,h,_⟩:=hF.go;exact ok.lt (by simp) h
 have okx:=ok
 have ok1:=ok.more (.cells [.int .i64 c.kind,.int .i64 c.n,.str c.a,.str c.b,.sl 3 (chs c.l) .any])
 have fa:=aH n (.cells [.int .i64 c.kind,.int .i64 c.n,.str c.a,.str c.b,.sl 3 (chs c.l) .any]) [F,FS,ob w (wO s S (.ptr x 0) Y)]
 have fw:lay [ob n (.cells [.int .i64 c.kind,.int .i64 c.n,.str c.a,.str c.b,.sl 3 (chs c.l) .any]),F,FS,ob w (wO s S (.ptr x 0) Y)] w=some (.cells [.ptr s 0,.sl 2 (S.L.map Space.encI) .any,.int .i64 S.last,.int .i64 S.mark,(.ptr x 0),.int .i64 Y.t,.sl 3 (chs Y.C) .any,.sl 1 (strs Y.rk) .any,.sl 2 (sps Y.rs) .any,.bool Y.ended]):=ok1.sub (F:=ob w (wO s S (.ptr x 0) Y)) (by simp) w (wO s S (.ptr x 0) Y) (by simp[aY])
 have hw1:(w=n)=False:=eq_false (by omega)
 have hw2:(n=w)=False:=eq_false (by omega)
 have hw3:(w=n+1)=False:=eq_false (by omega)
 have hw4:(n+1=w)=False:=eq_false (by omega)
 have d1:decide (c.kind=1)=false:=decide_eq_false (by omega)
 have d2:decide (c.kind=2)=false:=decide_eq_false (by omega)
 have d3:decide (c.kind=3)=false:=decide_eq_false (by omega)
 have d4:decide (c.kind=4)=false:=decide_eq_false (by omega)
 have d5:decide (c.kind=5)=false:=decide_eq_false (by omega)
 have d6:decide (c.kind=6)=false:=decide_eq_false (by omega)
 have d7:decide (c.kind=7)=false:=decide_eq_false (by omega)
 have hsm:=hI.fit.small (show k≤500000 by omega)
 have hap:=mj Y hI.rC hI.lC hI.lsC ⟨c.a,c.b,false⟩ la (fun h=>by cases h)
 have hag:=yh hF hI.rC hI.lC c.a c.b
 generalize hV:ew Y ⟨c.a,c.b,false⟩=W at*
 unfold fS aP at hap
 refine Wp.aA (by simp only[go_sem,reduceIte,Nat.reduceEqDiff,Nat.reduceAdd,bx,dc];exact rfl) (by trivial) ?_
 rw[bm]
 refine rn1 (cj8 fa fw d1 d2 d3 d4 d5 d6) hap ?_
 refine aa.nil ⟨by simp[aw,aq,apart,aG,hw1,hw2,hw3,hw4],?_⟩
 rw[bm,bC]
 have ok2:=ok1.more (.cells [.int .i64 W.1.t,.sl 3 (chs W.1.C) .any,.sl 1 (strs W.1.rk) .any,.sl 2 (sps W.1.rs) .any,.bool W.1.ended])
 have f17:=aH (n+1) (.cells [.int .i64 W.1.t,.sl 3 (chs W.1.C) .any,.sl 1 (strs W.1.rk) .any,.sl 2 (sps W.1.rs) .any,.bool W.1.ended]) [ob n (.cells [.int .i64 c.kind,.int .i64 c.n,.str c.a,.str c.b,.sl 3 (chs c.l) .any]),F,FS,ob w (wO s S (.ptr x 0) Y)]
 have fw2:lay [ob (n+1) (.cells [.int .i64 W.1.t,.sl 3 (chs W.1.C) .any,.sl 1 (strs W.1.rk) .any,.sl 2 (sps W.1.rs) .any,.bool W.1.ended]),ob n (.cells [.int .i64 c.kind,.int .i64 c.n,.str c.a,.str c.b,.sl 3 (chs c.l) .any]),F,FS,ob w (wO s S (.ptr x 0) Y)] w=some (.cells [.ptr s 0,.sl 2 (S.L.map Space.encI) .any,.int .i64 S.last,.int .i64 S.mark,(.ptr x 0),.int .i64 Y.t,.sl 3 (chs Y.C) .any,.sl 1 (strs Y.rk) .any,.sl 2 (sps Y.rs) .any,.bool Y.ended]):=ok2.sub (F:=ob w (wO s S (.ptr x 0) Y)) (by simp) w (wO s S (.ptr x 0) Y) (by simp[aY])
 have fa2:=ok2.sub (F:=ob n (.cells [.int .i64 c.kind,.int .i64 c.n,.str c.a,.str c.b,.sl 3 (chs c.l) .any])) (by simp) n _ (by simp[aY];rfl)
 refine rn0 (cj3 fa2 fw2 d7) ?_
 refine aa.bY [_,_] [F] [_,_] (by simp only[go_sem,bx]) xA4 hag ok2 fun r G' n' T' m' ids hq on hids=>?_
 obtain ⟨rfl,F',rfl,hres⟩:=hq
 simp only[List.cons_append,List.nil_append,List.append_nil] at on ⊢
 refine aa.evR xA1 ?_
 refine aa.nil ⟨by simp[aw,aq,apart,aG],?_⟩
 have ok3:=on.ok
 have f18:=aH (n+1) (.cells [.int .i64 W.1.t,.sl 3 (chs W.1.C) .any,.sl 1 (strs W.1.rk) .any,.sl 2 (sps W.1.rs) .any,.bool W.1.ended]) [ob n (.cells [.int .i64 c.kind,.int .i64 c.n,.str c.a,.str c.b,.sl 3 (chs c.l) .any]),F',FS,ob w (wO s S (.ptr x 0) Y)]
 have fw4:lay [ob (n+1) (.cells [.int .i64 W.1.t,.sl 3 (chs W.1.C) .any,.sl 1 (strs W.1.rk) .any,.sl 2 (sps W.1.rs) .any,.bool W.1.ended]),ob n (.cells [.int .i64 c.kind,.int .i64 c.n,.str c.a,.str c.b,.sl 3 (chs c.l) .any]),F',FS,ob w (wO s S (.ptr x 0) Y)] w=some (.cells [.ptr s 0,.sl 2 (S.L.map Space.encI) .any,.int .i64 S.last,.int .i64 S.mark,(.ptr x 0),.int .i64 Y.t,.sl 3 (chs Y.C) .any,.sl 1 (strs Y.rk) .any,.sl 2 (sps Y.rs) .any,.bool Y.ended]):=ok3.sub (F:=ob w (wO s S (.ptr x 0) Y)) (by simp) w (wO s S (.ptr x 0) Y) (by simp[aY])
 have e8:=Ok.bC (A:=[_,_,_,_]) (.cells [.ptr s 0,.sl 2 (S.L.map Space.encI) .any,.int .i64 S.last,.int .i64 S.mark,(.ptr x 0),.int .i64 W.1.t,.sl 3 (chs W.1.C) .any,.sl 1 (strs W.1.rk) .any,.sl 2 (sps W.1.rs) .any,.bool W.1.ended]) ok3
 have on8:=On.dq (A:=[_,_,_,_]) (o':=(.cells [.ptr s 0,.sl 2 (S.L.map Space.encI) .any,.int .i64 S.last,.int .i64 S.mark,(.ptr x 0),.int .i64 W.1.t,.sl 3 (chs W.1.C) .any,.sl 1 (strs W.1.rk) .any,.sl 2 (sps W.1.rs) .any,.bool W.1.ended])) ok3
 simp only[List.cons_append,List.nil_append] at e8 on8
 have dz:decide (W.2=W.2)=true:=decide_eq_true rfl
 refine rn0 (cj3 f18 fw4 dz) ?_
 rw[e8]
 have onA:=((((On.refl ok2).grown.grown).step on).step on8).cI.cI
 exact Wp.ret ⟨trivial,_,rfl,_,_,On.jk onA (ey on8.ok (fun G hG=>List.mem_cons_of_mem _ (List.mem_cons_of_mem _ hG))) (ab.refl _) ⟨rfl,_,rfl,hres⟩⟩
end Go.Proofs.YtpehfflehebmbaaGreat.Txn
end
section
set_option maxRecDepth 10000
namespace Go.Av
theorem On.Cm {l0 l:List Fr} {n0 m0 n m:Nat} {T:List Nat} (a:On l0 n0 (m0+1) l n T m):On l0 n0 m0 l n T m:=
 ⟨a.gn,by have:=a.gm;omega,a.ok,a.wi,fun t ht=>(a.ki t ht).imp id (fun h=>by omega)⟩
end Go.Av
namespace Go.Proofs.YtpehfflehebmbaaGreat.Txn
open Go Go.Av Go.Proofs Go.Proofs.YtpehfflehebmbaaGreat.C Go.Proofs.YtpehfflehebmbaaGreat.Batch Go.Proofs.YtpehfflehebmbaaGreat.Space Go.Proofs.YtpehfflehebmbaaGreat.Reads
theorem qb {l:List Fr} {n m:Nat} {T:List Nat} (ok:Ok l n T m):Ok l n (m::T) (m+1):=
 ⟨ok.bd,ok.dj,fun t ht=>List.mem_cons_of_mem _ (ok.tk t ht),ok.td,fun t ht=>by
  rcases List.mem_cons.1 ht with rfl|h
  ·omega
  ·have:=ok.tb t h;omega⟩
def pa (c:Ac) (Y:Tx):List Ch:=if 0≤c.n then Y.C.take (min c.n.toNat Y.C.length) else c.l
theorem sS (l:List Ch) (k:Nat):(chs l).take k=chs (l.take k):=by simp[chs,List.map_take]
set_option maxHeartbeats 4000000 in
theorem Bl {s w x k:Nat} {S:Spc} {F FS:Fr} {Y:Tx} (hF:TxF x s Y F) (hS:cQ s S FS) (hI:Inv k S Y) (c:Ac) (hk:c.kind=7) (hl:k+c.l.length+1≤400000) (la:Ls c.a) (hlc:∀x∈c.l,Ls x.k):
  aL Tryz.prog 10 [.ptr w 0,dc c] [F,FS,ob w (wO s S (.ptr x 0) Y)] fun r L=>r= .bool true∧∃F',L=[F',FS,ob w (wO s S (.ptr x 0) (gO Y (pa c Y)).1)]∧TxF x s (gO Y (pa c Y)).1 F':=by
 refine f10.bw (by simp) fun n m ok=>?_
 unfold c10
 simp only[C.zz]
 have hwn:=ok.lt (F:=ob w (wO s S (.ptr x 0) Y)) (by simp) (j:=w) (o:=wO s S (.ptr x 0) Y) (by simp[aY])
 have hsn:s<n:=by obtain ⟨_,_,_,_,_,h,_⟩:=hS.go;exact ok.lt (by simp) h
 have hxn:x<n:=by obtain ⟨_,_,_,_,_,h,_⟩:=hF.go;exact ok.lt (by simp) h
 have okx:=ok
 have ok1:=ok.more (.cells [.int .i64 c.kind,.int .i64 c.n,.str c.a,.str c.b,.sl 3 (chs c.l) .any])
 have fa:=aH n (.cells [.int .i64 c.kind,.int .i64 c.n,.str c.a,.str c.b,.sl 3 (chs c.l) .any]) [F,FS,ob w (wO s S (.ptr x 0) Y)]
 have fw:lay [ob n (.cells [.int .i64 c.kind,.int .i64 c.n,.str c.a,.str c.b,.sl 3 (chs c.l) .any]),F,FS,ob w (wO s S (.ptr x 0) Y)] w=some (.cells [.ptr s 0,.sl 2 (S.L.map Space.encI) .any,.int .i64 S.last,.int .i64 S.mark,(.ptr x 0),.int .i64 Y.t,.sl 3 (chs Y.C) .any,.sl 1 (strs Y.rk) .any,.sl 2 (sps Y.rs) .any,.bool Y.ended]):=ok1.sub (F:=ob w (wO s S (.ptr x 0) Y)) (by simp) w (wO s S (.ptr x 0) Y) (by simp[aY])
 have hw1:(w=n)=False:=eq_false (by omega)
 have hw2:(n=w)=False:=eq_false (by omega)
 have hw3:(w=n+1)=False:=eq_false (by omega)
 have hw4:(n+1=w)=False:=eq_false (by omega)
 have d1:decide (c.kind=1)=false:=decide_eq_false (by omega)
 have d2:decide (c.kind=2)=false:=decide_eq_false (by omega)
 have d3:decide (c.kind=3)=false:=decide_eq_false (by omega)
 have d4:decide (c.kind=4)=false:=decide_eq_false (by omega)
 have d5:decide (c.kind=5)=false:=decide_eq_false (by omega)
 have d6:decide (c.kind=6)=false:=decide_eq_false (by omega)
 have d7:decide (c.kind=7)=true:=decide_eq_true hk
 have hsm:=hI.fit.small (show k≤500000 by omega)
 have hap:=mj Y hI.rC hI.lC hI.lsC ⟨c.a,c.b,false⟩ la (fun h=>by cases h)
 have hlC:=hI.lC
 have hlsC:=hI.lsC
 generalize hV:ew Y ⟨c.a,c.b,false⟩=W at*
 unfold fS aP at hap
 refine Wp.aA (by simp only[go_sem,reduceIte,Nat.reduceEqDiff,Nat.reduceAdd,bx,dc];exact rfl) (by trivial) ?_
 rw[bm]
 refine rn1 (cj8 fa fw d1 d2 d3 d4 d5 d6) hap ?_
 refine aa.nil ⟨by simp[aw,aq,apart,aG,hw1,hw2,hw3,hw4],?_⟩
 rw[bm,bC]
 have ok2:=ok1.more (.cells [.int .i64 W.1.t,.sl 3 (chs W.1.C) .any,.sl 1 (strs W.1.rk) .any,.sl 2 (sps W.1.rs) .any,.bool W.1.ended])
 have fw2:lay [ob (n+1) (.cells [.int .i64 W.1.t,.sl 3 (chs W.1.C) .any,.sl 1 (strs W.1.rk) .any,.sl 2 (sps W.1.rs) .any,.bool W.1.ended]),ob n (.cells [.int .i64 c.kind,.int .i64 c.n,.str c.a,.str c.b,.sl 3 (chs c.l) .any]),F,FS,ob w (wO s S (.ptr x 0) Y)] w=some (.cells [.ptr s 0,.sl 2 (S.L.map Space.encI) .any,.int .i64 S.last,.int .i64 S.mark,(.ptr x 0),.int .i64 Y.t,.sl 3 (chs Y.C) .any,.sl 1 (strs Y.rk) .any,.sl 2 (sps Y.rs) .any,.bool Y.ended]):=ok2.sub (F:=ob w (wO s S (.ptr x 0) Y)) (by simp) w (wO s S (.ptr x 0) Y) (by simp[aY])
 have fa2:=ok2.sub (F:=ob n (.cells [.int .i64 c.kind,.int .i64 c.n,.str c.a,.str c.b,.sl 3 (chs c.l) .any])) (by simp) n _ (by simp[aY];rfl)
 by_cases hn:(0:Int)≤c.n
 ·have q1:=decide_eq_true hn
  by_cases hb:((chs Y.C).length:Int)<c.n
  ·have hb2:(Y.C.length:Int)<c.n:=by rwa [ao] at hb
   have hrl:pa c Y=Y.C.take Y.C.length:=by rw[pa,if_pos hn,Nat.min_eq_right (by omega)]
   rw[hrl]
   have hlL:∀c∈Y.C.take Y.C.length,Ls c.k:=fun c hc=>hlsC c (List.mem_of_mem_take hc)
   have hlen:(Y.C.take Y.C.length).length≤500000:=by first|omega|(simp only[List.length_take];omega)
   have hap2:=kR Y (Y.C.take Y.C.length) (by omega) hlL
   have hag:=mo hF (Y.C.take Y.C.length) (by omega)
   have f22:=aH (n+1) (.cells [.int .i64 W.1.t,.sl 3 (chs W.1.C) .any,.sl 1 (strs W.1.rk) .any,.sl 2 (sps W.1.rs) .any,.bool W.1.ended]) [ob n (.cells [.int .i64 c.kind,.int .i64 c.n,.str c.a,.str c.b,.sl 3 (chs c.l) .any]),F,FS,ob w (wO s S (.ptr x 0) Y)]
   have r1:(Y.C.take Y.C.length).length*40≤140737488355328:=by omega
   have r2:(Y.C.take Y.C.length).length<4611686018427387904:=by omega
   generalize hL:Y.C.take Y.C.length=l at*
   generalize hR:gO Y l=R at*
   unfold fS at hap2
   refine rn0 (bN fa2 fw2 @ao d7 q1 hb2 @Int.toNat_natCast @Nat.le_refl @Int.le_refl @List.drop_zero.{0} @sS (cj2 @ite_self.{1} hL)) ?_
   refine aa.bM xA2 (by simp only[go_sem,reduceIte,Nat.reduceEqDiff,Nat.reduceAdd,bx,List.map];exact af.refl _) (hap2) ?_
   refine aa.evR (by simp only[go_sem,reduceIte,Nat.reduceEqDiff,Nat.reduceAdd,bx,ax,if_true,if_false,Nat.reduceMul,Nat.reduceLeDiff,f22];exact rfl) ?_
   refine aa.nil ⟨by simp[aw,aq,apart,aG],?_⟩
   rw[bC]
   have ok2':=qb (Ok.bc (o':=(.cells [.int .i64 R.1.t,.sl 3 (chs R.1.C) .any,.sl 1 (strs R.1.rk) .any,.sl 2 (sps R.1.rs) .any,.bool R.1.ended])) ok2)
   have fa2':=ok2'.sub (F:=ob n (.cells [.int .i64 c.kind,.int .i64 c.n,.str c.a,.str c.b,.sl 3 (chs c.l) .any])) (by simp) n _ (by simp[aY];rfl)
   have fw2':lay [ob (n+1) (.cells [.int .i64 R.1.t,.sl 3 (chs R.1.C) .any,.sl 1 (strs R.1.rk) .any,.sl 2 (sps R.1.rs) .any,.bool R.1.ended]),ob n (.cells [.int .i64 c.kind,.int .i64 c.n,.str c.a,.str c.b,.sl 3 (chs c.l) .any]),F,FS,ob w (wO s S (.ptr x 0) Y)] w=some (.cells [.ptr s 0,.sl 2 (S.L.map Space.encI) .any,.int .i64 S.last,.int .i64 S.mark,(.ptr x 0),.int .i64 Y.t,.sl 3 (chs Y.C) .any,.sl 1 (strs Y.rk) .any,.sl 2 (sps Y.rs) .any,.bool Y.ended]):=ok2'.sub (F:=ob w (wO s S (.ptr x 0) Y)) (by simp) w (wO s S (.ptr x 0) Y) (by simp[aY])
   refine rn0 (cj8 fa2' fw2' @ao @List.length_nil.{0} @Nat.zero_add r1 r2 @List.nil_append.{0}) ?_
   refine aa.bY [_,_] [F] [_,_] (by simp only[go_sem,bx]) (by simp only[go_sem,reduceIte,Nat.reduceEqDiff,List.map];exact af.cons (ab.refl _) (af.cons ab.own af.nil)) hag ok2' fun r G' n' T' m' ids hq on hids=>?_
   obtain ⟨rfl,F',rfl,hres⟩:=hq
   simp only[List.cons_append,List.nil_append,List.append_nil] at on ⊢
   refine aa.evR xA1 ?_
   refine aa.nil ⟨by simp[aw,aq,apart,aG],?_⟩
   have ok3:=on.ok
   have f18:=aH (n+1) (.cells [.int .i64 R.1.t,.sl 3 (chs R.1.C) .any,.sl 1 (strs R.1.rk) .any,.sl 2 (sps R.1.rs) .any,.bool R.1.ended]) [ob n (.cells [.int .i64 c.kind,.int .i64 c.n,.str c.a,.str c.b,.sl 3 (chs c.l) .any]),F',FS,ob w (wO s S (.ptr x 0) Y)]
   have fw4:lay [ob (n+1) (.cells [.int .i64 R.1.t,.sl 3 (chs R.1.C) .any,.sl 1 (strs R.1.rk) .any,.sl 2 (sps R.1.rs) .any,.bool R.1.ended]),ob n (.cells [.int .i64 c.kind,.int .i64 c.n,.str c.a,.str c.b,.sl 3 (chs c.l) .any]),F',FS,ob w (wO s S (.ptr x 0) Y)] w=some (.cells [.ptr s 0,.sl 2 (S.L.map Space.encI) .any,.int .i64 S.last,.int .i64 S.mark,(.ptr x 0),.int .i64 Y.t,.sl 3 (chs Y.C) .any,.sl 1 (strs Y.rk) .any,.sl 2 (sps Y.rs) .any,.bool Y.ended]):=ok3.sub (F:=ob w (wO s S (.ptr x 0) Y)) (by simp) w (wO s S (.ptr x 0) Y) (by simp[aY])
   have e8:=Ok.bC (A:=[_,_,_,_]) (.cells [.ptr s 0,.sl 2 (S.L.map Space.encI) .any,.int .i64 S.last,.int .i64 S.mark,(.ptr x 0),.int .i64 R.1.t,.sl 3 (chs R.1.C) .any,.sl 1 (strs R.1.rk) .any,.sl 2 (sps R.1.rs) .any,.bool R.1.ended]) ok3
   have on8:=On.dq (A:=[_,_,_,_]) (o':=(.cells [.ptr s 0,.sl 2 (S.L.map Space.encI) .any,.int .i64 S.last,.int .i64 S.mark,(.ptr x 0),.int .i64 R.1.t,.sl 3 (chs R.1.C) .any,.sl 1 (strs R.1.rk) .any,.sl 2 (sps R.1.rs) .any,.bool R.1.ended])) ok3
   simp only[List.cons_append,List.nil_append] at e8 on8
   have dz:decide (R.2=R.2)=true:=decide_eq_true rfl
   refine rn0 (cj3 f18 fw4 dz) ?_
   rw[e8]
   have onT:On [F,FS,ob w (wO s S (.ptr x 0) Y)] n m (ob (n+1) (.cells [.int .i64 R.1.t,.sl 3 (chs R.1.C) .any,.sl 1 (strs R.1.rk) .any,.sl 2 (sps R.1.rs) .any,.bool R.1.ended])::ob n (.cells [.int .i64 c.kind,.int .i64 c.n,.str c.a,.str c.b,.sl 3 (chs c.l) .any])::[F,FS,ob w (wO s S (.ptr x 0) Y)]) (n+1+1) (m::ks [F,FS,ob w (wO s S (.ptr x 0) Y)]) (m+1):=((On.refl (qb (Ok.bc (o':=(.cells [.int .i64 R.1.t,.sl 3 (chs R.1.C) .any,.sl 1 (strs R.1.rk) .any,.sl 2 (sps R.1.rs) .any,.bool R.1.ended])) ok2))).grown.grown).Cm
   have onA:=((onT.step on).step on8).cI.cI
   exact Wp.ret ⟨trivial,_,rfl,_,_,On.jk onA (ey on8.ok (fun G hG=>List.mem_cons_of_mem _ (List.mem_cons_of_mem _ hG))) (ab.refl _) ⟨rfl,_,rfl,hres⟩⟩
  ·have hb2:¬(Y.C.length:Int)<c.n:=by rwa [ao] at hb
   have hrl:pa c Y=Y.C.take c.n.toNat:=by rw[pa,if_pos hn,Nat.min_eq_left (by omega)]
   rw[hrl]
   have hlL:∀x∈Y.C.take c.n.toNat,Ls x.k:=fun c hc=>hlsC c (List.mem_of_mem_take hc)
   have b1:c.n≤(Y.C.length:Int):=by omega
   have b2:c.n.toNat≤Y.C.length:=by omega
   have hlen:(Y.C.take c.n.toNat).length≤500000:=by first|omega|(simp only[List.length_take];omega)
   have hap2:=kR Y (Y.C.take c.n.toNat) (by omega) hlL
   have hag:=mo hF (Y.C.take c.n.toNat) (by omega)
   have f22:=aH (n+1) (.cells [.int .i64 W.1.t,.sl 3 (chs W.1.C) .any,.sl 1 (strs W.1.rk) .any,.sl 2 (sps W.1.rs) .any,.bool W.1.ended]) [ob n (.cells [.int .i64 c.kind,.int .i64 c.n,.str c.a,.str c.b,.sl 3 (chs c.l) .any]),F,FS,ob w (wO s S (.ptr x 0) Y)]
   have r1:(Y.C.take c.n.toNat).length*40≤140737488355328:=by omega
   have r2:(Y.C.take c.n.toNat).length<4611686018427387904:=by omega
   generalize hL:Y.C.take c.n.toNat=l at*
   generalize hR:gO Y l=R at*
   unfold fS at hap2
   refine rn0 (bN fa2 fw2 @ao d7 q1 hb2 b1 b2 hn @Int.toNat_natCast @Nat.le_refl (cj5 @Int.le_refl @List.drop_zero.{0} @sS @ite_self.{1} hL)) ?_
   refine aa.bM xA2 (by simp only[go_sem,reduceIte,Nat.reduceEqDiff,Nat.reduceAdd,bx,List.map];exact af.refl _) (hap2) ?_
   refine aa.evR (by simp only[go_sem,reduceIte,Nat.reduceEqDiff,Nat.reduceAdd,bx,ax,if_true,if_false,Nat.reduceMul,Nat.reduceLeDiff,f22];exact rfl) ?_
   refine aa.nil ⟨by simp[aw,aq,apart,aG],?_⟩
   rw[bC]
   have ok2':=qb (Ok.bc (o':=(.cells [.int .i64 R.1.t,.sl 3 (chs R.1.C) .any,.sl 1 (strs R.1.rk) .any,.sl 2 (sps R.1.rs) .any,.bool R.1.ended])) ok2)
   have fa2':=ok2'.sub (F:=ob n (.cells [.int .i64 c.kind,.int .i64 c.n,.str c.a,.str c.b,.sl 3 (chs c.l) .any])) (by simp) n _ (by simp[aY];rfl)
   have fw2':lay [ob (n+1) (.cells [.int .i64 R.1.t,.sl 3 (chs R.1.C) .any,.sl 1 (strs R.1.rk) .any,.sl 2 (sps R.1.rs) .any,.bool R.1.ended]),ob n (.cells [.int .i64 c.kind,.int .i64 c.n,.str c.a,.str c.b,.sl 3 (chs c.l) .any]),F,FS,ob w (wO s S (.ptr x 0) Y)] w=some (.cells [.ptr s 0,.sl 2 (S.L.map Space.encI) .any,.int .i64 S.last,.int .i64 S.mark,(.ptr x 0),.int .i64 Y.t,.sl 3 (chs Y.C) .any,.sl 1 (strs Y.rk) .any,.sl 2 (sps Y.rs) .any,.bool Y.ended]):=ok2'.sub (F:=ob w (wO s S (.ptr x 0) Y)) (by simp) w (wO s S (.ptr x 0) Y) (by simp[aY])
   refine rn0 (cj8 fa2' fw2' @ao @List.length_nil.{0} @Nat.zero_add r1 r2 @List.nil_append.{0}) ?_
   refine aa.bY [_,_] [F] [_,_] (by simp only[go_sem,bx]) (by simp only[go_sem,reduceIte,Nat.reduceEqDiff,List.map];exact af.cons (ab.refl _) (af.cons ab.own af.nil)) hag ok2' fun r G' n' T' m' ids hq on hids=>?_
   obtain ⟨rfl,F',rfl,hres⟩:=hq
   simp only[List.cons_append,List.nil_append,List.append_nil] at on ⊢
   refine aa.evR xA1 ?_
   refine aa.nil ⟨by simp[aw,aq,apart,aG],?_⟩
   have ok3:=on.ok
   have f18:=aH (n+1) (.cells [.int .i64 R.1.t,.sl 3 (chs R.1.C) .any,.sl 1 (strs R.1.rk) .any,.sl 2 (sps R.1.rs) .any,.bool R.1.ended]) [ob n (.cells [.int .i64 c.kind,.int .i64 c.n,.str c.a,.str c.b,.sl 3 (chs c.l) .any]),F',FS,ob w (wO s S (.ptr x 0) Y)]
   have fw4:lay [ob (n+1) (.cells [.int .i64 R.1.t,.sl 3 (chs R.1.C) .any,.sl 1 (strs R.1.rk) .any,.sl 2 (sps R.1.rs) .any,.bool R.1.ended]),ob n (.cells [.int .i64 c.kind,.int .i64 c.n,.str c.a,.str c.b,.sl 3 (chs c.l) .any]),F',FS,ob w (wO s S (.ptr x 0) Y)] w=some (.cells [.ptr s 0,.sl 2 (S.L.map Space.encI) .any,.int .i64 S.last,.int .i64 S.mark,(.ptr x 0),.int .i64 Y.t,.sl 3 (chs Y.C) .any,.sl 1 (strs Y.rk) .any,.sl 2 (sps Y.rs) .any,.bool Y.ended]):=ok3.sub (F:=ob w (wO s S (.ptr x 0) Y)) (by simp) w (wO s S (.ptr x 0) Y) (by simp[aY])
   have e8:=Ok.bC (A:=[_,_,_,_]) (.cells [.ptr s 0,.sl 2 (S.L.map Space.encI) .any,.int .i64 S.last,.int .i64 S.mark,(.ptr x 0),.int .i64 R.1.t,.sl 3 (chs R.1.C) .any,.sl 1 (strs R.1.rk) .any,.sl 2 (sps R.1.rs) .any,.bool R.1.ended]) ok3
   have on8:=On.dq (A:=[_,_,_,_]) (o':=(.cells [.ptr s 0,.sl 2 (S.L.map Space.encI) .any,.int .i64 S.last,.int .i64 S.mark,(.ptr x 0),.int .i64 R.1.t,.sl 3 (chs R.1.C) .any,.sl 1 (strs R.1.rk) .any,.sl 2 (sps R.1.rs) .any,.bool R.1.ended])) ok3
   simp only[List.cons_append,List.nil_append] at e8 on8
   have dz:decide (R.2=R.2)=true:=decide_eq_true rfl
   refine rn0 (cj3 f18 fw4 dz) ?_
   rw[e8]
   have onT:On [F,FS,ob w (wO s S (.ptr x 0) Y)] n m (ob (n+1) (.cells [.int .i64 R.1.t,.sl 3 (chs R.1.C) .any,.sl 1 (strs R.1.rk) .any,.sl 2 (sps R.1.rs) .any,.bool R.1.ended])::ob n (.cells [.int .i64 c.kind,.int .i64 c.n,.str c.a,.str c.b,.sl 3 (chs c.l) .any])::[F,FS,ob w (wO s S (.ptr x 0) Y)]) (n+1+1) (m::ks [F,FS,ob w (wO s S (.ptr x 0) Y)]) (m+1):=((On.refl (qb (Ok.bc (o':=(.cells [.int .i64 R.1.t,.sl 3 (chs R.1.C) .any,.sl 1 (strs R.1.rk) .any,.sl 2 (sps R.1.rs) .any,.bool R.1.ended])) ok2))).grown.grown).Cm
   have onA:=((onT.step on).step on8).cI.cI
   exact Wp.ret ⟨trivial,_,rfl,_,_,On.jk onA (ey on8.ok (fun G hG=>List.mem_cons_of_mem _ (List.mem_cons_of_mem _ hG))) (ab.refl _) ⟨rfl,_,rfl,hres⟩⟩
 ·have q1:=decide_eq_false hn
  have hrl:pa c Y=c.l:=by rw[pa,if_neg hn]
  rw[hrl]
  have hlL:∀x∈c.l,Ls x.k:=hlc
  have hlen:(c.l).length≤500000:=by first|omega|(simp only[List.length_take];omega)
  have hap2:=kR Y (c.l) (by omega) hlL
  have hag:=mo hF (c.l) (by omega)
  have f22:=aH (n+1) (.cells [.int .i64 W.1.t,.sl 3 (chs W.1.C) .any,.sl 1 (strs W.1.rk) .any,.sl 2 (sps W.1.rs) .any,.bool W.1.ended]) [ob n (.cells [.int .i64 c.kind,.int .i64 c.n,.str c.a,.str c.b,.sl 3 (chs c.l) .any]),F,FS,ob w (wO s S (.ptr x 0) Y)]
  have r1:(c.l).length*40≤140737488355328:=by omega
  have r2:(c.l).length<4611686018427387904:=by omega
  have hL:True:=trivial
  generalize hR:gO Y c.l=R at*
  unfold fS at hap2
  refine rn0 (cj5 fa2 fw2 @ao d7 q1) ?_
  refine aa.bM xA2 (by simp only[go_sem,reduceIte,Nat.reduceEqDiff,Nat.reduceAdd,bx,List.map];exact af.refl _) (hap2) ?_
  refine aa.evR (by simp only[go_sem,reduceIte,Nat.reduceEqDiff,Nat.reduceAdd,bx,ax,if_true,if_false,Nat.reduceMul,Nat.reduceLeDiff,f22];exact rfl) ?_
  refine aa.nil ⟨by simp[aw,aq,apart,aG],?_⟩
  rw[bC]
  have ok2':=qb (Ok.bc (o':=(.cells [.int .i64 R.1.t,.sl 3 (chs R.1.C) .any,.sl 1 (strs R.1.rk) .any,.sl 2 (sps R.1.rs) .any,.bool R.1.ended])) ok2)
  have fa2':=ok2'.sub (F:=ob n (.cells [.int .i64 c.kind,.int .i64 c.n,.str c.a,.str c.b,.sl 3 (chs c.l) .any])) (by simp) n _ (by simp[aY];rfl)
  have fw2':lay [ob (n+1) (.cells [.int .i64 R.1.t,.sl 3 (chs R.1.C) .any,.sl 1 (strs R.1.rk) .any,.sl 2 (sps R.1.rs) .any,.bool R.1.ended]),ob n (.cells [.int .i64 c.kind,.int .i64 c.n,.str c.a,.str c.b,.sl 3 (chs c.l) .any]),F,FS,ob w (wO s S (.ptr x 0) Y)] w=some (.cells [.ptr s 0,.sl 2 (S.L.map Space.encI) .any,.int .i64 S.last,.int .i64 S.mark,(.ptr x 0),.int .i64 Y.t,.sl 3 (chs Y.C) .any,.sl 1 (strs Y.rk) .any,.sl 2 (sps Y.rs) .any,.bool Y.ended]):=ok2'.sub (F:=ob w (wO s S (.ptr x 0) Y)) (by simp) w (wO s S (.ptr x 0) Y) (by simp[aY])
  refine rn0 (cj8 fa2' fw2' @ao @List.length_nil.{0} @Nat.zero_add r1 r2 @List.nil_append.{0}) ?_
  refine aa.bY [_,_] [F] [_,_] (by simp only[go_sem,bx]) (by simp only[go_sem,reduceIte,Nat.reduceEqDiff,List.map];exact af.cons (ab.refl _) (af.cons ab.own af.nil)) hag ok2' fun r G' n' T' m' ids hq on hids=>?_
  obtain ⟨rfl,F',rfl,hres⟩:=hq
  simp only[List.cons_append,List.nil_append,List.append_nil] at on ⊢
  refine aa.evR xA1 ?_
  refine aa.nil ⟨by simp[aw,aq,apart,aG],?_⟩
  have ok3:=on.ok
  have f18:=aH (n+1) (.cells [.int .i64 R.1.t,.sl 3 (chs R.1.C) .any,.sl 1 (strs R.1.rk) .any,.sl 2 (sps R.1.rs) .any,.bool R.1.ended]) [ob n (.cells [.int .i64 c.kind,.int .i64 c.n,.str c.a,.str c.b,.sl 3 (chs c.l) .any]),F',FS,ob w (wO s S (.ptr x 0) Y)]
  have fw4:lay [ob (n+1) (.cells [.int .i64 R.1.t,.sl 3 (chs R.1.C) .any,.sl 1 (strs R.1.rk) .any,.sl 2 (sps R.1.rs) .any,.bool R.1.ended]),ob n (.cells [.int .i64 c.kind,.int .i64 c.n,.str c.a,.str c.b,.sl 3 (chs c.l) .any]),F',FS,ob w (wO s S (.ptr x 0) Y)] w=some (.cells [.ptr s 0,.sl 2 (S.L.map Space.encI) .any,.int .i64 S.last,.int .i64 S.mark,(.ptr x 0),.int .i64 Y.t,.sl 3 (chs Y.C) .any,.sl 1 (strs Y.rk) .any,.sl 2 (sps Y.rs) .any,.bool Y.ended]):=ok3.sub (F:=ob w (wO s S (.ptr x 0) Y)) (by simp) w (wO s S (.ptr x 0) Y) (by simp[aY])
  have e8:=Ok.bC (A:=[_,_,_,_]) (.cells [.ptr s 0,.sl 2 (S.L.map Space.encI) .any,.int .i64 S.last,.int .i64 S.mark,(.ptr x 0),.int .i64 R.1.t,.sl 3 (chs R.1.C) .any,.sl 1 (strs R.1.rk) .any,.sl 2 (sps R.1.rs) .any,.bool R.1.ended]) ok3
  have on8:=On.dq (A:=[_,_,_,_]) (o':=(.cells [.ptr s 0,.sl 2 (S.L.map Space.encI) .any,.int .i64 S.last,.int .i64 S.mark,(.ptr x 0),.int .i64 R.1.t,.sl 3 (chs R.1.C) .any,.sl 1 (strs R.1.rk) .any,.sl 2 (sps R.1.rs) .any,.bool R.1.ended])) ok3
  simp only[List.cons_append,List.nil_append] at e8 on8
  have dz:decide (R.2=R.2)=true:=decide_eq_true rfl
  refine rn0 (cj3 f18 fw4 dz) ?_
  rw[e8]
  have onT:On [F,FS,ob w (wO s S (.ptr x 0) Y)] n m (ob (n+1) (.cells [.int .i64 R.1.t,.sl 3 (chs R.1.C) .any,.sl 1 (strs R.1.rk) .any,.sl 2 (sps R.1.rs) .any,.bool R.1.ended])::ob n (.cells [.int .i64 c.kind,.int .i64 c.n,.str c.a,.str c.b,.sl 3 (chs c.l) .any])::[F,FS,ob w (wO s S (.ptr x 0) Y)]) (n+1+1) (m::ks [F,FS,ob w (wO s S (.ptr x 0) Y)]) (m+1):=((On.refl (qb (Ok.bc (o':=(.cells [.int .i64 R.1.t,.sl 3 (chs R.1.C) .any,.sl 1 (strs R.1.rk) .any,.sl 2 (sps R.1.rs) .any,.bool R.1.ended])) ok2))).grown.grown).Cm
  have onA:=((onT.step on).step on8).cI.cI
  exact Wp.ret ⟨trivial,_,rfl,_,_,On.jk onA (ey on8.ok (fun G hG=>List.mem_cons_of_mem _ (List.mem_cons_of_mem _ hG))) (ab.refl _) ⟨rfl,_,rfl,hres⟩⟩
end Go.Proofs.YtpehfflehebmbaaGreat.Txn
end
section
set_option maxRecDepth 10000
namespace Go.Proofs.YtpehfflehebmbaaGreat.Txn
open Go Go.Av Go.Proofs Go.Proofs.YtpehfflehebmbaaGreat.C Go.Proofs.YtpehfflehebmbaaGreat.Batch Go.Proofs.YtpehfflehebmbaaGreat.Space Go.Proofs.YtpehfflehebmbaaGreat.Reads
theorem sT (l:List Ac):al (l.map Txn.dc)=true:=Av.cU (fun a=>Txn.w7 a) l
def eX (l:List Ac):Nat:=(l.map fun a=>1+a.l.length).sum
theorem iC {l:List Ac} {j:Nat} (h:j<l.length):eX (l.take (j+1))=eX (l.take j)+1+(l.getD j default).l.length:=by
 rw[Av.bt default h,eX,eX,List.map_append,List.sum_append];simp;omega
def uh (l:List Ac) (i:Nat):Bool:=decide (eX (l.take (i+1))≤150)&&decide ((l.getD i default).a.length≤1000)&&decide ((l.getD i default).b.length≤1000)
def ui (l:List Ac):Bool:=(List.range l.length).all (uh l)
set_option maxHeartbeats 2000000 in
theorem zp (l:List Ac) (hl:l.length≤35184372088832) (hv:∀a∈l,a.l.length≤35184372088832):aB Tryz.prog 7 [.sl 5 (l.map Txn.dc) .any] (.bool (ui l)):=by
 refine f7.aJ (by simp) (by simp[al,av,aK,sT]) rfl ?_
 unfold c7
 simp only[C.zz]
 have hil:(l.map Txn.dc).length=l.length:=by simp
 refine rn0 hil ?_
 refine Wp.dW [0] xA6 (fun j:Nat=>[(3,.int .i64 (eX (l.take j):Nat)),(4,.int .i64 (j:Nat))]) (fun j=>j≤l.length∧eX (l.take j)≤150∧∀i,i<j→uh l i=true) (fun j=>l.length - j) 0 ⟨Nat.zero_le _,by simp[eX],fun i h=>absurd h (by omega)⟩ ?_ ?_
 ·simp only[aC,go_sem,reduceIte,Nat.reduceEqDiff,Nat.reduceAdd,bx,List.take_zero,eX,List.map_nil,List.sum_nil,Int.ofNat_zero];and_intros<;>first|exact trivial|exact ab.refl _|exact ab.any _|(refine ab.int ?_;omega)
 rintro j ⟨hj,hcn,hs⟩
 by_cases hcj:j<l.length
 ·obtain ⟨g1,h2,h3,e1⟩:=ixF (j:=j) (n:=l.length) (by omega) (by omega)
  have hat:=dh Txn.dc l j .any hcj
  have no:uh l j=false→ui l=false:=fun h=>by rw[ui,Av.eQ hcj h]
  have def0:uh l j=(decide (eX (l.take (j+1))≤150)&&decide ((l.getD j default).a.length≤1000)&&decide ((l.getD j default).b.length≤1000)):=rfl
  have hsn:=iC hcj
  have hvx:=hv (l.getD j default) (by rw[Av.au hcj];exact List.getElem_mem hcj)
  generalize hC:eX (l.take (j+1))=C at*
  generalize eX (l.take j)=D at*
  generalize l.getD j default=x at*
  have w1:IntKind.i64.wrap ((D:Int)+1)=((D+1:Nat):Int):=by rw[IntWalk.i64_in _ (by omega)];omega
  have w2:IntKind.i64.wrap (((D+1:Nat):Int)+(x.l.length:Int))=(C:Int):=by rw[IntWalk.i64_in _ (by omega)];omega
  by_cases q1:150<(C:Int)
  ·have d1:=decide_eq_true q1
   have hf:=no (by rw[def0,decide_eq_false (show ¬C≤150 by omega)];rfl)
   refine rn0 (gh g1 h2 h3 hat hil @Txn.dc.eq_1 @ao w1 w2 d1) ?_
   refine aM ?_
   rw[hf];exact ab.refl _
  have d1:=decide_eq_false q1
  by_cases q2:1000<(x.a.length:Int)
  ·have d2:=decide_eq_true q2
   have hf:=no (by rw[def0,decide_eq_false (show ¬x.a.length≤1000 by omega)];simp)
   refine rn0 (nZ g1 h2 h3 hat hil @Txn.dc.eq_1 @ao w1 w2 d1 d2) ?_
   refine aM ?_
   rw[hf];exact ab.refl _
  have d2:=decide_eq_false q2
  by_cases q3:1000<(x.b.length:Int)
  ·have d3:=decide_eq_true q3
   have hf:=no (by rw[def0,decide_eq_false (show ¬x.b.length≤1000 by omega)];simp)
   refine rn0 (bN g1 h2 h3 hat hil @Txn.dc.eq_1 @ao w1 w2 d1 d2 d3) ?_
   refine aM ?_
   rw[hf];exact ab.refl _
  have d3:=decide_eq_false q3
  have hyes:uh l j=true:=by
   rw[def0,decide_eq_true (show C≤150 by omega),decide_eq_true (show x.a.length≤1000 by omega),decide_eq_true (show x.b.length≤1000 by omega)];rfl
  refine rn0 (bN g1 h2 h3 hat hil @Txn.dc.eq_1 @ao w1 w2 d1 d2 (cj2 d3 e1)) ?_
  refine ⟨j+1,⟨by omega,by rw[hC];omega,fK hs hyes⟩,by omega,?_⟩
  rw[hC]
  exact xSu
 ·have hje:j=l.length:=by omega
  subst hje
  have g1:=ixE (l.length)
  refine rn0 (cj2 g1 hil) ?_
  refine aM ?_
  rw[ui,Av.eK hs]
  exact ab.refl _
theorem mw (l:List Ac):∀{i j:Nat},i≤j→eX (l.take i)≤eX (l.take j):=by
 intro i j h
 have e:l.take i=(l.take j).take i:=by rw[List.take_take,Nat.min_eq_left h]
 have e2:l.take j=(l.take j).take i++(l.take j).drop i:=(List.take_append_drop _ _).symm
 rw[e,eX,eX]
 conv=>rhs;rw[e2,List.map_append,List.sum_append]
 omega
structure zq (l:List Ac):Prop where
 n:eX l≤150
 a:∀c∈l,c.a.length≤1000
 b:∀c∈l,c.b.length≤1000
theorem zq.len {l:List Ac} (h:zq l):l.length≤150:=by
 have h1:=h.n
 have:∀l:List Ac,l.length≤eX l:=fun l=>by
  induction l with
  |nil=>simp[eX]
  |cons a l ih=>simp only[eX,List.map_cons,List.sum_cons,List.length_cons] at ih ⊢;omega
 have:=this l;omega
theorem vp {l:List Ac} (h:ui l=true):zq l:=by
 have hall:∀i,i<l.length→uh l i=true:=fun i hi=>List.all_eq_true.1 h i (List.mem_range.2 hi)
 have mem:∀a∈l,∃i,i<l.length∧l.getD i default=a:=fun a ha=>by
  obtain ⟨i,hi,rfl⟩:=List.mem_iff_getElem.1 ha
  exact ⟨i,hi,Av.au hi⟩
 have at_:∀i,i<l.length→eX (l.take (i+1))≤150∧(l.getD i default).a.length≤1000∧(l.getD i default).b.length≤1000:=fun i hi=>by
  have:=hall i hi
  simp only[uh,Bool.and_eq_true,decide_eq_true_eq] at this
  exact ⟨this.1.1,this.1.2,this.2⟩
 refine ⟨?_,fun a ha=>?_,fun a ha=>?_⟩
 ·cases hn:l.length with
  |zero=>have:=List.length_eq_zero_iff.1 hn;subst this;simp[eX]
  |succ n=>
   have:=(at_ n (by omega)).1
   rwa [←hn,List.take_length] at this
 ·obtain ⟨i,hi,rfl⟩:=mem a ha;exact (at_ i hi).2.1
 ·obtain ⟨i,hi,rfl⟩:=mem a ha;exact (at_ i hi).2.2
def stS (S:Spc) (c:Ac):Spc:=if c.kind=4 then (bO S (S.last+1) c.l).1 else if c.kind=5 then (bD S c.n).1 else S
def stY (S:Spc) (Y:Tx) (c:Ac):Tx:=
 if c.kind=1 then (ew Y ⟨c.a,[],true⟩).1 else if c.kind=2 then (dT S Y c.a).1 else if c.kind=3 then (cq S Y c.a c.b c.n).1 else
 if c.kind=4∨c.kind=5 then Y else if c.kind=6 then {Y with ended:=true} else if c.kind=7 then (gO Y (pa c Y)).1 else (ew Y ⟨c.a,c.b,false⟩).1
theorem sU {C:List Ch} {c x:Ch} (h:x∈iY C c):x=c∨x∈C:=by
 unfold iY at h
 rcases List.mem_append.1 h with h|h
 ·exact .inr (List.mem_of_mem_take h)
 ·rcases List.mem_cons.1 h with h|h
  ·exact .inl h
  ·exact .inr (List.mem_of_mem_drop h)
theorem Inv.mono {k j:Nat} {S:Spc} {Y:Tx} (h:Inv k S Y) (hk:k≤j):Inv j S Y:=⟨h.fit.mono hk,h.rt,h.tl,h.rC,h.lC,h.kC,h.ck,h.sk,h.ls⟩
theorem Inv.chg {k:Nat} {S:Spc} {Y:Tx} (h:Inv k S Y) (c:Ch):Inv k S (ew Y c).1:=by
 unfold ew
 split
 ·exact h
 ·unfold fF
  split
  ·exact h
  ·rename_i hk
   split
   ·exact h
   ·rename_i hf
    refine ⟨h.fit,h.rt,h.tl,wq h.rC c,?_,fun x hx=>?_,h.ck,h.sk,h.ls⟩
    ·simp only
     rw[rV]
     have:=h.lC
     split
     ·exact this
     ·rename_i ht
      simp only[Bool.not_eq_true] at ht
      have:¬64≤Y.C.length:=fun e=>hf ⟨ht,e⟩
      omega
    ·rcases sU hx with rfl|hx
     ·simpa using hk
     ·exact h.kC x hx
theorem Cn {k:List Bs} {l:List Sp} (hc:bb k l=true) (sk:∀q∈k,q.length≤2000) {q:Bs} (hq:q.length≤2000) (h0:(dF k l q).2.2=0):
  bb (dF k l q).1 (dF k l q).2.1=true∧(∀x∈(dF k l q).1,x.length≤2000)∧(dF k l q).2.1=l:=by
 have hl:=(AO hc q).2 h0
 refine ⟨hl.1,?_,?_⟩
 ·obtain ⟨b1,b2,b3,b4⟩:=cF hc
  obtain ⟨r1,r2⟩:=kx b4
  unfold dF at h0 ⊢
  rw[if_pos hc] at h0 ⊢
  unfold cY at h0 ⊢
  split
  ·intro x hx
   have hx:=(List.mem_filter.1 hx).1
   rcases (nB r1 q x).1 hx with h|h
   ·exact sk x h
   ·rw[h];exact hq
  ·rename_i hn;rw[if_neg hn] at h0;cases h0
 ·unfold dF at h0 ⊢
  rw[if_pos hc] at h0 ⊢
  unfold cY at h0 ⊢
  split
  ·rfl
  ·rename_i hn;rw[if_neg hn] at h0;cases h0
theorem Bm {l:List Sp} (hl:LsS l) (hn:NF l) {x:Sp} (hx:LsP x) (hh:hasB x=true):LsS (cV l x):=by
 have hr:=ue hl hx l.length (Nat.le_refl _)
 rw[List.take_length] at hr
 rw[←u9 hn hh]
 refine LsS.of fun y hy=>?_
 rcases List.mem_append.1 hy with hy|hy
 ·rcases List.mem_append.1 hy with hy|hy
  ·exact hr.a y hy
  ·rw[List.mem_singleton.1 hy];exact hr.x
 ·exact hr.b y hy
theorem zr {ks:List Bs} {l:List Sp} (h0:(cY ks l).2.2=0):(∀x∈(cY ks l).1,x∈ks)∧(cY ks l).2.1=l:=by
 unfold cY at h0 ⊢
 split
 ·exact ⟨fun x hx=>(List.mem_filter.1 hx).1,rfl⟩
 ·rename_i hn;rw[if_neg hn] at h0;cases h0
theorem Bn {k:List Bs} {l:List Sp} (hc:bb k l=true) (sk:∀q∈k,q.length≤2000) (hl:LsS l) {x:Sp} (hx:LsP x) (h0:(bV k l x).2.2=0):
  bb (bV k l x).1 (bV k l x).2.1=true∧(∀q∈(bV k l x).1,q.length≤2000)∧LsS (bV k l x).2.1:=by
 have hlw:=(yQ hc x).2 h0
 obtain ⟨b1,b2,b3,b4⟩:=cF hc
 refine ⟨hlw.1,?_,?_⟩
 ·unfold bV at h0 ⊢
  rw[if_pos hc] at h0 ⊢
  exact fun y hy=>sk y ((zr h0).1 y hy)
 ·unfold bV at h0 ⊢
  rw[if_pos hc] at h0 ⊢
  rw[(zr h0).2]
  cases hh:hasB x with
  |true=>rw[if_pos rfl];exact Bm hl (ly b3) hx hh
  |false=>rw[if_neg (by simp)];exact hl
theorem Inv.get {k:Nat} {S:Spc} {Y:Tx} (h:Inv k S Y) (q:Bs) (hq:q.length≤2000):Inv k S (dT S Y q).1:=by
 unfold dT
 split
 ·exact h
 ·simp only
  unfold fh
  split
  ·split<;>exact h
  ·split
   ·exact h
   ·split
    ·rename_i h0
     obtain ⟨a1,a2,a3⟩:=Cn h.ck h.sk hq h0
     exact ⟨h.fit,h.rt,h.tl,h.rC,h.lC,h.kC,a1,a2,by simp only;rw[a3];exact h.ls⟩
    ·exact h
theorem Inv.dQ {k:Nat} {S:Spc} {Y:Tx} (h:Inv k S Y) (l:List Pr) (a b:Bs) (hab:LsP ⟨a,b⟩):Inv k S (dQ Y l a b).1:=by
 unfold Txn.dQ
 split
 ·rename_i h0
  obtain ⟨a1,a2,a3⟩:=Bn h.ck h.sk h.ls hab h0
  exact ⟨h.fit,h.rt,h.tl,h.rC,h.lC,h.kC,a1,a2,a3⟩
 ·exact h
theorem zt {k:Nat} {S:Spc} {Y:Tx} (h:Inv k S Y):∀p∈dw Y.C (cT S [] [] Y.t),p.k.length≤128:=by
 intro p hp
 rcases (lB Y.C (iv h.fit.ri [] [] Y.t) h.rC p).1 hp with ⟨c,hc,e,-⟩|⟨h1,-⟩
 ·have:=jP (h.kC c hc)
  rw[←e];omega
 ·have h3:=((jL h.fit.ri).1 h1).1
  obtain ⟨x,hx,e⟩:=List.mem_map.1 h3
  rw[←e];exact (h.rt.it x hx).1
theorem xa {l:List Pr} {a b:Bs} {most:Int} {p:Pr} (h:p∈dH l a b most):p∈l:=by
 unfold dH eu at h
 split at h
 ·exact (List.mem_filter.1 h).1
 ·exact (List.mem_filter.1 (List.mem_of_mem_take h)).1
theorem Inv.scan {k:Nat} {S:Spc} {Y:Tx} (h:Inv k S Y) (a b:Bs) (most:Int) (ha:a.length≤2000) (hb:b.length≤2000):Inv k S (cq S Y a b most).1:=by
 rw[mv h.fit.ri h.rC h.tl]
 split
 ·exact h
 ·split
  ·exact h
  ·split
   ·exact h
   ·unfold je
    refine h.dQ _ _ _ ⟨by unfold Ls;simp only;omega,?_⟩
    simp only
    split
    ·unfold Ls
     rw[List.length_append]
     have hk:((dH (dw Y.C (cT S [] [] Y.t)) a b most).getD (most.toNat - 1) default).k.length≤128:=by
      by_cases hi:most.toNat - 1<(dH (dw Y.C (cT S [] [] Y.t)) a b most).length
      ·rw[Av.au hi]
       exact zt h _ (xa (List.getElem_mem hi))
      ·rw[List.getD_eq_getElem?_getD,List.getElem?_eq_none (by omega)]
       simp[show (default:Pr)=⟨[],[]⟩ from rfl]
     simp only[List.length_cons,List.length_nil]
     omega
    ·unfold Ls;omega
theorem Inv.res {k:Nat} {S:Spc} {Y:Tx} (h:Inv k S Y) (l:List Ch):Inv k S (gO Y l).1:=by
 unfold gO
 split
 ·exact h
 ·unfold lL
  split
  ·rename_i hr
   have hall:=iA.1 hr
   have hri:=sM (Nat.le_refl _) hall
   rw[List.take_length] at hri
   refine ⟨h.fit,h.rt,h.tl,hri,?_,fun c hc=>?_,h.ck,h.sk,h.ls⟩
   ·simp only
    rcases Nat.lt_or_ge 64 l.length with h1|h1
    ·have:=(hall 64 h1).2.2.1;omega
    ·exact h1
   ·obtain ⟨i,hi,rfl⟩:=List.getElem_of_mem hc
    have:=(hall i hi).1
    rwa [Av.au hi] at this
  ·exact h
theorem uj (S:Spc) (t:Int) (l:List Ch):S.last≤(bO S t l).1.last:=by
 unfold bO
 split
 ·exact Int.le_refl _
 ·rename_i h
  split
  ·exact Int.le_refl _
  ·simp only;omega
theorem zu (S:Spc) (m:Int):(bD S m).1.last=S.last:=by
 unfold bD
 split
 ·rfl
 ·have:∀(ks:List Bs) (S:Spc),(iw m S ks).last=S.last:=by
   intro ks
   induction ks with
   |nil=>intro S;rfl
   |cons q ks ih=>intro S;simp only[iw,List.foldl_cons] at ih ⊢;rw[ih];first|rfl|(unfold iW;rfl)|(split<;>rfl)
  simp only[this]
theorem Inv.apply {k:Nat} {S:Spc} {Y:Tx} (h:Inv k S Y) (t:Int) (l:List Ch) (hl:∀c∈l,Ls c.k):Inv (k+l.length) (bO S t l).1 Y:=
 ⟨h.fit.apply t l hl,h.rt.apply h.fit t l,Int.le_trans h.tl (uj S t l),h.rC,h.lC,h.kC,h.ck,h.sk,h.ls⟩
theorem Inv.vac {k:Nat} {S:Spc} {Y:Tx} (h:Inv k S Y) (m:Int):Inv k (bD S m).1 Y:=
 ⟨h.fit.vac m,h.rt.vac h.fit m,by rw[zu];exact h.tl,h.rC,h.lC,h.kC,h.ck,h.sk,h.ls⟩
theorem Inv.step {k:Nat} {S:Spc} {Y:Tx} (h:Inv k S Y) (c:Ac) (ha:c.a.length≤2000) (hb:c.b.length≤2000) (hl:∀x∈c.l,Ls x.k):Inv (k+1+c.l.length) (stS S c) (stY S Y c):=by
 unfold stS stY
 by_cases h4:c.kind=4
 ·rw[if_pos h4,if_neg (by omega),if_neg (by omega),if_neg (by omega),if_pos (.inl h4)]
  exact (h.apply _ _ hl).mono (by omega)
 rw[if_neg h4]
 by_cases h5:c.kind=5
 ·rw[if_pos h5,if_neg (by omega),if_neg (by omega),if_neg (by omega),if_pos (.inr h5)]
  exact (h.vac _).mono (by omega)
 rw[if_neg h5]
 refine Inv.mono (k:=k) ?_ (by omega)
 split
 ·exact h.chg _
 ·split
  ·exact h.get _ ha
  ·split
   ·exact h.scan _ _ _ ha hb
   ·rw[if_neg (by omega)]
    split
    ·exact ⟨h.fit,h.rt,h.tl,h.rC,h.lC,h.kC,h.ck,h.sk,h.ls⟩
    ·split
     ·exact h.res _
     ·exact h.chg _
end Go.Proofs.YtpehfflehebmbaaGreat.Txn
end
section
set_option maxRecDepth 100000
namespace Go.Proofs.YtpehfflehebmbaaGreat.Txn
open Go Go.Av Go.Proofs Go.Proofs.YtpehfflehebmbaaGreat.C
end Go.Proofs.YtpehfflehebmbaaGreat.Txn
end
section
set_option maxRecDepth 10000
namespace Go.Proofs.YtpehfflehebmbaaGreat.Txn
open Go Go.Av Go.Proofs Go.Proofs.YtpehfflehebmbaaGreat.C Go.Proofs.YtpehfflehebmbaaGreat.Batch Go.Proofs.YtpehfflehebmbaaGreat.Space Go.Proofs.YtpehfflehebmbaaGreat.Reads
def zy (t:Int):AV:= .agg [.int .i64 t,.sl 3 [] (.exact 0),.sl 1 [] (.exact 0),.sl 2 [] (.exact 0),.bool false]
theorem zB (S:Spc) (sm:lX S) (t:Int):aB Tryz.prog 31 [du S,.int .i64 t] (.tup [zy (if cB S t=0 then t else 0),.int .i64 (cB S t)]):=by
 refine f31.aJ (by simp) (by simp[al,av,dd]) (by simp[zy,av,al,aK]) ?_
 unfold c31
 simp only[C.zz]
 have lk:=yJ S sm [] t
 by_cases hb:cB S t=0
 ·have h7:∀e:Int,(dS S [] t).2=e→(decide (e=0)=true∨(decide (e=0)=false∧decide (e=7)=true)):=fun e h=>by
   subst h
   rw[dS,if_pos hb]
   split
   ·exact .inl rfl
   ·exact .inr ⟨rfl,rfl⟩
  unfold du at lk ⊢
  generalize hv:(dS S [] t).1=v at*
  generalize hw:(dS S [] t).2=e at*
  rw[if_pos hb,hb]
  rcases h7 e rfl with d1|⟨d1,d2⟩
  ·refine rn1 d1 lk ?_
   refine aM ?_
   exact ab.refl _
  ·refine rn1 (cj2 d1 d2) lk ?_
   refine aM ?_
   exact ab.refl _
 ·rw[dS,if_neg hb] at lk
  have d1:=decide_eq_false hb
  have d2:decide (cB S t=7)=false:=decide_eq_false (by unfold cB;split<;>(try split)<;>decide)
  rw[if_neg hb]
  unfold du at lk ⊢
  refine rn1 (cj2 d1 d2) lk ?_
  refine aM ?_
  exact ab.refl _
end Go.Proofs.YtpehfflehebmbaaGreat.Txn
end
section
set_option maxRecDepth 10000
namespace Go.Av
theorem On.perm {l0 L L':List Fr} {n0 m0 n m:Nat} {T:List Nat} (a:On l0 n0 m0 L n T m) (h:List.Perm L L'):On l0 n0 m0 L' n T m:=by
 have ok':Ok L' n T m:=⟨fun F hF=>a.ok.bd F (h.mem_iff.2 hF),h.pairwise a.ok.dj (fun hxy j=>(hxy j).symm),fun t ht=>a.ok.tk t (by
  obtain ⟨F,hF,h2⟩:=List.mem_flatMap.1 ht
  exact List.mem_flatMap.2 ⟨F,h.mem_iff.2 hF,h2⟩),h.pairwise a.ok.td (fun {x y} hxy t h1 h2=>hxy t h2 h1),a.ok.tb⟩
 have hlay:∀j,lay L' j=none∨(lay L j).isSome=true:=fun j=>by
  cases e:lay L' j with
  |none=>exact .inl rfl
  |some o=>
   right
   cases e2:lay L j with
   |some _=>rfl
   |none=>
    have:=cy.1 e2
    rw[cy.2 fun F hF=>this F (h.mem_iff.2 hF)] at e
    cases e
 refine a.step ⟨Nat.le_refl _,Nat.le_refl _,ok',fun j=>?_,fun t ht=> .inl ?_⟩
 ·rcases hlay j with h|h
  ·exact .inr (.inr h)
  ·exact .inr (.inl h)
 ·obtain ⟨F,hF,h2⟩:=List.mem_flatMap.1 ht
  exact List.mem_flatMap.2 ⟨F,h.mem_iff.2 hF,h2⟩
theorem oV {L L':List Fr} {n m i:Nat} {T:List Nat} {o o':Obj} (ok:Ok L n T m) (hi:ob i o∈L) (hs:bW o o') (h:∀G∈L',G=ob i o'∨G∈L):OLe (lay L) (lay L'):=fun j p hj=>by
 have:∃G∈L',G.o j=some p:=by
  clear h ok
  induction L' with
  |nil=>cases hj
  |cons G L' ih=>
   rw[cM] at hj
   cases e:G.o j with
   |some o'=>
    rw[e] at hj
    simp only[Option.some_or,Option.some.injEq] at hj
    exact ⟨G,by simp,by rw[e,hj]⟩
   |none=>
    rw[e] at hj
    simp only[Option.none_or] at hj
    obtain ⟨G',h1,h2⟩:=ih hj
    exact ⟨G',by simp[h1],h2⟩
 obtain ⟨G,h1,h2⟩:=this
 rcases h G h1 with rfl|h3
 ·rw[aY] at h2
  split at h2
  ·rename_i e;subst e;cases h2
   exact ⟨o,ok.sub hi j o (by simp[aY]),hs⟩
  ·cases h2
 ·exact ⟨p,ok.sub h3 j p h2,bW.refl _⟩
end Go.Av
namespace Go.Proofs.YtpehfflehebmbaaGreat.Txn
open Go Go.Av Go.Proofs Go.Proofs.YtpehfflehebmbaaGreat.C Go.Proofs.YtpehfflehebmbaaGreat.Batch Go.Proofs.YtpehfflehebmbaaGreat.Space Go.Proofs.YtpehfflehebmbaaGreat.Reads
theorem xb {N:Nat} {dst:Option Nat} {g:Option (Nat × Bool)} {l:List Opd} {its:List aQ} {t:Tm} {log:List Ent} {K:Tm→H→List Ent→Prop} {s w x k:Nat} {S:Spc} {F FS:Fr} {Y:Tx} (A:List Fr) {n m:Nat} {T:List Nat} {c:Ac}
  (hg:guardOf t g=some true) (hs:af (l.map (ev t)) [.ptr w 0,Txn.dc c]) (hF:TxF x s Y F) (hS:cQ s S FS) (hI:Inv k S Y) (hl:k+c.l.length+1≤400000) (ha:c.a.length≤1000) (hb:c.b.length≤1000) (hlc:∀y∈c.l,Ls y.k)
  (ok:Ok (A++[F,FS,ob w (wO s S (.ptr x 0) Y)]) n T m)
  (rest:∀F' FS' n' T' m' ids tk,TxF x s (stY S Y c) F'→cQ s (stS S c) FS'→On (A++[F,FS,ob w (wO s S (.ptr x 0) Y)]) n m (A++[F',FS',ob w (wO s (stS S c) (.ptr x 0) (stY S Y c))]) n' T' m'→
   aa Tryz.prog N its (cO t dst (.bool true)) ⟨lay (A++[F',FS',ob w (wO s (stS S c) (.ptr x 0) (stY S Y c))]),n',T',m'⟩ (⟨[],ids,tk⟩::log) K):
  aa Tryz.prog N (⟨dst,g,.call 10 l⟩::its) t ⟨lay (A++[F,FS,ob w (wO s S (.ptr x 0) Y)]),n,T,m⟩ log K:=by
 have la:Ls c.a:=by unfold Ls;omega
 have lb:Ls c.b:=by unfold Ls;omega
 have all:∀(c1:stS S c=S),(aL Tryz.prog 10 [.ptr w 0,Txn.dc c] [F,FS,ob w (wO s S (.ptr x 0) Y)] fun r L=>r= .bool true∧∃F',L=[F',FS,ob w (wO s S (.ptr x 0) (stY S Y c))]∧TxF x s (stY S Y c) F')→
   aa Tryz.prog N (⟨dst,g,.call 10 l⟩::its) t ⟨lay (A++[F,FS,ob w (wO s S (.ptr x 0) Y)]),n,T,m⟩ log K:=fun c1 hc=>by
  have ok':Ok (A++[F,FS,ob w (wO s S (.ptr x 0) Y)]++[]) n T m:=by rw[List.append_nil];exact ok
  have:=aa.bY (P:=Tryz.prog) (N:=N) (dst:=dst) (its:=its) (log:=log) (K:=K) A [F,FS,ob w (wO s S (.ptr x 0) Y)] [] hg hs hc ok' fun r G' n' T' m' ids hq on hids=>?_
  ·rw[List.append_nil] at this;exact this
  ·obtain ⟨rfl,F',rfl,hF'⟩:=hq
   rw[List.append_nil,List.append_nil] at on
   rw[List.append_nil]
   have hS':cQ s (stS S c) FS:=by rw[c1];exact hS
   have:=fun tk=>rest F' FS n' T' m' ids tk hF' hS' (by rw[c1];exact on)
   rw[c1] at this
   exact this _
 have two:∀(c1:stY S Y c=Y),(aL Tryz.prog 10 [.ptr w 0,Txn.dc c] [FS,ob w (wO s S (.ptr x 0) Y)] fun r L=>r= .bool true∧∃FS',L=[FS',ob w (wO s (stS S c) (.ptr x 0) Y)]∧cQ s (stS S c) FS')→
   aa Tryz.prog N (⟨dst,g,.call 10 l⟩::its) t ⟨lay (A++[F,FS,ob w (wO s S (.ptr x 0) Y)]),n,T,m⟩ log K:=fun c1 hc=>by
  have e:∀X:List Fr,A++F::X=A++[F]++X++[]:=fun X=>by simp
  have ok':Ok (A++[F]++[FS,ob w (wO s S (.ptr x 0) Y)]++[]) n T m:=by rw[←e];exact ok
  have:=aa.bY (P:=Tryz.prog) (N:=N) (dst:=dst) (its:=its) (log:=log) (K:=K) (A++[F]) [FS,ob w (wO s S (.ptr x 0) Y)] [] hg hs hc ok' fun r G' n' T' m' ids hq on hids=>?_
  ·rw[←e] at this;exact this
  ·obtain ⟨rfl,FS',rfl,hS'⟩:=hq
   rw[←e,←e] at on
   rw[←e]
   have hF':TxF x s (stY S Y c) F:=by rw[c1];exact hF
   have:=fun tk=>rest F FS' n' T' m' ids tk hF' hS' (by rw[c1];exact on)
   rw[c1] at this
   exact this _
 by_cases k1:c.kind=1
 ·have e1:stS S c=S:=by rw[stS,if_neg (by omega),if_neg (by omega)]
  have e2:stY S Y c=(ew Y ⟨c.a,[],true⟩).1:=by rw[stY,if_pos k1]
  exact all e1 (by rw[e2];exact Bg hF hS hI c k1 (by omega) la)
 by_cases k2:c.kind=2
 ·have e1:stS S c=S:=by rw[stS,if_neg (by omega),if_neg (by omega)]
  have e2:stY S Y c=(dT S Y c.a).1:=by rw[stY,if_neg k1,if_pos k2]
  exact all e1 (by rw[e2];exact Bh hF hS hI c k2 (by omega) la)
 by_cases k3:c.kind=3
 ·have e1:stS S c=S:=by rw[stS,if_neg (by omega),if_neg (by omega)]
  have e2:stY S Y c=(cq S Y c.a c.b c.n).1:=by rw[stY,if_neg k1,if_neg k2,if_pos k3]
  exact all e1 (by rw[e2];exact Bi hF hS hI c k3 (by omega) la lb)
 by_cases k4:c.kind=4
 ·have e1:stS S c=(bO S (S.last+1) c.l).1:=by rw[stS,if_pos k4]
  have e2:stY S Y c=Y:=by rw[stY,if_neg k1,if_neg k2,if_neg k3,if_pos (.inl k4)]
  exact two e2 (by rw[e1];exact vn hS hI.fit hI.rt c k4 (by omega))
 by_cases k5:c.kind=5
 ·have e1:stS S c=(bD S c.n).1:=by rw[stS,if_neg k4,if_pos k5]
  have e2:stY S Y c=Y:=by rw[stY,if_neg k1,if_neg k2,if_neg k3,if_pos (.inr k5)]
  exact two e2 (by rw[e1];exact vo hS hI.fit hI.rt c k5 (by omega))
 have e1:stS S c=S:=by rw[stS,if_neg k4,if_neg k5]
 by_cases k6:c.kind=6
 ·have e2:stY S Y c= {Y with ended:=true}:=by rw[stY,if_neg k1,if_neg k2,if_neg k3,if_neg (by omega),if_pos k6]
  exact all e1 (by rw[e2];exact Bj (k:=0) hF hS c k6)
 by_cases k7:c.kind=7
 ·have e2:stY S Y c=(gO Y (pa c Y)).1:=by rw[stY,if_neg k1,if_neg k2,if_neg k3,if_neg (by omega),if_neg k6,if_pos k7]
  exact all e1 (by rw[e2];exact Bl hF hS hI c k7 (by omega) la hlc)
 have e2:stY S Y c=(ew Y ⟨c.a,c.b,false⟩).1:=by rw[stY,if_neg k1,if_neg k2,if_neg k3,if_neg (by omega),if_neg k6,if_neg k7]
 exact all e1 (by rw[e2];exact Bk hF hS hI c (by omega) (by omega) la)
end Go.Proofs.YtpehfflehebmbaaGreat.Txn
end
section
set_option maxRecDepth 10000
namespace Go.Proofs.YtpehfflehebmbaaGreat.Reads
open Go Go.Av Go.Proofs Go.Proofs.YtpehfflehebmbaaGreat.C Go.Proofs.YtpehfflehebmbaaGreat.Batch
theorem sV:∀{k m:List Bs},bE k→bE m→(∀q,q∈k↔q∈m)→k=m
 |[],[],_,_,_=>rfl
 |[],b::m,_,_,h=>by have:=(h b).2 (by simp);cases this
 |a::k,[],_,_,h=>by have:=(h a).1 (by simp);cases this
 |a::k,b::m,hk,hm,h=>by
  have hk':=List.pairwise_cons.1 hk
  have hm':=List.pairwise_cons.1 hm
  have e:a=b:=by
   have h1:=(h a).1 (by simp)
   have h2:=(h b).2 (by simp)
   rcases List.mem_cons.1 h1 with h1|h1
   ·exact h1
   ·rcases List.mem_cons.1 h2 with h2|h2
    ·exact h2.symm
    ·have x1:=hm'.1 a h1
     have x2:=hk'.1 b h2
     rw[gH x1] at x2;cases x2
  subst e
  have hr:∀q,q∈k↔q∈m:=by
   intro q
   constructor
   ·intro hq
    rcases List.mem_cons.1 ((h q).1 (List.mem_cons_of_mem _ hq)) with e|e
    ·subst e;have:=hk'.1 q hq;rw[aW] at this;cases this
    ·exact e
   ·intro hq
    rcases List.mem_cons.1 ((h q).2 (List.mem_cons_of_mem _ hq)) with e|e
    ·subst e;have:=hm'.1 q hq;rw[aW] at this;cases this
    ·exact e
  rw[sV hk'.2 hm'.2 hr]
theorem zC {l:List Sp} (h:NF l) (x:Sp):NF (if hasB x=true then cV l x else l)∧∀q,aE (if hasB x=true then cV l x else l) q=(eD x q||aE l q):=by
 cases hh:hasB x with
 |true=>rw[if_pos rfl];exact ⟨(nw h hh).1,(nw h hh).2.1⟩
 |false=>rw[if_neg (by simp)];exact ⟨h,fun q=>by rw[yP hh,Bool.false_or]⟩
theorem sW {k k':List Bs} {l l':List Sp} {x:Sp} (hc:bb k l=true) (hc':bb k' l'=true) (hs:∀q,aE l' q=(eD x q||aE l q)) (hk:(k.filter fun q=> !aE l' q)=k'):bV k l x=(k',l',0):=by
 obtain ⟨b1,b2,b3,b4⟩:=cF hc
 obtain ⟨c1,c2,c3,c4⟩:=cF hc'
 have hl:=zC (ly b3) x
 have e:(if hasB x=true then cV l x else l)=l':=BD hl.1 (ly c3) fun q=>by rw[hl.2,hs]
 unfold bV
 rw[if_pos hc,e,cY,hk,decide_eq_true c1,decide_eq_true c2]
 rfl
theorem gW {k:List Bs} {l:List Sp} (hc:bb k l=true):(k.filter fun q=> !aE l q)=k:=by
 obtain ⟨b1,b2,b3,b4⟩:=cF hc
 rw[List.filter_eq_self]
 intro q hq
 rw[(kx b4).2 q hq];rfl
theorem uk {k:List Bs} {l:List Sp} {x:Sp} (hc:bb k l=true) (hs:∀q,eD x q=true→aE l q=true):bV k l x=(k,l,0):=by
 refine sW hc hc (fun q=>?_) (gW hc)
 cases hw:eD x q with
 |false=>rfl
 |true=>rw[hs q hw];rfl
theorem sX {k:List Bs} {l:List Sp} {x:Sp} (hc:bb k l=true) (hx:x∈l):bV k l x=(k,l,0):=
 uk hc fun q hq=>List.any_eq_true.2 ⟨x,hx,hq⟩
theorem vq {k k':List Bs} {l:List Sp} {q:Bs} (hc:bb k l=true) (hc':bb k' l=true) (hm:∀x,x∈k'↔(x∈k∨x=q)∧aE l x=false):dF k l q=(k',l,0):=by
 obtain ⟨b1,b2,b3,b4⟩:=cF hc
 obtain ⟨c1,c2,c3,c4⟩:=cF hc'
 have hr:=(kx b4).1
 have e:((ja k q).filter fun x=> !aE l x)=k':=by
  refine sV (List.Pairwise.sublist List.filter_sublist (sA hr q)) (kx c4).1 fun x=>?_
  rw[hm,List.mem_filter,nB hr]
  simp
 unfold dF
 rw[if_pos hc,cY,e,decide_eq_true c1,decide_eq_true c2]
 rfl
theorem vr {k:List Bs} {l:List Sp} {q:Bs} (hc:bb k l=true) (hq:q∈k):dF k l q=(k,l,0):=by
 refine vq hc hc fun x=>⟨fun h=>⟨.inl h,(kx (cF hc).2.2.2).2 x h⟩,fun h=>?_⟩
 rcases h.1 with h1|rfl
 ·exact h1
 ·exact hq
theorem kk {k k1:List Bs} {l l1:List Sp} (h:bb k l=true) (hk:k1.Sublist k) (hl:l1.Sublist l):bb k1 l1=true:=by
 obtain ⟨b1,b2,b3,b4⟩:=cF h
 have hn:=ly b3
 obtain ⟨r1,r2⟩:=kx b4
 have h1:NF l1:=⟨fun s hs=>hn.1 s (hl.subset hs),hn.2.sublist hl⟩
 have h2:∀x∈k1,aE l1 x=false:=fun x hx=>by
  have:=r2 x (hk.subset hx)
  rw[aE,List.any_eq_false] at this ⊢
  exact fun s hs=>this s (hl.subset hs)
 have e1:=hk.length_le
 have e2:=hl.length_le
 simp only[bb,BC h1,u5 (r1.sublist hk) h2,Bool.and_true,Bool.and_eq_true,decide_eq_true_eq]
 omega
end Go.Proofs.YtpehfflehebmbaaGreat.Reads
namespace Go.Proofs.YtpehfflehebmbaaGreat.Txn
open Go Go.Av Go.Proofs Go.Proofs.YtpehfflehebmbaaGreat.C Go.Proofs.YtpehfflehebmbaaGreat.Batch Go.Proofs.YtpehfflehebmbaaGreat.Space Go.Proofs.YtpehfflehebmbaaGreat.Reads
theorem vt {S:Spc} (hR:Rt S) {t:Int} (ht:t≤S.last) {q:Bs} (h:iU (aX S.L q) t=false):atB (aX S.L q) S.last=atB (aX S.L q) t:=by
 have hc:=oP (fun p hp=>(hR.it p hp).2.1) q
 unfold iU at h
 rw[hc,Bool.true_and,decide_eq_false_iff_not] at h
 have h2:=za (v:=aX S.L q) ht
 have e1:plc (aX S.L q) t=0:=by omega
 have e2:plc (aX S.L q) S.last=0:=by omega
 unfold atB
 rw[e1,e2]
theorem qc {S:Spc} {a b:Bs} {t:Int} (h:eE S a b t=false):∀q∈ca (ae S.L) a b,iU (aX S.L q) t=false:=fun q hq=>by
 rw[eE,List.any_eq_false] at h
 simpa using h q hq
theorem sY {α β:Type} {f g:α→Option β}:∀{l:List α},(∀x∈l,f x=g x)→l.filterMap f=l.filterMap g
 |[],_=>rfl
 |x::l,h=>by
  rw[List.filterMap_cons,List.filterMap_cons,h x (by simp),sY fun y hy=>h y (by simp[hy])]
theorem zI {S:Spc} (hR:Rt S) {t:Int} (ht:t≤S.last) {a b:Bs} (h:eE S a b t=false):cT S a b S.last=cT S a b t:=by
 unfold cT
 refine sY fun q hq=>?_
 unfold dE
 rw[vt hR ht (qc h q hq)]
theorem zJ {S:Spc} (hr:bk S.L) (hR:Rt S) {t:Int} (hm:S.mark≤t) (ht:t≤S.last) {q:Bs} (h:eE S q (q++[0]) t=false):dS S q S.last=dS S q t:=by
 have h1:atB (aX S.L q) S.last=atB (aX S.L q) t:=by
  by_cases hk:q∈ae S.L
  ·refine vt hR ht (qc h q ((oE hr).2 ⟨hk,?_⟩))
   have:=p8 q q
   rw[decide_eq_true rfl,Bool.and_eq_true] at this
   rw[inR,this.1,this.2];simp
  ·rw[fD q S.L hk,y9,y9]
 have k1:cB S t=0:=Space.fT.2 ⟨hm,ht⟩
 have k2:cB S S.last=0:=Space.fT.2 ⟨by omega,Int.le_refl _⟩
 unfold dS
 rw[k1,k2,h1]
theorem xc {S:Spc} {Y:Tx} (hc:bb Y.rk Y.rs=true) (he:Y.ended=false) (hm:S.mark≤Y.t) (ht:Y.t≤S.last) {q:Bs} (hq:q∈Y.rk):(dT S Y q).1=Y:=by
 unfold dT
 rw[he]
 simp only[Bool.false_eq_true,if_false]
 unfold fh
 split
 ·split<;>rfl
 ·split
  ·rfl
  ·rw[vr hc hq];simp
theorem um {S:Spc} {Y:Tx} (hc:bb Y.rk Y.rs=true) (he:Y.ended=false) {s:Sp} (hs:s∈Y.rs):(cq S Y s.f s.t (-1)).1=Y:=by
 unfold cq
 rw[he]
 simp only[Bool.false_eq_true,if_false]
 unfold fR
 split
 ·rfl
 ·unfold ji
  rw[if_neg (by omega)]
  unfold dQ
  rw[sX hc hs]
  simp
end Go.Proofs.YtpehfflehebmbaaGreat.Txn
end
section
set_option maxRecDepth 10000
namespace Go.Proofs.YtpehfflehebmbaaGreat.Txn
open Go Go.Av Go.Proofs Go.Proofs.YtpehfflehebmbaaGreat.C Go.Proofs.YtpehfflehebmbaaGreat.Batch Go.Proofs.YtpehfflehebmbaaGreat.Space Go.Proofs.YtpehfflehebmbaaGreat.Reads
theorem my (S:Spc) (Y:Tx) (q:Bs):(dT S Y q).1.C=Y.C∧(dT S Y q).1.t=Y.t∧(dT S Y q).1.ended=Y.ended:=by
 unfold dT
 split
 ·exact ⟨rfl,rfl,rfl⟩
 ·simp only
  unfold fh
  split
  ·split<;>exact ⟨rfl,rfl,rfl⟩
  ·split
   ·exact ⟨rfl,rfl,rfl⟩
   ·split<;>exact ⟨rfl,rfl,rfl⟩
theorem uo (Y:Tx) (l:List Pr) (a b:Bs):(dQ Y l a b).1.C=Y.C∧(dQ Y l a b).1.t=Y.t∧(dQ Y l a b).1.ended=Y.ended:=by
 unfold dQ
 split<;>exact ⟨rfl,rfl,rfl⟩
theorem kS (S:Spc) (Y:Tx) (a b:Bs) (most:Int):(cq S Y a b most).1.C=Y.C∧(cq S Y a b most).1.t=Y.t∧(cq S Y a b most).1.ended=Y.ended:=by
 unfold cq
 split
 ·exact ⟨rfl,rfl,rfl⟩
 ·simp only
  unfold fR
  split
  ·exact ⟨rfl,rfl,rfl⟩
  ·generalize (if b=[]∨Op.bytesLess a b=true then gJ Y.C (cn S a b Y.t (-1)).1 a b else (cn S a b Y.t (-1)).1)=L
   unfold ji
   split<;>exact uo _ _ _ _
theorem km (Y:Tx) (c:Ch):(ew Y c).1.t=Y.t∧(ew Y c).1.ended=Y.ended:=by
 unfold ew;split<;>exact ⟨rfl,rfl⟩
theorem qd (Y:Tx) (l:List Ch):(gO Y l).1.t=Y.t∧(gO Y l).1.ended=Y.ended:=by
 unfold gO
 split
 ·exact ⟨rfl,rfl⟩
 ·unfold lL;split<;>exact ⟨rfl,rfl⟩
theorem Dm (S:Spc) (Y:Tx) (c:Ac):(stY S Y c).t=Y.t:=by
 unfold stY
 split
 ·exact (km _ _).1
 ·split
  ·exact (my _ _ _).2.1
  ·split
   ·exact (kS _ _ _ _ _).2.1
   ·split
    ·rfl
    ·split
     ·rfl
     ·split
      ·exact (qd _ _).1
      ·exact (km _ _).1
theorem xd (S:Spc) (Y:Tx) (c:Ac) (h6:c.kind≠6):(stY S Y c).ended=Y.ended:=by
 unfold stY
 split
 ·exact (km _ _).2
 ·split
  ·exact (my _ _ _).2.2
  ·split
   ·exact (kS _ _ _ _ _).2.2
   ·split
    ·rfl
    ·try rw[if_neg h6]
     split
     ·exact (qd _ _).2
     ·exact (km _ _).2
theorem uq (S:Spc) (t:Int) (l:List Ch):(bO S t l).1.mark=S.mark:=by
 have:∀(l:List Ch) (S:Spc),(doS t S l).mark=S.mark:=by
  intro l
  induction l with
  |nil=>intro S;rfl
  |cons c l ih=>intro S;simp only[doS,List.foldl_cons] at ih ⊢;rw[ih];first|rfl|(unfold Space.cb;first|rfl|(unfold iW;rfl))
 unfold bO
 split
 ·rfl
 ·split
  ·rfl
  ·exact this l S
theorem zQ (S:Spc) (c:Ac) (h5:c.kind≠5):(stS S c).mark=S.mark:=by
 unfold stS
 split
 ·exact uq _ _ _
 ·first|rfl|(rw [if_neg h5])
def DV (C:List Ch):Prop:=∀c∈C,c.d=true→c.v=[]
theorem DV.chg {Y:Tx} (h:DV Y.C) {c:Ch} (hc:c.d=true→c.v=[]):DV (ew Y c).1.C:=by
 unfold ew
 split
 ·exact h
 ·unfold fF
  split
  ·exact h
  ·split
   ·exact h
   ·intro x hx
    rcases sU hx with rfl|hx
    ·exact hc
    ·exact h x hx
theorem DV.step {S:Spc} {Y:Tx} (h:DV Y.C) (c:Ac):DV (stY S Y c).C:=by
 unfold stY
 split
 ·exact h.chg fun _=>rfl
 ·split
  ·rw[(my _ _ _).1];exact h
  ·split
   ·rw[(kS _ _ _ _ _).1];exact h
   ·split
    ·exact h
    ·split
     ·exact h
     ·split
      ·unfold gO
       split
       ·exact h
       ·unfold lL
        split
        ·rename_i hr
         have hall:=iA.1 hr
         intro x hx hd
         obtain ⟨i,hi,rfl⟩:=List.getElem_of_mem hx
         have:=(hall i hi).2.1
         rw[Av.au hi] at this
         exact Classical.byContradiction fun e=>this ⟨hd,e⟩
        ·exact h
      ·exact h.chg fun e=>by cases e
theorem sZ {S:Spc} {Y:Tx} (hc:bb Y.rk Y.rs=true) (h:jd S Y=false):(∀q∈Y.rk,eE S q (q++[0]) Y.t=false)∧∀s∈Y.rs,eE S s.f s.t Y.t=false:=by
 unfold jd at h
 rw[Bool.or_eq_false_iff] at h
 have h2:=h.2
 unfold jc at h2
 rw[hc,Bool.true_and,Bool.or_eq_false_iff,List.any_eq_false,List.any_eq_false] at h2
 exact ⟨fun q hq=>by simpa using h2.1 q hq,fun s hs=>by simpa using h2.2 s hs⟩
theorem Bo {k:List Bs} {q:Bs} (h:∀x∈k,Lt x q):plK k q=k.length:=by
 unfold plK
 rw[List.findIdx_eq_length]
 intro x hx
 have:=h x hx
 unfold Lt at this
 simp[this]
theorem xe {C:List Ch} {c:Ch} (h:∀x∈C,Lt x.k c.k):iY C c=C++[c]:=by
 have e:plK (ah C) c.k=C.length:=by
  rw[Bo,bq]
  intro x hx
  obtain ⟨y,hy,rfl⟩:=List.mem_map.1 hx
  exact h y hy
 have th:thK (ah C) c.k=false:=by rw[thK,e];simp[bq]
 rw[iY,e,th];simp
theorem zR {Y:Tx} {C:List Ch} (hr:Space.bE (ah C)) (hl:C.length≤64) (hk:∀c∈C,cE c=true) {i:Nat} (hi:i<C.length) (hY:Y.C=C.take i) (he:Y.ended=false):
  ew Y (C.getD i default)=({Y with C:=C.take (i+1)},0):=by
 have hlt:∀x∈C.take i,Lt x.k (C.getD i default).k:=fun x hx=>by
  obtain ⟨j,hj,rfl⟩:=List.getElem_of_mem hx
  rw[List.length_take] at hj
  have hji:j<i:=by omega
  have:=List.pairwise_iff_getElem.1 hr j i (by rw[bq];omega) (by rw[bq];omega) hji
  rw[List.getElem_take,Av.au hi]
  simpa [ah] using this
 have hki:cE (C.getD i default)=true:=hk _ (by rw[Av.au hi];exact List.getElem_mem hi)
 have hle:(C.take i).length=i:=by rw[List.length_take];omega
 have hsl:=xe hlt
 unfold ew fF
 rw[he,hY,hki]
 simp only[Bool.false_eq_true,if_false,Bool.true_eq_false]
 rw[if_neg (by omega),hsl,←Av.bt default hi]
def kkS (C:List Ch) (k:List Bs) (i:Nat):List Bs:=(k.take i).filter fun q=>(bU C q).isNone
theorem zS {C:List Ch} {k:List Bs} {i:Nat} (h:i<k.length):kkS C k (i+1)=if (bU C (k.getD i [])).isNone=true then kkS C k i++[k.getD i []] else kkS C k i:=by
 unfold kkS
 rw[Av.bt [] h,List.filter_append]
 generalize k.getD i []=q
 cases hh:(bU C q).isNone<;>simp[List.filter,hh]
theorem nD (C:List Ch) (k:List Bs) (i:Nat):(kkS C k i).Sublist k:=List.filter_sublist.trans (List.take_sublist _ _)
theorem ur {S:Spc} {Y:Tx} (hr:bk S.L) (hR:Rt S) (hm:S.mark≤Y.t) (ht:Y.t≤S.last) (hc:bb Y.rk Y.rs=true) (he:Y.ended=false) (hst:jd S Y=false) {i:Nat} (hi:i<Y.rk.length):
  dT S ⟨S.last,Y.C,kkS Y.C Y.rk i,[],false⟩ (Y.rk.getD i [])=(⟨S.last,Y.C,kkS Y.C Y.rk (i+1),[],false⟩,(dT S Y (Y.rk.getD i [])).2.1,(dT S Y (Y.rk.getD i [])).2.2):=by
 have hq:Y.rk.getD i []∈Y.rk:=by rw[Av.au hi];exact List.getElem_mem hi
 have hsn:=zS (C:=Y.C) hi
 have hgs:=zJ hr hR hm ht ((sZ hc hst).1 _ hq)
 have hkm:=vr hc hq
 have h12:∀{q:Bs} {t:Int},S.mark≤t→t≤S.last→¬(dS S q t).2=12:=fun h1 h2 e=>by
  rw[ve h2] at e;omega
 have hno:=h12 (q:=Y.rk.getD i []) hm ht
 generalize hQ:Y.rk.getD i []=q at*
 unfold dT fh
 rw[he]
 simp only[Bool.false_eq_true,if_false]
 cases ho:bU Y.C q with
 |some c=>
  rw[ho] at hsn
  simp only[Option.isNone_some,Bool.false_eq_true,if_false] at hsn
  rw[hsn]
  cases hd:c.d<;>simp[hd]
 |none=>
  rw[ho] at hsn
  simp only[Option.isNone_none,if_true] at hsn
  have hks:dF (kkS Y.C Y.rk i) [] q=(kkS Y.C Y.rk (i+1),[],0):=by
   refine vq (kk hc (nD _ _ _) (List.nil_sublist _)) (kk hc (nD _ _ _) (List.nil_sublist _)) fun x=>?_
   rw[hsn,List.mem_append,List.mem_singleton,fQ]
   simp
  simp only[hgs,hno,if_false,hks,hkm,if_true]
theorem s0 {S:Spc} {Y:Tx} (hr:bk S.L) (hR:Rt S) (hm:S.mark≤Y.t) (ht:Y.t≤S.last) (hc:bb Y.rk Y.rs=true) (he:Y.ended=false) (hst:jd S Y=false) {i:Nat} (hi:i<Y.rs.length):
  cq S ⟨S.last,Y.C,kkS Y.C Y.rk Y.rk.length,Y.rs.take i,false⟩ (Y.rs.getD i default).f (Y.rs.getD i default).t (-1)=(⟨S.last,Y.C,kkS Y.C Y.rk Y.rk.length,Y.rs.take (i+1),false⟩,(cq S Y (Y.rs.getD i default).f (Y.rs.getD i default).t (-1)).2.1,(cq S Y (Y.rs.getD i default).f (Y.rs.getD i default).t (-1)).2.2):=by
 have hq:Y.rs.getD i default∈Y.rs:=by rw[Av.au hi];exact List.getElem_mem hi
 have hsn:=Av.bt (l:=Y.rs) default hi
 have hal:=zI hR ht ((sZ hc hst).2 _ hq)
 have hsm:=sX hc hq
 have c1:bb (kkS Y.C Y.rk Y.rk.length) (Y.rs.take i)=true:=kk hc (nD _ _ _) (List.take_sublist _ _)
 have c2:bb (kkS Y.C Y.rk Y.rk.length) (Y.rs.take (i+1))=true:=kk hc (nD _ _ _) (List.take_sublist _ _)
 have hss:bV (kkS Y.C Y.rk Y.rk.length) (Y.rs.take i) (Y.rs.getD i default)=(kkS Y.C Y.rk Y.rk.length,Y.rs.take (i+1),0):=by
  refine sW c1 c2 (fun q=>?_) (gW c2)
  rw[hsn,fe,bL,fQ,Bool.or_false,Bool.or_comm]
 have k1:cB S Y.t=0:=Space.fT.2 ⟨hm,ht⟩
 have k2:cB S S.last=0:=Space.fT.2 ⟨by omega,Int.le_refl _⟩
 generalize Y.rs.getD i default=s at*
 obtain ⟨a,b⟩:=s
 simp only at hal hsm hss ⊢
 unfold cq fR cn ji dQ
 rw[he]
 simp[k1,k2,hal,hsm,hss]
end Go.Proofs.YtpehfflehebmbaaGreat.Txn
end
section
set_option maxRecDepth 10000
namespace Go.Av
theorem xg {f:jC} {i:Nat} {a b:Option Obj}:upd (upd f i a) i b=upd f i b:=by
 funext j;simp only[upd];split<;>rfl
end Go.Av
namespace Go.Proofs.YtpehfflehebmbaaGreat.Txn
open Go Go.Av Go.Proofs Go.Proofs.YtpehfflehebmbaaGreat.C Go.Proofs.YtpehfflehebmbaaGreat.Batch Go.Proofs.YtpehfflehebmbaaGreat.Space Go.Proofs.YtpehfflehebmbaaGreat.Reads
def Y0 (t:Int):Tx:=⟨t,[],[],[],false⟩
def bS (l:List Ac):Spc:=l.foldl stS ⟨[],0,0⟩
theorem vu {l:List Ac} {j:Nat} (h:j<l.length):bS (l.take (j+1))=stS (bS (l.take j)) (l.getD j default):=by
 rw[Av.bt default h,bS,List.foldl_append];rfl
theorem Inv.zero:Inv 0 ⟨[],0,0⟩ (Y0 0):=⟨Fit.zero,Rt.zero,Int.le_refl _,List.Pairwise.nil,by simp[Y0],fun c hc=>by simp[Y0] at hc,rfl,fun q hq=>by simp[Y0] at hq,LsS.of fun s hs=>by simp[Y0] at hs⟩
theorem Inv.stS {k:Nat} {S:Spc} {Y:Tx} (h:Inv k S Y) (c:Ac) (hl:∀x∈c.l,Ls x.k):Inv (k+1+c.l.length) (Txn.stS S c) Y:=by
 unfold Txn.stS
 split
 ·exact (h.apply _ _ hl).mono (by omega)
 ·split
  ·exact (h.vac _).mono (by omega)
  ·exact h.mono (by omega)
theorem uu {l:List Ac} (hl:∀c∈l,∀x∈c.l,Ls x.k):∀j,j≤l.length→Inv (eX (l.take j)) (bS (l.take j)) (Y0 0)
 |0,_=>by simpa [bS,eX] using Inv.zero
 |j+1,h=>by
  have ih:=uu hl j (by omega)
  rw[vu h,iC h]
  exact (ih.stS _ (hl _ (by rw[Av.au h];exact List.getElem_mem h)))
theorem Inv.begin {k:Nat} {S:Spc} (h:Inv k S (Y0 0)):Inv k S (Y0 S.last):=⟨h.fit,h.rt,Int.le_refl _,h.rC,h.lC,h.kC,h.ck,h.sk,h.ls⟩
abbrev fg:AV:= .sc (.pointer none)
set_option maxHeartbeats 4000000 in
theorem Bp (l:List Ac) (hf:zq l) (hlc:∀c∈l,∀x∈c.l,Ls x.k):aL Tryz.prog 9 [.sl 5 (l.map Txn.dc) .any] [] fun r L=>∃w x s F FS,r= .ptr w 0∧L=[F,FS,ob w (wO s (bS l) (.ptr x 0) (Y0 (bS l).last))]∧TxF x s (Y0 (bS l).last) F∧cQ s (bS l) FS:=by
 refine f9.bw (by simp) fun n m ok=>?_
 unfold c9
 simp only[C.zz]
 have hil:(l.map Txn.dc).length=l.length:=by simp
 have hlen:=hf.len
 refine dp ?_
 refine aa.bY [] [] [] (by simp only[go_sem]) xA4 By ok fun r G' n1 T1 m1 ids hq on hids=>?_
 obtain ⟨s,FS,rfl,rfl,hS0⟩:=hq
 simp only[List.cons_append,List.nil_append,List.append_nil] at on ⊢
 refine aa.evR xA1 ?_
 refine aa.nil ⟨by simp[aw,aq,apart,aG],?_⟩
 rw[bm]
 have onA:=((On.refl (on.ok.more (wO s ⟨[],0,0⟩ fg (Y0 0)))).grown.perm (List.Perm.swap _ _ _))
 have okB:=on.ok.more (.cells [.ptr s 0,.sl 2 [] (.exact 0),.int .i64 0,.int .i64 0,fg,.int .i64 0,.sl 3 [] (.exact 0),.sl 1 [] (.exact 0),.sl 2 [] (.exact 0),.bool false])
 refine Wp.frz (fun j=>false) [(0,.sl 5 (l.map Txn.dc) .any),(3,.ptr n1 0)] ⟨lay [FS,ob n1 (wO s ⟨[],0,0⟩ fg (Y0 0))],n1+1,T1,m1⟩ ?_ ?_ (fun t ht=>ht) (Nat.le_refl _) (Nat.le_refl _) ?_
 ·simp only[aC,go_sem,reduceIte,Nat.reduceEqDiff,unT,eP,bx,if_false,if_true,List.drop_zero,Bool.false_eq_true]
  and_intros<;>first|exact ab.refl _|trivial
 ·have:=oV (L':=[FS,ob n1 (wO s ⟨[],0,0⟩ fg (Y0 0))]) (o':=wO s ⟨[],0,0⟩ fg (Y0 0)) okB (List.mem_cons_self ..) (af.cons (ab.refl _) (af.cons ab.cap (af.cons (ab.refl _) (af.cons (ab.refl _) (af.cons (ab.refl _) (af.cons (ab.refl _) (af.cons ab.cap (af.cons ab.cap (af.cons ab.cap (af.refl _)))))))))) (fun G hG=>by
   simp only[List.mem_cons,List.not_mem_nil,or_false] at hG
   rcases hG with rfl|rfl
   ·right;simp
   ·left;rfl)
  intro j o hj
  obtain ⟨o1,h1,h2⟩:=this j o hj
  exact ⟨o1,by simpa [H.drop] using h1,h2⟩
 refine dp ?_
 refine Wp.fY (β:=Nat) [0,3] xA7 (fun i=>[(4,.int .i64 (i:Nat))]) (fun i L=>i≤l.length∧∃FS',L=[FS',ob n1 (wO s (bS (l.take i)) fg (Y0 0))]∧cQ s (bS (l.take i)) FS') (fun i=>l.length - i) 0 ⟨Nat.zero_le _,FS,by simp[bS],by simpa [bS] using hS0⟩ onA.ok xA9 ?_
 rintro i L n5 T5 m5 on5 ⟨hi,FS',rfl,hS⟩
 have hI:=uu hlc i hi
 have hcnt:=mw l hi
 rw[List.take_length] at hcnt
 have hn:=hf.n
 have fw:lay [FS',ob n1 (wO s (bS (l.take i)) fg (Y0 0))] n1=some (.cells [.ptr s 0,.sl 2 ((bS (l.take i)).L.map Space.encI) .any,.int .i64 (bS (l.take i)).last,.int .i64 (bS (l.take i)).mark,fg,.int .i64 0,.sl 3 (chs []) .any,.sl 1 (strs []) .any,.sl 2 (sps []) .any,.bool false]):=on5.ok.sub (F:=ob n1 (wO s (bS (l.take i)) fg (Y0 0))) (by simp) n1 (wO s (bS (l.take i)) fg (Y0 0)) (by simp[aY])
 by_cases hi2:i<l.length
 ·obtain ⟨g1,h2,h3,e1⟩:=ixF (j:=i) (n:=l.length) (by omega) (by omega)
  have hat:=dh Txn.dc l i .any hi2
  have hsn:=vu hi2
  have hcs:=iC hi2
  have hcm:=mw l (show i+1≤l.length from hi2)
  rw[List.take_length] at hcm
  have hxl:=hlc (l.getD i default) (by rw[Av.au hi2];exact List.getElem_mem hi2)
  generalize l.getD i default=c at*
  generalize bS (l.take i)=S at*
  have hst:¬(c.kind=4∨c.kind=5)→stS S c=S:=fun h=>by rw[stS,if_neg (by omega),if_neg (by omega)]
  refine rn0 (cj8 g1 h2 h3 hil hat fw @Txn.dc.eq_1 @decide_true) ?_
  rw[bm,bC]
  have ok6:=on5.ok.more (.cells [.int .i64 c.kind,.int .i64 c.n,.str c.a,.str c.b,.sl 3 (chs c.l) .any])
  have f5:=aH n5 (.cells [.int .i64 c.kind,.int .i64 c.n,.str c.a,.str c.b,.sl 3 (chs c.l) .any]) [FS',ob n1 (wO s S fg (Y0 0))]
  have on6:On [FS',ob n1 (wO s S fg (Y0 0))] n5 m5 [ob n5 (.cells [.int .i64 c.kind,.int .i64 c.n,.str c.a,.str c.b,.sl 3 (chs c.l) .any]),FS',ob n1 (wO s S fg (Y0 0))] (n5+1) T5 m5:=(On.refl ok6).grown
  by_cases k4:c.kind=4
  ·have q4:=decide_eq_true k4
   have hg:=vn (xv:=fg) (w:=n1) (Y:=Y0 0) hS hI.fit hI.rt c k4 (by omega)
   have e4:stS S c=(bO S (S.last+1) c.l).1:=by rw[stS,if_pos k4]
   rw[←e4] at hg
   refine rn0 (cj2 f5 q4) ?_
   refine aa.bY [_] [FS',ob n1 (wO s S fg (Y0 0))] [] (by simp only[go_sem,bx]) xA4 hg ok6 fun r G' n7 T7 m7 ids7 hq7 on7 hids7=>?_
   obtain ⟨rfl,FS2,rfl,hS2⟩:=hq7
   simp only[List.cons_append,List.nil_append,List.append_nil] at on7 ⊢
   refine aa.evR xA1 ?_
   refine aa.nil ⟨by simp[aw,aq,apart,aG],?_⟩
   refine rn0 e1 ?_
   refine ⟨i+1,_,n7,T7,m7,(on6.step on7).cI,⟨by omega,FS2,by rw[hsn],by rw[hsn];exact hS2⟩,by omega,?_⟩
   refine aU.of (cR ?_) (ey on7.ok (fun G hG=>List.mem_cons_of_mem _ hG)) (fun _ h=>h) (Nat.le_refl _) (Nat.le_refl _)
   exact xSb
  have q4:=decide_eq_false k4
  by_cases k5:c.kind=5
  ·have q5:=decide_eq_true k5
   have hg:=vo (xv:=fg) (w:=n1) (Y:=Y0 0) hS hI.fit hI.rt c k5 (by omega)
   have e5:stS S c=(bD S c.n).1:=by rw[stS,if_neg k4,if_pos k5]
   rw[←e5] at hg
   refine rn0 (cj3 f5 q4 q5) ?_
   refine aa.bY [_] [FS',ob n1 (wO s S fg (Y0 0))] [] (by simp only[go_sem,bx]) xA4 hg ok6 fun r G' n7 T7 m7 ids7 hq7 on7 hids7=>?_
   obtain ⟨rfl,FS2,rfl,hS2⟩:=hq7
   simp only[List.cons_append,List.nil_append,List.append_nil] at on7 ⊢
   refine aa.evR xA1 ?_
   refine aa.nil ⟨by simp[aw,aq,apart,aG],?_⟩
   refine rn0 e1 ?_
   refine ⟨i+1,_,n7,T7,m7,(on6.step on7).cI,⟨by omega,FS2,by rw[hsn],by rw[hsn];exact hS2⟩,by omega,?_⟩
   refine aU.of (cR ?_) (ey on7.ok (fun G hG=>List.mem_cons_of_mem _ hG)) (fun _ h=>h) (Nat.le_refl _) (Nat.le_refl _)
   exact xSb
  have q5:=decide_eq_false k5
  have e6:=hst (fun h=>h.elim k4 k5)
  refine rn0 (cj4 f5 q4 q5 e1) ?_
  refine ⟨i+1,_,n5+1,T5,m5,on6.cI,⟨by omega,FS',by rw[hsn,e6],by rw[hsn,e6];exact hS⟩,by omega,?_⟩
  refine aU.of (cR ?_) (ey ok6 (fun G hG=>List.mem_cons_of_mem _ hG)) (fun _ h=>h) (Nat.le_refl _) (Nat.le_refl _)
  exact xSb
 ·obtain rfl:i=l.length:=by omega
  have g1:=ixE (l.length)
  have hkb:cB (bS (l.take l.length)) (bS (l.take l.length)).last=0:=Space.fT.2 ⟨hI.rt.ml,Int.le_refl _⟩
  have hsm:=hI.fit.small (show eX (l.take l.length)≤500000 by rw[List.take_length];omega)
  have hbg:=qE hS hsm.wide (bS (l.take l.length)).last hkb
  have hbr:=zB (bS (l.take l.length)) hsm.wide (bS (l.take l.length)).last
  rw[List.take_length] at*
  generalize bS l=S at*
  rw[if_pos hkb,hkb] at hbr
  unfold du zy at hbr
  have hsn:s<n5:=by obtain ⟨_,_,_,_,_,h,_⟩:=hS.go;exact on5.ok.lt (by simp) h
  have ok:=on5.ok
  refine xL0 (cj4 g1 hil fw @decide_false) (tP hS) ?_
  intro ids
  refine aa.bY [] [FS'] [ob n1 (wO s S fg (Y0 0))] (by simp only[go_sem,bx]) xA4 hbg on5.ok fun r G' n7 T7 m7 ids7 hq7 on7 hids7=>?_
  obtain ⟨x,Fx,rfl,rfl,hFx⟩:=hq7
  simp only[List.cons_append,List.nil_append,List.append_nil] at on7 ⊢
  have hin:n1<n7:=on7.ok.lt (F:=ob n1 (wO s S fg (Y0 0))) (by simp) (j:=n1) (o:=wO s S fg (Y0 0)) (by simp[aY])
  have fw7:lay [Fx,FS',ob n1 (wO s S fg (Y0 0))] n1=some (.cells [.ptr s 0,.sl 2 (S.L.map Space.encI) .any,.int .i64 S.last,.int .i64 S.mark,fg,.int .i64 0,.sl 3 (chs []) .any,.sl 1 (strs []) .any,.sl 2 (sps []) .any,.bool false]):=on7.ok.sub (F:=ob n1 (wO s S fg (Y0 0))) (by simp) n1 (wO s S fg (Y0 0)) (by simp[aY])
  have hw1:(n1=n7)=False:=eq_false (by omega)
  have hw2:(n7=n1)=False:=eq_false (by omega)
  refine aa.evR xA1 ?_
  refine aa.nil ⟨by simp[aw,aq,apart,aG],?_⟩
  refine rn1 (cj3 fw7 hw1 hw2) hbr ?_
  refine aa.nil ⟨by simp[aw,aq,apart,aG,hw1,hw2],?_⟩
  rw[bm,bC]
  have ok8:=on7.ok.more (.cells [.int .i64 S.last,.sl 3 [] (.exact 0),.sl 1 [] (.exact 0),.sl 2 [] (.exact 0),.bool false])
  have f8:=aH n7 (.cells [.int .i64 S.last,.sl 3 [] (.exact 0),.sl 1 [] (.exact 0),.sl 2 [] (.exact 0),.bool false]) [Fx,FS',ob n1 (wO s S fg (Y0 0))]
  have fw8:lay [ob n7 (.cells [.int .i64 S.last,.sl 3 [] (.exact 0),.sl 1 [] (.exact 0),.sl 2 [] (.exact 0),.bool false]),Fx,FS',ob n1 (wO s S fg (Y0 0))] n1=some (.cells [.ptr s 0,.sl 2 (S.L.map Space.encI) .any,.int .i64 S.last,.int .i64 S.mark,fg,.int .i64 0,.sl 3 (chs []) .any,.sl 1 (strs []) .any,.sl 2 (sps []) .any,.bool false]):=ok8.sub (F:=ob n1 (wO s S fg (Y0 0))) (by simp) n1 (wO s S fg (Y0 0)) (by simp[aY])
  refine rn0 (cj4 f8 fw8 hw1 hw2) ?_
  rw[xg]
  have e8:=Ok.bC (A:=[_,_,_]) (.cells [.ptr s 0,.sl 2 (S.L.map Space.encI) .any,.int .i64 S.last,.int .i64 S.mark,.ptr x 0,.int .i64 S.last,.sl 3 [] (.exact 0),.sl 1 [] (.exact 0),.sl 2 [] (.exact 0),.bool false]) ok8
  have on8:=On.dq (A:=[_,_,_]) (o':=(.cells [.ptr s 0,.sl 2 (S.L.map Space.encI) .any,.int .i64 S.last,.int .i64 S.mark,.ptr x 0,.int .i64 S.last,.sl 3 [] (.exact 0),.sl 1 [] (.exact 0),.sl 2 [] (.exact 0),.bool false])) ok8
  have on9:=On.dq (A:=[_,_,_]) (o':=wO s S (.ptr x 0) (Y0 S.last)) ok8
  simp only[List.cons_append,List.nil_append] at e8 on8 on9
  rw[e8]
  refine aa.nil ⟨by simp[aw,aq,apart,aG,hw1,hw2],?_⟩
  refine dp ?_
  have onB:=((((on.step onA).step on5).step on7).step (((On.refl ok8).grown.step on9).cI))
  exact Wp.ret ⟨trivial,_,rfl,_,_,On.jk onB (oV (i:=n1) (o:=(.cells [.ptr s 0,.sl 2 (S.L.map Space.encI) .any,.int .i64 S.last,.int .i64 S.mark,.ptr x 0,.int .i64 S.last,.sl 3 [] (.exact 0),.sl 1 [] (.exact 0),.sl 2 [] (.exact 0),.bool false])) (o':=wO s S (.ptr x 0) (Y0 S.last)) on8.ok (by simp) (af.cons (ab.refl _) (af.cons (ab.refl _) (af.cons (ab.refl _) (af.cons (ab.refl _) (af.cons (ab.refl _) (af.cons (ab.refl _) (af.cons ab.cap (af.cons ab.cap (af.cons ab.cap (af.refl _)))))))))) (fun G hG=>by
   simp only[List.mem_cons,List.not_mem_nil,or_false] at hG
   rcases hG with rfl|rfl|rfl
   ·right;simp
   ·right;simp
   ·left;rfl)) (ab.refl _) ⟨n1,x,s,Fx,FS',rfl,rfl,hFx,hS⟩⟩
end Go.Proofs.YtpehfflehebmbaaGreat.Txn
end
section
set_option maxRecDepth 100000
namespace Go.Proofs.YtpehfflehebmbaaGreat.Txn
open Go Go.Av Go.Proofs Go.Proofs.YtpehfflehebmbaaGreat.C Go.Proofs.YtpehfflehebmbaaGreat.Batch Go.Proofs.YtpehfflehebmbaaGreat.Space
def Co (a:Ac):Prop:=a.a.length≤reachBytes∧a.b.length≤reachBytes∧a.l.length≤35184372088832∧∀c∈a.l,Cj c
theorem xh {k:Nat} {cs:List AV} (h:Fits Tryz.prog (k+4) 29 cs):∃p:Ac,dI Tryz.prog 29 cs=Txn.dc p∧Co p:=by
 have hw:∀cs,dI Tryz.prog 29 cs= .agg cs:=fun cs=>by
  unfold dI;rw[if_pos (by kernel_rfl)]
 rw[hw]
 unfold Fits at h
 rw[Tryz.underlying29] at h
 obtain ⟨xss,rfl,h⟩:=h
 cases h with|cons h0 h=>cases h with|cons h1 h=>cases h with|cons h2 h=>cases h with|cons h3 h=>cases h with|cons h4 h=>
 cases h
 unfold Fits at h0 h1 h2 h3
 simp only at h0 h1 h2 h3 h4
 rw[Tryz.underlying3] at h0 h1
 rw[Tryz.underlying9] at h2 h3
 obtain ⟨n,rfl,hn⟩:=h0
 obtain ⟨v,rfl,hv⟩:=h1
 obtain ⟨a,rfl,ha⟩:=h2
 obtain ⟨b,rfl,hb⟩:=h3
 obtain ⟨l,-,rfl,h5,h6⟩:=qR h4
 exact ⟨⟨n,v,a,b,l⟩,rfl,ha,hb,h5,h6⟩
theorem oW {a:AV} (h:nC Tryz.prog 5 22 a):∃l:List Ac,a= .sl 5 (l.map Txn.dc) .any∧l.length≤35184372088832∧∀p∈l,Co p:=by
 obtain ⟨cs,h,rfl⟩:=h
 unfold Fits at h
 rw[Tryz.underlying22] at h
 obtain ⟨xs,rfl,hlx,hx⟩:=h
 obtain ⟨l,rfl,hl⟩:=oQ (fun cs h=>xh h) hx
 have c1:Tryz.prog.cellsOf 29=5:=by kernel_rfl
 have c2:Tryz.prog.bytesOf 29=72:=by kernel_rfl
 rw[List.length_map,c2] at hlx
 refine ⟨l,?_,vf (by decide) hlx,hl⟩
 unfold dI;rw[if_neg (by rw[show bT Tryz.prog 22=false by kernel_rfl];simp),c1];rfl
end Go.Proofs.YtpehfflehebmbaaGreat.Txn
end
section
set_option maxRecDepth 10000
namespace Go.Proofs.YtpehfflehebmbaaGreat.Txn
open Go Go.Av Go.Proofs Go.Proofs.YtpehfflehebmbaaGreat.C Go.Proofs.YtpehfflehebmbaaGreat.Batch Go.Proofs.YtpehfflehebmbaaGreat.Space Go.Proofs.YtpehfflehebmbaaGreat.Reads
def stW (p:Ac→Bool) (w:Spc × Tx) (c:Ac):Spc × Tx:=if p c=true then (stS w.1 c,stY w.1 w.2 c) else w
def jq (p:Ac→Bool) (w:Spc × Tx) (l:List Ac):Spc × Tx:=l.foldl (stW p) w
theorem mz (p:Ac→Bool) (w:Spc × Tx) {l:List Ac} {j:Nat} (h:j<l.length):jq p w (l.take (j+1))=stW p (jq p w (l.take j)) (l.getD j default):=by
 rw[Av.bt default h,jq,List.foldl_append];rfl
def LsA (l:List Ac):Prop:=∀c∈l,∀x∈c.l,Ls x.k
theorem zT {l:List Ac} (h:∀c∈l,Co c):LsA l:=fun c hc x hx=>by
 have:=((h c hc).2.2.2 x hx).1
 have e:reachBytes=140737488351232:=rfl
 unfold Ls;omega
theorem vv (l:List Ac) (j:Nat):eX (l.take j)≤eX l:=by
 rcases Nat.le_total j l.length with h|h
 ·have:=mw l h;rwa [List.take_length] at this
 ·rw[List.take_of_length_le h];exact Nat.le_refl _
theorem oX (p:Ac→Bool) {k:Nat} {w:Spc × Tx} (h:Inv k w.1 w.2) {l:List Ac} (hf:zq l) (hl:LsA l):∀j,j≤l.length→Inv (k+eX (l.take j)) (jq p w (l.take j)).1 (jq p w (l.take j)).2
 |0,_=>by simpa [jq,eX] using h
 |j+1,hj=>by
  have ih:=oX p h hf hl j (by omega)
  have hm:l.getD j default∈l:=by rw[Av.au hj];exact List.getElem_mem _
  have ha:=hf.a _ hm
  have hb:=hf.b _ hm
  rw[mz p w hj,iC hj]
  unfold stW
  split
  ·exact (ih.step _ (by omega) (by omega) (hl _ hm)).mono (by omega)
  ·exact ih.mono (by omega)
structure Live (w:Spc × Tx):Prop where
 e:w.2.ended=false
 m:w.1.mark≤w.2.t
 d:DV w.2.C
theorem Live.run (p:Ac→Bool) (hp:∀c,p c=true→c.kind≠5∧c.kind≠6) {w:Spc × Tx} (h:Live w) {l:List Ac}:∀j,j≤l.length→Live (jq p w (l.take j))
 |0,_=>by simpa [jq] using h
 |j+1,hj=>by
  have ih:=Live.run p hp h (l:=l) j (by omega)
  rw[mz p w hj]
  unfold stW
  split
  ·rename_i hc
   obtain ⟨h5,h6⟩:=hp _ hc
   exact ⟨by rw[xd _ _ _ h6];exact ih.e,by rw[Dm,zQ _ _ h5];exact ih.m,ih.d.step _⟩
  ·exact ih
theorem Dn {S:Spc} (h:S.mark≤S.last):Live (S,Y0 S.last):=⟨rfl,h,fun c hc=>by simp[Y0] at hc⟩
theorem Cp {A B C:List Fr} {F:Fr} {i n m:Nat} {o:Av.Obj} {T:List Nat} (ok:Ok (A++F::B++ob i o::C) n T m):F.o i=none:=by
 have h:=(List.pairwise_append.1 ok.dj).2.2 F (by simp) (ob i o) (by simp) i
 rcases h with h|h
 ·exact h
 ·simp[aY] at h
theorem nid {F:Fr} {i n n':Nat} {ids:List Nat} (h:∀id∈ids,(F.o id).isSome=true∨(n≤id∧id<n')) (h1:F.o i=none) (h2:i<n):i∉ids:=fun hi=>by
 rcases h i hi with h|h
 ·rw[h1] at h;cases h
 ·omega
end Go.Proofs.YtpehfflehebmbaaGreat.Txn
end
section
set_option maxRecDepth 10000
namespace Go.Proofs.YtpehfflehebmbaaGreat.Reads
open Go Go.Av Go.Proofs Go.Proofs.YtpehfflehebmbaaGreat.C Go.Proofs.YtpehfflehebmbaaGreat.Batch
theorem s3 (k:List Bs) (l:List Sp) (hk:k.length≤1000000) (hl:l.length≤1000000):aB Tryz.prog 23 [cP k l,cP k l] (.bool true):=by
 refine f23.aJ (by simp) (by simp[al,ep,av]) rfl ?_
 unfold c23
 simp only[C.zz]
 refine Wp.aA (by simp only[go_sem,reduceIte,Nat.reduceEqDiff,Nat.reduceAdd,bx,cP];exact rfl) (by trivial) ?_
 refine Wp.frz (fun j=>true) [(2,.ref [.sl 1 (strs k) .any,.sl 2 (sps l) .any]),(3,.ref [.sl 1 (strs k) .any,.sl 2 (sps l) .any])] ⟨ag,2,[],0⟩ ?_ (OLe.none _) (by simp) (by simp[go_sem]) (Nat.le_refl _) ?_
 ·simp only[aC,go_sem,reduceIte,Nat.reduceEqDiff,unT,and_true,beq_self_eq_true,Nat.reduceBEq,Bool.false_eq_true]
  and_intros<;>exact ab.refl _
 have z1:decide ((k.length:Int)=(k.length:Int))=true:=decide_eq_true rfl
 have z2:decide ((l.length:Int)=(l.length:Int))=true:=decide_eq_true rfl
 refine an0 (cj4 @an @ay z1 z2) ?_
 refine Wp.dW [2,3] xA6 (fun j:Nat=>[(5,.int .i64 j)]) (fun j=>j≤k.length) (fun j=>k.length - j) 0 (Nat.zero_le _) ?_ ?_
 ·exact xSb
 ·intro j hj
  by_cases hc:j<k.length
  ·have g1:decide ((j:Int)<(k.length:Int))=true:=decide_eq_true (by omega)
   have q1:(0:Int)≤(j:Int):=by omega
   have q2:(j:Int)<(k.length:Int):=by omega
   have e1:IntKind.i64.wrap ((j:Int)+1)=((j+1:Nat):Int):=by rw[IntWalk.i64_in _ (by omega)];omega
   have z3:decide (k.getD j []=k.getD j [])=true:=decide_eq_true rfl
   refine an0 (cj8 g1 q1 q2 e1 z3 @an @Int.toNat_natCast (fun d=>ba _ _ d hc)) ?_
   refine ⟨j+1,by omega,by omega,?_⟩
   exact xSu
  ·obtain rfl:j=k.length:=by omega
   have g1:decide ((k.length:Int)<(k.length:Int))=false:=decide_eq_false (by omega)
   refine an0 (cj2 g1 @an) ?_
   refine Wp.dW [2,3] xA6 (fun j:Nat=>[(6,.int .i64 j)]) (fun j=>j≤l.length) (fun j=>l.length - j) 0 (Nat.zero_le _) ?_ ?_
   ·exact xSb
   ·intro j hj
    by_cases hc:j<l.length
    ·have g1:decide ((j:Int)<(l.length:Int))=true:=decide_eq_true (by omega)
     have q1:(0:Int)≤(j:Int):=by omega
     have q2:(j:Int)<(l.length:Int):=by omega
     have e1:IntKind.i64.wrap ((j:Int)+1)=((j+1:Nat):Int):=by rw[IntWalk.i64_in _ (by omega)];omega
     refine an0 (gh g1 q1 q2 e1 @ay @Int.toNat_natCast (fun d=>bz _ _ d hc) @aZ.eq_1 @beq_self_eq_true.{0} @Bool.and_self) ?_
     refine ⟨j+1,by omega,by omega,?_⟩
     exact xSu
    ·obtain rfl:j=l.length:=by omega
     have g1:decide ((l.length:Int)<(l.length:Int))=false:=decide_eq_false (by omega)
     refine an0 (cj2 g1 @ay) ?_
     refine aM ?_
     exact ab.refl _
end Go.Proofs.YtpehfflehebmbaaGreat.Reads
end
section
set_option maxRecDepth 10000
namespace Go.Proofs.YtpehfflehebmbaaGreat.Txn
open Go Go.Av Go.Proofs Go.Proofs.YtpehfflehebmbaaGreat.C Go.Proofs.YtpehfflehebmbaaGreat.Batch Go.Proofs.YtpehfflehebmbaaGreat.Space Go.Proofs.YtpehfflehebmbaaGreat.Reads
theorem BH {F FS:Fr} {s w n m:Nat} {S:Spc} {xv:AV} {Y:Tx} {T:List Nat} (ok:Ok [F,FS,ob w (wO s S xv Y)] n T m):lay [F,FS,ob w (wO s S xv Y)] w=some (.cells [.ptr s 0,.sl 2 (S.L.map Space.encI) .any,.int .i64 S.last,.int .i64 S.mark,xv,.int .i64 Y.t,.sl 3 (chs Y.C) .any,.sl 1 (strs Y.rk) .any,.sl 2 (sps Y.rs) .any,.bool Y.ended]):=
 ok.sub (F:=ob w (wO s S xv Y)) (by simp) w (wO s S xv Y) (by simp[aY])
theorem Dw {F FS:Fr} {w n m:Nat} {o:Av.Obj} {T:List Nat} (ok:Ok [F,FS,ob w o] n T m):w<n:=
 ok.lt (F:=ob w o) (by simp) (j:=w) (o:=o) (by simp[aY])
theorem Inv.kL {k:Nat} {S:Spc} {Y:Tx} (h:Inv k S Y):∀p∈S.L,p.1.length≤1000000:=fun p hp=>by have:=(h.rt.it p hp).1;omega
theorem Inv.kCl {k:Nat} {S:Spc} {Y:Tx} (h:Inv k S Y):∀c∈Y.C,c.k.length≤1000000:=fun c hc=>by have:=jP (h.kC c hc);omega
abbrev vS:Spc:=⟨[([97],[⟨5,[49],false⟩])],5,0⟩
abbrev vT:Spc:=⟨[([97],[⟨5,[49],false⟩]),([99],[⟨6,[51],false⟩])],6,0⟩
abbrev vY:Tx:=⟨5,[⟨[98],[50],false⟩],[],[],false⟩
abbrev vZ:Tx:=⟨5,[⟨[98],[50],false⟩],[],[⟨[],[]⟩],false⟩
abbrev vW:List Pr:=[⟨[97],[49]⟩,⟨[98],[50]⟩]
theorem vi0:bk ([]:List It):=by simp[bk,Space.bE,ae]
theorem vi1:bk vS.L:=by simp[bk,Space.bE,ae]
theorem vi2:bk vT.L:=by simp[bk,Space.bE,ae,Op.bytesLess]
theorem Cq:Small vS:=⟨by simp,fun q=>by simp only[aX];split<;>simp⟩
theorem Cr:Small vT:=⟨by simp,fun q=>by simp only[aX];split<;>(try simp)<;>(try (split<;>simp))⟩
theorem vrC:Space.bE (ah vY.C):=by simp[ah,Space.bE]
set_option maxHeartbeats 4000000 in
theorem zU:aB Tryz.prog 8 [] (.bool true):=by
 refine f8.aJ (by simp) (by simp[al]) rfl ?_
 unfold c8
 simp only[C.zz]
 try dsimp only
 have a1:bO ⟨[],0,0⟩ 5 [⟨[97],[49],false⟩]=(vS,0):=by kernel_rfl
 have a2:bO vS 6 [⟨[99],[51],false⟩]=(vT,0):=by kernel_rfl
 have p1:ew ⟨5,[],[],[],false⟩ ⟨[98],[50],false⟩=(vY,0):=by kernel_rfl
 have s1:cq vS vY [] [] (-1)=(vZ,vW,0):=by kernel_rfl
 have s2:cq vT vZ [] [] (-1)=(vZ,vW,0):=by kernel_rfl
 have q1:dT vT vZ [98]=(vZ,[50],0):=by kernel_rfl
 have u1:jd vT vZ=true:=by kernel_rfl
 have y0:decide ((0:Int)=0)=true:=rfl
 have y5:decide ((5:Int)=5)=true:=rfl
 have yb:decide (([50]:Bs)=[50])=true:=rfl
 have hw:=oL vW vW (by simp)
 rw[decide_eq_true rfl] at hw
 have hr:=s3 [] [⟨[],[]⟩] (by simp) (by simp)
 refine rn0 y0 ?_
 show aa _ _ _ _ ⟨lay [],0,[],0⟩ _ _
 refine aa.eZ xA2 xA3 (By) (Ok.nil) fun r1 G1 n1 T1 m1 ids1 hq1 on1=>?_
 obtain ⟨s,F1,rfl,rfl,h1⟩:=hq1
 refine aa.evR xA1 ?_
 refine aa.nil ⟨by simp[aw,aq,apart,aG],?_⟩
 have g1:=qD h1 vi0 5 [⟨[97],[49],false⟩] (by simp) ⟨by simp,fun q=>by simp[aX]⟩
 rw[a1] at g1
 refine rn0 y0 ?_
 refine aa.bY [] [F1] [] xA8 (by simp only[go_sem,reduceIte,Nat.reduceEqDiff,List.map];exact af.cons (ab.refl _) (af.cons (ab.refl _) (af.cons ab.cap af.nil))) g1 on1.ok fun r G' n2 T2 m2 ids2 hq2 on2 hids2=>?_
 obtain ⟨rfl,F2,rfl,h2⟩:=hq2
 simp only[List.nil_append,List.cons_append] at on2 ⊢
 refine aa.evR (by simp only[go_sem,reduceIte,Nat.reduceEqDiff,Nat.reduceAdd,bx,y0];exact rfl) ?_
 refine aa.nil ⟨by simp[aw,aq,apart,aG],?_⟩
 have g2:=qE h2 Cq.wide 5 (by kernel_rfl)
 refine rn0 y0 ?_
 refine aa.bY [] [F2] [] xA8 xA4 g2 on2.ok fun r G' n3 T3 m3 ids3 hq3 on3 hids3=>?_
 obtain ⟨x,F3,rfl,rfl,h3⟩:=hq3
 simp only[List.nil_append,List.cons_append] at on3 ⊢
 refine aa.evR (by simp only[go_sem,reduceIte,Nat.reduceEqDiff,Nat.reduceAdd,bx,y0];exact rfl) ?_
 refine aa.nil ⟨by simp[aw,aq,apart,aG],?_⟩
 have g3:=yh h3 (by simp[ah,Space.bE]) (by simp) [98] [50]
 rw[p1] at g3
 refine rn0 y0 ?_
 refine aa.bY [] [F3] [F2] xA8 xA4 g3 on3.ok fun r G' n4 T4 m4 ids4 hq4 on4 hids4=>?_
 obtain ⟨rfl,F4,rfl,h4⟩:=hq4
 simp only[List.nil_append,List.cons_append] at on4 ⊢
 refine aa.evR (by simp only[go_sem,reduceIte,Nat.reduceEqDiff,Nat.reduceAdd,bx,y0];exact rfl) ?_
 refine aa.nil ⟨by simp[aw,aq,apart,aG],?_⟩
 have g4:=lI h4 h2 vi1 Cq (by simp) vrC (by simp) (by simp) [] [] (-1)
 rw[s1] at g4
 refine rn0 y0 ?_
 refine aa.bY [] [F4,F2] [] xA8 xA4 g4 on4.ok fun r G' n5 T5 m5 ids5 hq5 on5 hids5=>?_
 obtain ⟨rfl,F5,rfl,h5⟩:=hq5
 simp only[List.nil_append,List.cons_append] at on5 ⊢
 refine aa.evR (by simp only[go_sem,reduceIte,Nat.reduceEqDiff,Nat.reduceAdd,bx,y0];exact rfl) ?_
 refine aa.nil ⟨by simp[aw,aq,apart,aG],?_⟩
 have g5:=qD h2 vi1 6 [⟨[99],[51],false⟩] (by simp) ⟨by simp,fun q=>by have:=Cq.2 q;show (aX vS.L q).length+1≤4398046511103;omega⟩
 rw[a2] at g5
 refine rn0 y0 ?_
 refine aa.bY [F5] [F2] [] xA8 (by simp only[go_sem,reduceIte,Nat.reduceEqDiff,List.map];exact af.cons (ab.refl _) (af.cons (ab.refl _) (af.cons ab.cap af.nil))) g5 on5.ok fun r G' n6 T6 m6 ids6 hq6 on6 hids6=>?_
 obtain ⟨rfl,F6,rfl,h6⟩:=hq6
 simp only[List.nil_append,List.cons_append] at on6 ⊢
 refine aa.evR (by simp only[go_sem,reduceIte,Nat.reduceEqDiff,Nat.reduceAdd,bx,y0];exact rfl) ?_
 refine aa.nil ⟨by simp[aw,aq,apart,aG],?_⟩
 have g6:=lI h5 h6 vi2 Cr (by simp) vrC (by simp) (by simp) [] [] (-1)
 rw[s2] at g6
 refine rn0 y0 ?_
 refine aa.bY [] [F5,F6] [] xA8 xA4 g6 on6.ok fun r G' n7 T7 m7 ids7 hq7 on7 hids7=>?_
 obtain ⟨rfl,F7,rfl,h7⟩:=hq7
 simp only[List.nil_append,List.cons_append] at on7 ⊢
 refine aa.evR (by simp only[go_sem,reduceIte,Nat.reduceEqDiff,Nat.reduceAdd,bx,y0];exact rfl) ?_
 refine aa.nil ⟨by simp[aw,aq,apart,aG],?_⟩
 have g7:=uV h7 h6 Cr.wide [98]
 rw[q1] at g7
 refine rn0 y0 ?_
 refine aa.bY [] [F7,F6] [] xA8 xA4 g7 on7.ok fun r G' n8 T8 m8 ids8 hq8 on8 hids8=>?_
 obtain ⟨rfl,F8,rfl,h8⟩:=hq8
 simp only[List.nil_append,List.cons_append] at on8 ⊢
 refine aa.evR (by simp only[go_sem,reduceIte,Nat.reduceEqDiff,Nat.reduceAdd,bx,y0];exact rfl) ?_
 refine aa.nil ⟨by simp[aw,aq,apart,aG],?_⟩
 refine rn1 (cj2 y0 @decide_true) hw ?_
 have g8:=sI h8 h6 vi2 Cr.wide (by simp) (by simp) (by simp)
 rw[u1] at g8
 refine aa.bY [] [F8,F6] [] xA8 xA4 g8 on8.ok fun r G' n9 T9 m9 ids9 hq9 on9 hids9=>?_
 obtain ⟨rfl,rfl⟩:=hq9
 simp only[List.nil_append,List.cons_append] at on9 ⊢
 refine aa.evR (by simp only[go_sem,reduceIte,Nat.reduceEqDiff,Nat.reduceAdd,bx,y0,yb,decide_true,if_true];exact rfl) ?_
 refine aa.iR ([]) ([F6]) xA2 xA3 (qQ h8 (by simp) (by simp)) (h8.k) (on9.ok) fun na ma idsa hna hma hidsa oka=>?_
 simp only[List.nil_append,List.cons_append] at oka ⊢
 have ok:=oka
 refine aa.evR (by simp only[go_sem,reduceIte,Nat.reduceEqDiff,Nat.reduceAdd,bx,y0,decide_true,List.length_cons,List.length_nil,Nat.zero_add,Nat.one_mul,Nat.reduceMul,Nat.reduceLeDiff,and_self,if_true];exact rfl) ?_
 repeat (first
  |((first|apply Wp.cA|apply Wp.eC|((first
    |(refine aa.bM ?_ ?_ (hr) ?_;(· simp only[go_sem,reduceIte,Nat.reduceEqDiff,Nat.reduceAdd,bx]);(· simp only[go_sem,reduceIte,Nat.reduceEqDiff,Nat.reduceAdd,bx,List.map];exact af.cons (ab.refl _) (af.cons (ab.agg (af.cons ab.cap (af.cons ab.cap af.nil))) af.nil)))
    |(refine aa.rI ?_ ?_ (B2 h8) (by first|exact fun j o h=>h|exact ok.sub (by simp)|assumption) (fun ids=>?_);(· simp only[go_sem,reduceIte,Nat.reduceEqDiff,Nat.reduceAdd,bx]);(· simp only[go_sem,reduceIte,Nat.reduceEqDiff,Nat.reduceAdd,bx,List.map];first|exact af.refl _|(repeat (first|exact af.nil|refine af.cons xA5 ?_)))));apply aa.evR));(· simp only[go_sem,reduceIte,Nat.reduceEqDiff,Nat.reduceAdd,bx,ax,if_true,if_false,Nat.reduceMul,Nat.reduceLeDiff,y0,y5,decide_true,strs,sps];exact rfl))
  |(refine aa.nil ⟨?_,?_⟩;(· first|trivial|simp[aw,aq,apart,aG]))
  |(apply Wp.bu;(· simp only[go_sem,reduceIte,Nat.reduceEqDiff,Nat.reduceAdd,bx,ax,if_true,if_false,Nat.reduceMul,Nat.reduceLeDiff,y0,y5,decide_true,strs,sps];exact rfl);(· rfl))
  |refine Wp.skip ?_
  |refine Wp.label ?_
  |refine Wp.block ?_
  |refine Wp.exit ?_
  |refine Wp.seq ?_)
 refine aM ?_
 exact ab.refl _
end Go.Proofs.YtpehfflehebmbaaGreat.Txn
end
section
namespace Go.Av
theorem qe {A B:Fr} (h:∀j,A.o j=none∨B.o j=none):lay [A,B]=lay [B,A]:=by
 funext j
 simp only[cM]
 rcases h j with e|e
 ·rw[e];cases B.o j<;>rfl
 ·rw[e];cases A.o j<;>rfl
theorem Ok.BI {A B:Fr} {n m:Nat} {T:List Nat} (ok:Ok [A,B] n T m):Ok [B,A] n T m:=by
 have h:List.Perm [A,B] [B,A]:=List.Perm.swap _ _ _
 exact ⟨fun F hF=>ok.bd F (h.mem_iff.2 hF),h.pairwise ok.dj (fun hxy j=>(hxy j).symm),fun t ht=>ok.tk t (by
  obtain ⟨F,hF,h2⟩:=List.mem_flatMap.1 ht
  exact List.mem_flatMap.2 ⟨F,h.mem_iff.2 hF,h2⟩),h.pairwise ok.td (fun {x y} hxy t h1 h2=>hxy t h2 h1),ok.tb⟩
theorem Ok.zV {A B:Fr} {n m:Nat} {T:List Nat} (ok:Ok [A,B] n T m):∀j,A.o j=none∨B.o j=none:=
 (List.pairwise_cons.1 ok.dj).1 B (by simp)
theorem ks2 {A B:Fr} (hA:A.k=[]) (hB:B.k=[]):ks [A,B]=[]:=by simp[ks,hA,hB]
theorem aL.Cs {P:Program} {f:FuncId} {args:List AV} {l:List Fr} {Q Q':AV→List Fr→Prop} (h:aL P f args l Q) (hq:∀r L,Q r L→∃A B,L=[A,B]∧A.k=[]∧B.k=[]∧Q' r [B,A]):aL P f args l Q':=by
 intro n m ok
 obtain ⟨r,l',n',m',h1,h2,h3,h4,h5,h6,h7⟩:=h n m ok
 obtain ⟨A,B,rfl,hA,hB,hq'⟩:=hq r l' h7
 have e:=qe h4.zV
 rw[ks2 hA hB,e] at h1
 refine ⟨r,[B,A],n',m',by rw[ks2 hB hA];exact h1,h2,h3,?_,by rw[←e];exact h5,(by rw[ks2 hB hA];intro t ht;cases ht),hq'⟩
 have:=h4.BI
 rwa [ks2 hA hB,←ks2 hB hA] at this
theorem aL.in2 {P:Program} {f:FuncId} {args:List AV} {A B:Fr} {Q:AV→List Fr→Prop} (h:aL P f args [A,B] Q) (hA:A.k=[]) (hB:B.k=[]):aL P f args [B,A] Q:=by
 intro n m ok
 have ok':Ok [A,B] n (ks [A,B]) m:=by
  have:=ok.BI
  rwa [ks2 hB hA,←ks2 hA hB] at this
 obtain ⟨r,l',n',m',h1,h2,h3,h4,h5,h6,h7⟩:=h n m ok'
 have e:=qe ok'.zV
 rw[e,ks2 hA hB,←ks2 hB hA] at h1
 exact ⟨r,l',n',m',h1,h2,h3,h4,by rw[←e];exact h5,by rw[ks2 hA hB,←ks2 hB hA] at h6;exact h6,h7⟩
end Go.Av
namespace Go.Proofs.YtpehfflehebmbaaGreat.Txn
open Go Go.Av Go.Proofs Go.Proofs.YtpehfflehebmbaaGreat.C Go.Proofs.YtpehfflehebmbaaGreat.Batch Go.Proofs.YtpehfflehebmbaaGreat.Space Go.Proofs.YtpehfflehebmbaaGreat.Reads
theorem zX {s:Nat} {S:Spc} {FS:Fr} (hS:cQ s S FS) (sm:lX S) (t:Int) (hb:cB S t=0):aL Tryz.prog 20 [.ptr s 0,.int .i64 t] [FS] (fun r L=>∃x F,r= .tup [.ptr x 0,.int .i64 0]∧L=[FS,F]∧TxF x s ⟨t,[],[],[],false⟩ F):=
 (qE hS sm t hb).Cs fun r L ⟨x,F,h1,h2,h3⟩=>⟨F,FS,h2,h3.k,hS.k,x,F,h1,rfl,h3⟩
theorem Ct {x s:Nat} {Y:Tx} {F:Fr} {S:Spc} {FS:Fr} (hF:TxF x s Y F) (hS:cQ s S FS) (sm:lX S) (q:Bs):
  aL Tryz.prog 14 [.ptr x 0,.str q] [FS,F] fun r L=>r= .tup [.str (dT S Y q).2.1,.int .i64 (dT S Y q).2.2]∧∃F',L=[FS,F']∧TxF x s (dT S Y q).1 F':=
 ((uV hF hS sm q).in2 hF.k hS.k).Cs fun r L ⟨h1,F',h2,h3⟩=>⟨F',FS,h2,h3.k,hS.k,h1,F',rfl,h3⟩
theorem zY {x s:Nat} {Y:Tx} {F:Fr} {S:Spc} {FS:Fr} (hF:TxF x s Y F) (hS:cQ s S FS) (hr:bk S.L) (sm:Small S) (hSk:∀p∈S.L,p.1.length≤1000000) (hrC:Space.bE (ah Y.C)) (hl:Y.C.length≤64) (hCk:∀c∈Y.C,c.k.length≤1000000) (a b:Bs) (most:Int):
  aL Tryz.prog 15 [.ptr x 0,.str a,.str b,.int .i64 most] [FS,F] fun r L=>r= .tup [.sl 2 (prs (cq S Y a b most).2.1) .any,.int .i64 (cq S Y a b most).2.2]∧∃F',L=[FS,F']∧TxF x s (cq S Y a b most).1 F':=
 ((lI hF hS hr sm hSk hrC hl hCk a b most).in2 hF.k hS.k).Cs fun r L ⟨h1,F',h2,h3⟩=>⟨F',FS,h2,h3.k,hS.k,h1,F',rfl,h3⟩
end Go.Proofs.YtpehfflehebmbaaGreat.Txn
end
section
set_option maxRecDepth 10000
namespace Go.Proofs.YtpehfflehebmbaaGreat.Txn
open Go Go.Av Go.Proofs Go.Proofs.YtpehfflehebmbaaGreat.C Go.Proofs.YtpehfflehebmbaaGreat.Batch Go.Proofs.YtpehfflehebmbaaGreat.Space Go.Proofs.YtpehfflehebmbaaGreat.Reads
def jr (c:Ac):Bool:=decide (c.kind≠6)&&decide (c.kind≠5)
theorem Bq (c:Ac) (h:jr c=true):c.kind≠5∧c.kind≠6:=by
 simp only[jr,Bool.and_eq_true,decide_eq_true_eq] at h
 exact ⟨h.2,h.1⟩
theorem zZ {F:Fr} {R:List Fr} {i n m:Nat} {o:Av.Obj} {T:List Nat} (ok:Ok (ob i o::F::R) n T m):F.o i=none:=by
 have h:=(List.pairwise_cons.1 ok.dj).1 F (by simp) i
 rcases h with h|h
 ·simp[aY] at h
 ·exact h
set_option maxHeartbeats 8000000 in
theorem Cu (l more:List Ac) (hl:l.length≤35184372088832) (hv:∀a∈l,a.l.length≤35184372088832) (hl2:more.length≤35184372088832) (hv2:∀a∈more,a.l.length≤35184372088832) (ls1:LsA l) (ls2:LsA more):
  aB Tryz.prog 5 [.sl 5 (l.map Txn.dc) .any,.sl 5 (more.map Txn.dc) .any] (.bool true):=by
 refine f5.aJ (by simp) (by simp[al,av,aK,sT]) rfl ?_
 unfold c5
 simp only[C.zz]
 have hil:(l.map Txn.dc).length=l.length:=by simp
 have hil2:(more.map Txn.dc).length=more.length:=by simp
 have hL:=zU
 have f1:=zp l hl hv
 have f2:=zp more hl2 hv2
 cases hq1:ui l with
 |false=>
  rw[hq1] at f1
  refine rn2 hil f1 hL ?_
  refine aM ?_
  exact ab.refl _
 |true=>
 rw[hq1] at f1
 cases hq2:ui more with
 |false=>
  rw[hq2] at f2
  refine rn3 hil f1 f2 hL ?_
  refine aM ?_
  exact ab.refl _
 |true=>
 rw[hq2] at f2
 have w1:=vp hq1
 have w2:=vp hq2
 have hn1:=w1.n
 have hn2:=w2.n
 have hb:=Bp l w1 ls1
 have hbi:=uu ls1 l.length (Nat.le_refl _)
 rw[List.take_length] at hbi
 generalize bS l=S0 at*
 have hb0:Inv (eX l) (S0,Y0 S0.last).1 (S0,Y0 S0.last).2:=hbi.begin
 have hlv0:Live (S0,Y0 S0.last):=Dn hbi.rt.ml
 refine rn2 hil f1 f2 ?_
 show aa _ _ _ _ ⟨lay [],0,[],0⟩ _ _
 refine aa.eZ xA2 xA3 (hb) (Ok.nil) fun r1 G1 n1 T1 m1 ids1 hq1 on1=>?_
 obtain ⟨w,x,s,F0,FS0,rfl,rfl,hF0,hS0⟩:=hq1
 refine aa.evR xA1 ?_
 refine dp ?_
 refine Wp.fY (β:=Nat) [0,1,5] xA7 (fun j=>[(6,.int .i64 (j:Nat))]) (fun j L=>j≤more.length∧∃F FS,L=[F,FS,ob w (wO s (jq jr (S0,Y0 S0.last) (more.take j)).1 (.ptr x 0) (jq jr (S0,Y0 S0.last) (more.take j)).2)]∧TxF x s (jq jr (S0,Y0 S0.last) (more.take j)).2 F∧cQ s (jq jr (S0,Y0 S0.last) (more.take j)).1 FS) (fun j=>more.length - j) 0 ⟨Nat.zero_le _,F0,FS0,by simp[jq],by simpa [jq] using hF0,by simpa [jq] using hS0⟩ on1.ok xA9 ?_
 rintro j L n5 T5 m5 on5 ⟨hj,F,FS,rfl,hF,hS⟩
 have hI:=oX jr hb0 w2 ls2 j hj
 have hcm:=vv more j
 by_cases hi2:j<more.length
 ·obtain ⟨g1,h2,h3,e1⟩:=ixF (j:=j) (n:=more.length) (by omega) (by omega)
  have hat:=dh Txn.dc more j .any hi2
  have hI2:=oX jr hb0 w2 ls2 (j+1) hi2
  have hcm2:=vv more (j+1)
  have hsn:=mz jr (S0,Y0 S0.last) hi2
  have hm:more.getD j default∈more:=by rw[Av.au hi2];exact List.getElem_mem _
  have hxa:=w2.a _ hm
  have hxb:=w2.b _ hm
  have hxl:=ls2 _ hm
  have hcs:=iC hi2
  generalize hW2:jq jr (S0,Y0 S0.last) (more.take (j+1))=W2 at*
  generalize jq jr (S0,Y0 S0.last) (more.take j)=W1 at*
  obtain ⟨S,Y⟩:=W1
  obtain ⟨S',Y'⟩:=W2
  generalize more.getD j default=c at*
  rw[stW] at hsn
  have no:jr c=false→(S',Y')=(S,Y):=fun h=>by rw[hsn,if_neg (by rw[h];simp)]
  have yes:jr c=true→S'=stS S c∧Y'=stY S Y c:=fun h=>by rw[if_pos h] at hsn;exact ⟨congrArg Prod.fst hsn,congrArg Prod.snd hsn⟩
  simp only at hI hI2 hF hS on5 ⊢
  by_cases k6:c.kind=6
  ·have q6:=decide_eq_true k6
   have e:=no (by rw[jr,decide_eq_false (show ¬c.kind≠6 by simpa using k6),Bool.false_and])
   simp only[Prod.mk.injEq] at e
   refine rn0 (cj8 g1 h2 h3 hil2 hat @Txn.dc.eq_1 q6 e1) ?_
   refine ⟨j+1,_,n5,T5,m5,On.refl on5.ok,⟨by omega,F,FS,by rw[hW2,e.1,e.2],by rw[hW2,e.2];exact hF,by rw[hW2,e.1];exact hS⟩,by omega,?_⟩
   refine aU.of (cR ?_) (fun j o h=>⟨o,h,bW.refl _⟩) (fun _ h=>h) (Nat.le_refl _) (Nat.le_refl _)
   exact xSb
  have q6:=decide_eq_false k6
  by_cases k5:c.kind=5
  ·have q5:=decide_eq_true k5
   have e:=no (by rw[jr,decide_eq_true (show c.kind≠6 from k6),decide_eq_false (show ¬c.kind≠5 by simpa using k5)];rfl)
   simp only[Prod.mk.injEq] at e
   refine rn0 (cj9 g1 h2 h3 hil2 hat @Txn.dc.eq_1 q6 q5 e1) ?_
   refine ⟨j+1,_,n5,T5,m5,On.refl on5.ok,⟨by omega,F,FS,by rw[hW2,e.1,e.2],by rw[hW2,e.2];exact hF,by rw[hW2,e.1];exact hS⟩,by omega,?_⟩
   refine aU.of (cR ?_) (fun j o h=>⟨o,h,bW.refl _⟩) (fun _ h=>h) (Nat.le_refl _) (Nat.le_refl _)
   exact xSb
  have q5:=decide_eq_false k5
  have e:=yes (by rw[jr,decide_eq_true (show c.kind≠6 from k6),decide_eq_true (show c.kind≠5 from k5)];rfl)
  refine rn0 (cj8 g1 h2 h3 hil2 hat @Txn.dc.eq_1 q6 q5) ?_
  refine xb [] xA8 xA4 hF hS hI (by omega) hxa hxb hxl on5.ok fun F' FS' n7 T7 m7 ids7 tk7 hF' hS' on7=>?_
  simp only[←e.1,←e.2,List.nil_append] at hF' hS' on7 ⊢
  refine aa.evR xA1 ?_
  refine rn0 e1 ?_
  refine ⟨j+1,_,n7,T7,m7,on7,⟨by omega,F',FS',by rw[hW2],by rw[hW2];exact hF',by rw[hW2];exact hS'⟩,by omega,?_⟩
  refine aU.of (cR ?_) (fun j o h=>⟨o,h,bW.refl _⟩) (fun _ h=>h) (Nat.le_refl _) (Nat.le_refl _)
  exact xSb
 ·obtain rfl:j=more.length:=by omega
  have g1:=ixE (more.length)
  have hlv:=hlv0.run jr Bq (l:=more) more.length (Nat.le_refl _)
  rw[List.take_length] at*
  generalize jq jr (S0,Y0 S0.last) more=W1 at*
  obtain ⟨S,Y⟩:=W1
  simp only at hI hF hS on5 ⊢
  obtain ⟨lv1,lv2,lv3⟩:=hlv
  simp only at lv1 lv2 lv3
  have fw:=BH on5.ok
  have hwn:=Dw on5.ok
  have aF:F.o w=none:=Cp (A:=[]) (B:=[FS]) (C:=[]) on5.ok
  have hW:=hI.fit.small (show _≤500000 by omega)
  obtain ⟨b1,b2,-,-⟩:=cF hI.ck
  have hlC:=hI.lC
  have gS:=sI hF hS hI.fit.ri hW.wide hI.lC (fun c hc=>by have:=jP (hI.kC c hc);omega) (fun q hq=>by have:=hI.sk q hq;omega)
  refine rn0 (cj4 g1 hil2 @decide_false fw) ?_
  refine aa.bY [] [F,FS] [ob w (wO s S (.ptr x 0) Y)] xA8 xA4 gS on5.ok fun r G' n6 T6 m6 ids6 hq6 on6 hids6=>?_
  obtain ⟨rfl,rfl⟩:=hq6
  simp only[List.nil_append,List.cons_append] at on6 ⊢
  refine aa.evR xA1 ?_
  refine aa.nil ⟨by simp[aw,aq,apart,aG],?_⟩
  cases hst:jd S Y with
  |true=>
   refine rn1 hst hL ?_
   refine aM ?_
   exact ab.refl _
  |false=>
  have fw6:=BH on6.ok
  have hkb:cB S S.last=0:=Space.fT.2 ⟨by have:=hI.tl;omega,Int.le_refl _⟩
  have ok:=on6.ok
  refine xL0 (cj2 hst fw6) (tP hS) ?_
  intro ids
  refine aa.bY [F] [FS] [ob w (wO s S (.ptr x 0) Y)] xA8 xA4 (zX hS hW.wide S.last hkb) on6.ok fun r G' n7 T7 m7 ids7 hq7 on7 hids7=>?_
  obtain ⟨x2,G,rfl,rfl,hG⟩:=hq7
  simp only[List.nil_append,List.cons_append] at on7 ⊢
  have y0:decide ((0:Int)=0)=true:=rfl
  have fw7:lay [F,FS,G,ob w (wO s S (.ptr x 0) Y)] w=some (.cells [.ptr s 0,.sl 2 (S.L.map Space.encI) .any,.int .i64 S.last,.int .i64 S.mark,.ptr x 0,.int .i64 Y.t,.sl 3 (chs Y.C) .any,.sl 1 (strs Y.rk) .any,.sl 2 (sps Y.rs) .any,.bool Y.ended]):=on7.ok.sub (F:=ob w (wO s S (.ptr x 0) Y)) (by simp) w (wO s S (.ptr x 0) Y) (by simp[aY])
  refine aa.evR xA1 ?_
  refine aa.nil ⟨by simp[aw,aq,apart,aG],?_⟩
  refine rn0 (cj2 y0 fw7) ?_
  refine aa.iR ([]) ([FS,G,ob w (wO s S (.ptr x 0) Y)]) xA2 xA3 (wU hF hI.rC hI.lC) (hF.k) (on7.ok) fun n8 m8 ids8 hn8 hm8 hids8 ok8=>?_
  simp only[List.nil_append,List.cons_append] at ok8 ⊢
  refine aa.evR xA1 ?_
  refine aa.nil ⟨by simp[aw,aq,apart,aG],?_⟩
  refine rn0 @ao ?_
  refine Wp.fY (β:=Nat) [5,7,9] xA7 (fun i=>[(10,.int .i64 (i:Nat))]) (fun i L=>i≤Y.C.length∧∃G,L=[F,FS,G,ob w (wO s S (.ptr x 0) Y)]∧TxF x2 s ⟨S.last,Y.C.take i,[],[],false⟩ G) (fun i=>Y.C.length - i) 0 ⟨Nat.zero_le _,G,rfl,by simpa using hG⟩ ok8 xA9 ?_
  rintro i L n9 T9 m9 on9 ⟨hi,G2,rfl,hG2⟩
  by_cases hi3:i<Y.C.length
  ·obtain ⟨g1,h2,h3,e1⟩:=ixF (j:=i) (n:=Y.C.length) (by omega) (by omega)
   have hat:=bZ Y.C i .any hi3
   have hcl:=zR (Y:=⟨S.last,Y.C.take i,[],[],false⟩) hI.rC hI.lC hI.kC hi3 rfl rfl
   have hdv:=lv3 (Y.C.getD i default) (by rw[Av.au hi3];exact List.getElem_mem hi3)
   have hri:Space.bE (ah (Y.C.take i)):=List.Pairwise.sublist ((List.take_sublist i Y.C).map _) hI.rC
   have hli:(Y.C.take i).length≤64:=by rw[List.length_take];have:=hI.lC;omega
   generalize hcc:Y.C.getD i default=c at*
   obtain ⟨ck,cv,cd⟩:=c
   cases cd with
   |true=>
    simp only at hdv
    have hv0:=hdv trivial
    subst hv0
    have gd:=yZ hG2 hri hli ck
    rw[hcl] at gd
    refine rn0 (cj6 g1 h2 h3 @ao hat @aP.eq_1) ?_
    refine aa.bY [F,FS] [G2] [ob w (wO s S (.ptr x 0) Y)] xA8 xA4 gd on9.ok fun r G' na Ta ma idsa hqa ona hidsa=>?_
    obtain ⟨rfl,G3,rfl,hG3⟩:=hqa
    simp only[List.nil_append,List.cons_append] at ona ⊢
    refine aa.evR (by simp only[go_sem,reduceIte,Nat.reduceEqDiff,Nat.reduceAdd,bx,g1,h2,h3,ao,hat,aP,y0,ax,if_true,if_false];exact rfl) ?_
    refine aa.nil ⟨by simp[aw,aq,apart,aG],?_⟩
    refine rn0 (cj2 y0 e1) ?_
    refine ⟨i+1,_,na,Ta,ma,ona,⟨by omega,G3,rfl,hG3⟩,by omega,?_⟩
    refine aU.of (cR ?_) (fun j o h=>⟨o,h,bW.refl _⟩) (fun _ h=>h) (Nat.le_refl _) (Nat.le_refl _)
    exact xSb
   |false=>
    have gd:=yh hG2 hri hli ck cv
    rw[hcl] at gd
    refine rn0 (cj6 g1 h2 h3 @ao hat @aP.eq_1) ?_
    refine aa.bY [F,FS] [G2] [ob w (wO s S (.ptr x 0) Y)] xA8 xA4 gd on9.ok fun r G' na Ta ma idsa hqa ona hidsa=>?_
    obtain ⟨rfl,G3,rfl,hG3⟩:=hqa
    simp only[List.nil_append,List.cons_append] at ona ⊢
    refine aa.evR (by simp only[go_sem,reduceIte,Nat.reduceEqDiff,Nat.reduceAdd,bx,y0];exact rfl) ?_
    refine aa.nil ⟨by simp[aw,aq,apart,aG],?_⟩
    refine rn0 (cj2 y0 e1) ?_
    refine ⟨i+1,_,na,Ta,ma,ona,⟨by omega,G3,rfl,hG3⟩,by omega,?_⟩
    refine aU.of (cR ?_) (fun j o h=>⟨o,h,bW.refl _⟩) (fun _ h=>h) (Nat.le_refl _) (Nat.le_refl _)
    exact xSb
  obtain rfl:i=Y.C.length:=by omega
  rw[List.take_length] at hG2
  have g1:=ixE (Y.C.length)
  have fw9:lay [F,FS,G2,ob w (wO s S (.ptr x 0) Y)] w=some (.cells [.ptr s 0,.sl 2 (S.L.map Space.encI) .any,.int .i64 S.last,.int .i64 S.mark,.ptr x 0,.int .i64 Y.t,.sl 3 (chs Y.C) .any,.sl 1 (strs Y.rk) .any,.sl 2 (sps Y.rs) .any,.bool Y.ended]):=on9.ok.sub (F:=ob w (wO s S (.ptr x 0) Y)) (by simp) w (wO s S (.ptr x 0) Y) (by simp[aY])
  refine rn0 (cj3 g1 @ao fw9) ?_
  refine aa.iR ([]) ([FS,G2,ob w (wO s S (.ptr x 0) Y)]) xA2 xA3 (qQ hF (by omega) (by omega)) (hF.k) (on9.ok) fun nb mb idsb hnb hmb hidsb okb=>?_
  simp only[List.nil_append,List.cons_append] at okb ⊢
  unfold cP
  refine aa.evR xA1 ?_
  refine aa.nil ⟨by simp[aw,aq,apart,aG],?_⟩
  rw[bm,bC]
  have okc:=okb.more (.cells [.sl 1 (strs Y.rk) .any,.sl 2 (sps Y.rs) .any])
  have gr:∀L,lay (ob nb (.cells [.sl 1 (strs Y.rk) .any,.sl 2 (sps Y.rs) .any])::L) nb=some (.cells [.sl 1 (strs Y.rk) .any,.sl 2 (sps Y.rs) .any]):=fun L=>aH nb _ L
  have aR:F.o nb=none:=okb.bd F (by simp) nb (Nat.le_refl _)
  refine rn0 (cj2 gr @an) ?_
  refine Wp.fY (β:=Nat) [5,7,11] xA7 (fun i=>[(12,.int .i64 (i:Nat))]) (fun i L=>i≤Y.rk.length∧∃F G,L=[ob nb (.cells [.sl 1 (strs Y.rk) .any,.sl 2 (sps Y.rs) .any]),F,FS,G,ob w (wO s S (.ptr x 0) Y)]∧TxF x s Y F∧TxF x2 s ⟨S.last,Y.C,kkS Y.C Y.rk i,[],false⟩ G) (fun i=>Y.rk.length - i) 0 ⟨Nat.zero_le _,F,G2,rfl,hF,by simpa [kkS] using hG2⟩ okc xA9 ?_
  rintro i L nc Tc mc onc ⟨hi,F1,G1,rfl,hF1,hG1⟩
  have fwc:lay [ob nb (.cells [.sl 1 (strs Y.rk) .any,.sl 2 (sps Y.rs) .any]),F1,FS,G1,ob w (wO s S (.ptr x 0) Y)] w=some (.cells [.ptr s 0,.sl 2 (S.L.map Space.encI) .any,.int .i64 S.last,.int .i64 S.mark,.ptr x 0,.int .i64 Y.t,.sl 3 (chs Y.C) .any,.sl 1 (strs Y.rk) .any,.sl 2 (sps Y.rs) .any,.bool Y.ended]):=onc.ok.sub (F:=ob w (wO s S (.ptr x 0) Y)) (by simp) w (wO s S (.ptr x 0) Y) (by simp[aY])
  by_cases hi4:i<Y.rk.length
  ·obtain ⟨g1,h2,h3,e1⟩:=ixF (j:=i) (n:=Y.rk.length) (by omega) (by omega)
   have hat:=ba Y.rk i .any hi4
   have hq:Y.rk.getD i []∈Y.rk:=by rw[Av.au hi4];exact List.getElem_mem hi4
   have hag:=xc (S:=S) hI.ck lv1 lv2 hI.tl hq
   have hsg:=ur hI.fit.ri hI.rt lv2 hI.tl hI.ck lv1 hst hi4
   generalize Y.rk.getD i []=q at*
   have gx:=uV hF1 hS hW.wide q
   have gy:=Ct hG1 hS hW.wide q
   rw[hag] at gx
   rw[hsg] at gy
   have z1:decide ((dT S Y q).2.1=(dT S Y q).2.1)=true:=decide_eq_true rfl
   have z2:decide ((dT S Y q).2.2=(dT S Y q).2.2)=true:=decide_eq_true rfl
   refine rn0 (cj8 g1 h2 h3 gr @an hat fwc @Int.toNat_natCast) ?_
   refine aa.bY [ob nb (.cells [.sl 1 (strs Y.rk) .any,.sl 2 (sps Y.rs) .any])] [F1,FS] [G1,ob w (wO s S (.ptr x 0) Y)] xA8 xA4 gx onc.ok fun r G' nd Td md idsd hqd ond hidsd=>?_
   obtain ⟨rfl,F2,rfl,hF2⟩:=hqd
   simp only[List.nil_append,List.cons_append] at ond ⊢
   refine aa.evR xA1 ?_
   refine aa.nil ⟨by simp[aw,aq,apart,aG],?_⟩
   refine rn0 (cj7 g1 h2 h3 gr @an hat @Int.toNat_natCast) ?_
   refine aa.bY [ob nb (.cells [.sl 1 (strs Y.rk) .any,.sl 2 (sps Y.rs) .any]),F2] [FS,G1] [ob w (wO s S (.ptr x 0) Y)] xA8 xA4 gy ond.ok fun r G' ne Te me idse hqe one hidse=>?_
   obtain ⟨rfl,G3,rfl,hG3⟩:=hqe
   simp only[List.nil_append,List.cons_append] at one ⊢
   refine aa.evR xA1 ?_
   refine aa.nil ⟨by simp[aw,aq,apart,aG],?_⟩
   refine rn0 (cj3 z1 z2 e1) ?_
   refine ⟨i+1,_,ne,Te,me,ond.step one,⟨by omega,F2,G3,rfl,hF2,hG3⟩,by omega,?_⟩
   refine aU.of (cR ?_) (fun j o h=>⟨o,h,bW.refl _⟩) (fun _ h=>h) (Nat.le_refl _) (Nat.le_refl _)
   exact xSb
  obtain rfl:i=Y.rk.length:=by omega
  have g1:=ixE (Y.rk.length)
  refine rn0 (cj4 g1 gr @an @ay) ?_
  refine Wp.fY (β:=Nat) [5,7,11] xA7 (fun i=>[(17,.int .i64 (i:Nat))]) (fun i L=>i≤Y.rs.length∧∃F G,L=[ob nb (.cells [.sl 1 (strs Y.rk) .any,.sl 2 (sps Y.rs) .any]),F,FS,G,ob w (wO s S (.ptr x 0) Y)]∧TxF x s Y F∧TxF x2 s ⟨S.last,Y.C,kkS Y.C Y.rk Y.rk.length,Y.rs.take i,false⟩ G) (fun i=>Y.rs.length - i) 0 ⟨Nat.zero_le _,F1,G1,rfl,hF1,by simpa using hG1⟩ onc.ok xA9 ?_
  rintro i L nf Tf mf onf ⟨hi,F3,G4,rfl,hF3,hG4⟩
  have fwf:lay [ob nb (.cells [.sl 1 (strs Y.rk) .any,.sl 2 (sps Y.rs) .any]),F3,FS,G4,ob w (wO s S (.ptr x 0) Y)] w=some (.cells [.ptr s 0,.sl 2 (S.L.map Space.encI) .any,.int .i64 S.last,.int .i64 S.mark,.ptr x 0,.int .i64 Y.t,.sl 3 (chs Y.C) .any,.sl 1 (strs Y.rk) .any,.sl 2 (sps Y.rs) .any,.bool Y.ended]):=onf.ok.sub (F:=ob w (wO s S (.ptr x 0) Y)) (by simp) w (wO s S (.ptr x 0) Y) (by simp[aY])
  by_cases hi5:i<Y.rs.length
  ·obtain ⟨g1,h2,h3,e1⟩:=ixF (j:=i) (n:=Y.rs.length) (by omega) (by omega)
   have hat:=bz Y.rs i .any hi5
   have hq:Y.rs.getD i default∈Y.rs:=by rw[Av.au hi5];exact List.getElem_mem hi5
   have hag:=um (S:=S) hI.ck lv1 hq
   have hsg:=s0 hI.fit.ri hI.rt lv2 hI.tl hI.ck lv1 hst hi5
   generalize Y.rs.getD i default=q at*
   have gx:=lI hF3 hS hI.fit.ri hW hI.kL hI.rC hI.lC hI.kCl q.f q.t (-1)
   have gy:=zY hG4 hS hI.fit.ri hW hI.kL hI.rC hI.lC hI.kCl q.f q.t (-1)
   rw[hag] at gx
   rw[hsg] at gy
   have hsl:=qa hI hW q.f q.t (-1)
   have hsp:=oL (cq S Y q.f q.t (-1)).2.1 (cq S Y q.f q.t (-1)).2.1 hsl
   rw[decide_eq_true rfl] at hsp
   have z2:decide ((cq S Y q.f q.t (-1)).2.2=(cq S Y q.f q.t (-1)).2.2)=true:=decide_eq_true rfl
   refine rn0 (cj9 g1 h2 h3 gr @ay hat @aZ.eq_1 fwf @Int.toNat_natCast) ?_
   refine aa.bY [ob nb (.cells [.sl 1 (strs Y.rk) .any,.sl 2 (sps Y.rs) .any])] [F3,FS] [G4,ob w (wO s S (.ptr x 0) Y)] xA8 xA4 gx onf.ok fun r G' nd Td md idsd hqd ond hidsd=>?_
   obtain ⟨rfl,F4,rfl,hF4⟩:=hqd
   simp only[List.nil_append,List.cons_append] at ond ⊢
   refine aa.evR xA1 ?_
   refine aa.nil ⟨by simp[aw,aq,apart,aG],?_⟩
   refine rn0 (cj8 g1 h2 h3 gr @ay hat @aZ.eq_1 @Int.toNat_natCast) ?_
   refine aa.bY [ob nb (.cells [.sl 1 (strs Y.rk) .any,.sl 2 (sps Y.rs) .any]),F4] [FS,G4] [ob w (wO s S (.ptr x 0) Y)] xA8 xA4 gy ond.ok fun r G' ne Te me idse hqe one hidse=>?_
   obtain ⟨rfl,G5,rfl,hG5⟩:=hqe
   simp only[List.nil_append,List.cons_append] at one ⊢
   refine aa.evR xA1 ?_
   refine aa.nil ⟨by simp[aw,aq,apart,aG],?_⟩
   refine rn1 (cj2 z2 e1) hsp ?_
   refine ⟨i+1,_,ne,Te,me,ond.step one,⟨by omega,F4,G5,rfl,hF4,hG5⟩,by omega,?_⟩
   refine aU.of (cR ?_) (fun j o h=>⟨o,h,bW.refl _⟩) (fun _ h=>h) (Nat.le_refl _) (Nat.le_refl _)
   exact xSb
  obtain rfl:i=Y.rs.length:=by omega
  have g1:=ixE (Y.rs.length)
  have sR:=Reads.s3 Y.rk Y.rs (by omega) (by omega)
  have aN:F3.o nb=none:=zZ onf.ok
  have hnf:=onf.gn
  refine rn0 (cj4 g1 gr @ay fwf) ?_
  refine aa.iR ([ob nb (.cells [.sl 1 (strs Y.rk) .any,.sl 2 (sps Y.rs) .any])]) ([FS,G4,ob w (wO s S (.ptr x 0) Y)]) xA2 xA3 (qQ hF3 (by omega) (by omega)) (hF3.k) (onf.ok) fun ng mg idsg hng hmg hidsg okg=>?_
  have d8:=nid hidsg aN (by have:=onc.gn;omega)
  simp only[List.nil_append,List.cons_append] at okg ⊢
  unfold cP at sR ⊢
  refine aa.evR (by simp only[go_sem,reduceIte,Nat.reduceEqDiff,Nat.reduceAdd,bx,gr,ax,if_true,if_false,Nat.reduceMul,Nat.reduceLeDiff];exact rfl) ?_
  refine rn2 gr sR hL ?_
  refine aa.nil ⟨by
   simp[aw,aq,apart,aG]
   exact fun id h e=>d8 (e▸h),?_⟩
  refine aM ?_
  exact ab.refl _
theorem pb {b:Nat} (avs:List AV) (h:sC (nC Tryz.prog 5) Tryz.f5.params.toList avs) (_:cz avs≤b):aB Tryz.prog 5 avs (.bool true):=by
 rw[Tryz.params5] at h
 cases h with|cons h0 h=>cases h with|cons h1 h=>
 cases h
 obtain ⟨l,rfl,hl,hv⟩:=oW h0
 obtain ⟨more,rfl,hl2,hv2⟩:=oW h1
 exact Cu l more hl (fun x hx=>(hv x hx).2.2.1) hl2 (fun x hx=>(hv2 x hx).2.2.1) (zT hv) (zT hv2)
end Go.Proofs.YtpehfflehebmbaaGreat.Txn
end
section
namespace Go.Proofs.YtpehfflehebmbaaGreat.Txn
open Go Go.Av Go.Proofs Go.Proofs.YtpehfflehebmbaaGreat.C Go.Proofs.YtpehfflehebmbaaGreat.Space
open Go.ChangeShapes Go.WideShapes Go.ChangeAt Go.RowKit
set_option maxRecDepth 100000 in
theorem mA (os:Os) (started:os.Started) (H:Type) (enc:TypeId × Value→H):
  ReturnsInHanded {} Tryz.checked os 5 .any (Rows.txnSerialSpec.pre6 enc Tryz.prog Tryz.f5 Rows.txnSerialRow.domain false) (Rows.txnSerialSpec.post enc Tryz.prog Tryz.f5 false true false false):=by
 refine returnsInHanded_of_change_sized (C:=Tryz.checked) own started (by kernel_rfl) Tryz.func5
  (ChangeSpec.witness6 (enc:=enc) (C:=Tryz.checked) false ⟨#[],#[.slice none 0 0,.slice none 0 0],[]⟩ 8 (by kernel_rfl) (by kernel_rfl) (by kernel_rfl) (by kernel_rfl)) ?_
 intro W base args ds gs before hval hW _ hwt _
 exact wS laid Di BE full rfl (fun l hl=>by match l,hl with|[_,_],_=>rfl) rfl Tryz.underlying4 (by kernel_rfl) (by kernel_rfl) hval hW hwt (fun avs h hb=>pb avs h hb)
theorem said_TxnSerial:Rows.TxnSerialSaid:=
 OpenClaim.holds_of_wide 5 Tryz.f5 rfl rfl rfl rfl rfl rfl rfl ⟨rfl,rfl,rfl,rfl,rfl⟩ rfl rfl rfl rfl rfl (by kernel_rfl) Tryz.func5 (by kernel_rfl)
  (of_decide_eq_true (by kernel_rfl)) (by unfold Func.isWrapper;first|(rw [if_pos (by decide+kernel)];kernel_rfl)|(rw [if_neg (by decide+kernel)];exact ⟨rfl,rfl⟩))
  (fun os started H enc _=>mA os started H enc)
#print axioms said_TxnSerial
end Go.Proofs.YtpehfflehebmbaaGreat.Txn
end
