/- Parts of a proof: a layer of abstract values over the model, the functions' walks, plain laws. -/
import Derived.Deep.CondSized
import Derived.Defers
import Derived.IntWalk
import Derived.KernelRfl
import Derived.Laws.Append
import Derived.Laws.AppendOwn
import Derived.Laws.BytesArg
import Derived.Laws.ComplexArith
import Derived.Laws.Cover3
import Derived.Laws.Entries
import Derived.Laws.IdiomCopy
import Derived.Laws.IdiomStrings
import Derived.Laws.Pointers
import Derived.Laws.Small
import Derived.Laws.Strings
import Derived.Laws.StructEq
import Derived.MapKept
import Derived.OpenShut
import Derived.Orders
import Derived.OrdersIn
import Derived.ProofKit
import Derived.RangeFuncRecord
import Derived.RangeFuncSeq
import Derived.ReadAgain
import Derived.Recover
import Derived.Scope
import Derived.Shelf.Slices.Cells
import Derived.Shelf.Slices.Clone
import Derived.Shelf.Slices.Delete
import Derived.Shelf.Spec.SlicesInsertGrow
import Derived.SizedLaws
import Derived.Tactics
import Derived.Tactics2
import Derived.Test.YtbgmofhgfnmaiaaGreatProg
import Derived.Test.YtbgmofhgfnmaiaaGreatRows
import Derived.WalkSmall
import Derived.Test.YtbgmofhgfnmaiaaGreatZFuD
set_option linter.unusedSimpArgs false
set_option linter.unusedVariables false
section
set_option maxRecDepth 100000
namespace Go.Proofs.YtbgmofhgfnmaiaaGreat.Tree
open Go Go.Av Go.Proofs Go.Proofs.YtbgmofhgfnmaiaaGreat.C Go.Proofs.YtbgmofhgfnmaiaaGreat.Page
open Go.Proofs.YtbgmofhgfnmaiaaGreat.Batch (Bs Pr prs aS)
theorem wM {x:Nat} (h:x<2^64):IntKind.u64.wrap (x:Int)=(x:Int):=by
 unfold IntKind.wrap
 simp[IntKind.bits,IntKind.signed]
 omega
theorem Cl {a b:Nat} (ha:a<2^64) (hb:b<2^64):oR .u64 (a:Int) (b:Int)=((a &&& b:Nat):Int):=by
 have h:=Cd (BitVec.ofNat 64 a) (BitVec.ofNat 64 b)
 rw[BitVec.toNat_and,BitVec.toNat_ofNat,BitVec.toNat_ofNat,Nat.mod_eq_of_lt ha,Nat.mod_eq_of_lt hb] at h
 exact h
theorem wN (a p:Nat):(a:Int).fdiv (p:Int)=((a/p:Nat):Int):=by
 rw[Int.fdiv_eq_ediv_of_nonneg _ ab]
 exact (Int.natCast_ediv a p).symm
theorem uO {x c p:Nat} (hx:x<2^64) (hc:c<2^63):IntKind.u64.wrap (oR .u64 ((x:Int).fdiv (p:Int)) (c:Int)+oR .u64 (x:Int) (c:Int))=(((x/p &&& c)+(x &&& c):Nat):Int):=by
 rw[wN,Cl (Nat.lt_of_le_of_lt (Nat.div_le_self _ _) hx) ab,Cl hx ab]
 have h1:x/p &&& c≤c:=Nat.and_le_right
 have h2:x &&& c≤c:=Nat.and_le_right
 rw[←Int.natCast_add]
 exact wM ab
theorem Fy {y:Nat} (hy:y<2^63):oR .i64 (IntKind.i64.wrap (y:Int)) 127=((y%128:Nat):Int):=by
 have e0:IntKind.i64.wrap (y:Int)=y:=IntWalk.i64_in _ ab
 rw[e0]
 unfold oR
 have e1:BitVec.ofInt IntKind.i64.bits (y:Int)=BitVec.ofNat 64 y:=by
  show BitVec.ofInt 64 (y:Int)=_
  simp
 have e2:BitVec.ofInt IntKind.i64.bits 127=BitVec.ofNat 64 127:=rfl
 rw[e1,e2]
 have e3:(BitVec.ofNat 64 y &&& BitVec.ofNat 64 127).toNat=y%128:=by
  rw[BitVec.toNat_and,BitVec.toNat_ofNat,BitVec.toNat_ofNat,Nat.mod_eq_of_lt (show y<2^64 by omega)]
  exact Nat.and_two_pow_sub_one_eq_mod y 7
 show IntKind.i64.wrap (((BitVec.ofNat 64 y &&& BitVec.ofNat 64 127).toNat:Nat):Int)=_
 rw[e3]
 exact IntWalk.i64_in _ ab
theorem D7 {x p c:Nat} (hx:x/p+x<2^64) (hc:c<2^63:=by decide):oR .u64 (IntKind.u64.wrap ((x:Int).fdiv (p:Int)+(x:Int))) (c:Int)=((x/p+x &&& c:Nat):Int):=by
 rw[wN,←Int.natCast_add,wM hx,Cl hx ab]
theorem sY {x p:Nat} (hx:x+x/p<2^64):IntKind.u64.wrap ((x:Int)+(x:Int).fdiv (p:Int))=((x+x/p:Nat):Int):=by
 rw[wN,←Int.natCast_add,wM hx]
theorem GO (x:Nat) (hx:x<2^64):bc Tryz.prog 98 [.int .u64 x] (.int .i64 ((pa 64 x:Nat):Int)):=by
 refine f98.dB af (by simp[aU,bq]) rfl ?_
 unfold c98 zz
 rw[←D5 x hx]
 obtain ⟨X1,h1⟩:∃X1,X1=(x/2 &&& 6148914691236517205)+(x &&& 6148914691236517205):=⟨_,rfl⟩
 have b1:X1<2^64:=by
  have:x/2 &&& 6148914691236517205≤6148914691236517205:=Nat.and_le_right
  have:x &&& 6148914691236517205≤6148914691236517205:=Nat.and_le_right
  omega
 obtain ⟨X2,h2⟩:∃X2,X2=(X1/4 &&& 3689348814741910323)+(X1 &&& 3689348814741910323):=⟨_,rfl⟩
 have b2:X2≤3689348814741910323+3689348814741910323:=by
  have:X1/4 &&& 3689348814741910323≤3689348814741910323:=Nat.and_le_right
  have:X1 &&& 3689348814741910323≤3689348814741910323:=Nat.and_le_right
  omega
 obtain ⟨X3,h3⟩:∃X3,X3=(X2/16+X2) &&& 1085102592571150095:=⟨_,rfl⟩
 have b3:X3≤1085102592571150095:=by rw[h3];exact Nat.and_le_right
 obtain ⟨Y1,g1⟩:∃Y1,Y1=X3+X3/256:=⟨_,rfl⟩
 obtain ⟨Y2,g2⟩:∃Y2,Y2=Y1+Y1/65536:=⟨_,rfl⟩
 obtain ⟨Y3,g3⟩:∃Y3,Y3=Y2+Y2/4294967296:=⟨_,rfl⟩
 have eN:D3 (D2 x)=Y3%128:=by rw[g3,g2,g1,h3,h2,h1];rfl
 rw[eN]
 refine Wp.aG xA1 ag ?_
 refine Wp.aG xA1 ag ?_
 refine Wp.le (s':=⟨tm [(0,.int .u64 (X1:Int))],H0 0 0⟩) (aK.tm ?_) ?_
 ·simp only[ba,go_sem,reduceIte,Nat.reduceEqDiff,bx]
  refine ⟨ay.int ?_,trivial⟩
  rw[h1]
  exact uO (p:=2) hx ah
 refine Wp.aG xA1 ag ?_
 refine Wp.le (s':=⟨tm [(0,.int .u64 (X2:Int))],H0 0 0⟩) (aK.tm ?_) ?_
 ·simp only[ba,go_sem,reduceIte,Nat.reduceEqDiff,bx]
  refine ⟨ay.int ?_,trivial⟩
  rw[h2]
  exact uO (p:=4) b1 ah
 refine Wp.aG xA1 ag ?_
 refine Wp.le (s':=⟨tm [(0,.int .u64 (X3:Int))],H0 0 0⟩) (aK.tm ?_) ?_
 ·simp only[ba,go_sem,reduceIte,Nat.reduceEqDiff,bx]
  refine ⟨ay.int ?_,trivial⟩
  rw[h3]
  exact D7 (p:=16) ab
 refine Wp.aG xA1 ag ?_
 refine Wp.le (s':=⟨tm [(0,.int .u64 (Y1:Int))],H0 0 0⟩) (aK.tm ?_) ?_
 ·simp only[ba,go_sem,reduceIte,Nat.reduceEqDiff,bx]
  refine ⟨ay.int ?_,trivial⟩
  rw[g1]
  exact sY (p:=256) ab
 refine Wp.aG xA1 ag ?_
 refine Wp.le (s':=⟨tm [(0,.int .u64 (Y2:Int))],H0 0 0⟩) (aK.tm ?_) ?_
 ·simp only[ba,go_sem,reduceIte,Nat.reduceEqDiff,bx]
  refine ⟨ay.int ?_,trivial⟩
  rw[g2]
  exact sY (p:=65536) ab
 refine Wp.aG xA1 ag ?_
 refine Wp.le (s':=⟨tm [(0,.int .u64 (Y3:Int))],H0 0 0⟩) (aK.tm ?_) ?_
 ·simp only[ba,go_sem,reduceIte,Nat.reduceEqDiff,bx]
  refine ⟨ay.int ?_,trivial⟩
  rw[g3]
  exact sY (p:=4294967296) ab
 refine Wp.aG xA1 ag ?_
 refine Wp.ret ⟨trivial,.int .i64 (oR .i64 (IntKind.i64.wrap (Y3:Int)) 127),?_,?_⟩
 ·simp only[go_sem]
  exact rfl
 ·rw[Fy ab]
  exact ay.refl _
def mb (ws:List W) (j:Nat):Nat:=((ws.take j).map fun w=>pa 64 w.toNat).sum
theorem GP (k x:Nat):pa k x≤k:=by
 induction k generalizing x with
 |zero=>exact Nat.le_refl _
 |succ k ih=>have:=ih (x/2);simp only[pa];omega
theorem nV {ws:List W} {j:Nat} (h:j<ws.length):mb ws (j+1)=mb ws j+pa 64 (ws.getD j 0).toNat:=by
 unfold mb
 rw[List.take_succ_eq_append_getElem h,List.map_append,List.sum_append]
 simp[List.getD,List.getElem?_eq_getElem h]
theorem xZ (ws:List W):∀j,j≤ws.length→mb ws j≤64*j
 |0,_=>by simp[mb]
 |j+1,h=>by
  rw[nV ab]
  have:=xZ ws j ab
  have:=GP 64 (ws.getD j 0).toNat
  omega
theorem Fz {h:H} {A U np:Nat} {ws:List W} (ho:h.objs A=some (alO np U ws.length)) (hu:h.objs U=some (.cells (di ws))) (h0:0<np) (hn:np<100000) (hl:ws.length<10000):
  aI Tryz.prog 66 [.ptr A 0] h (.int .i64 ((np:Int) - (mb ws ws.length:Nat))) h:=by
 refine f66.bW af ?_
 unfold c66 zz
 have c1:=sX ho h0
 unfold alO at ho
 have e0:(np:Int) - (mb ws 0:Nat)=np:=by simp[mb]
 refine rg1 (cj2 ho @Bool.not_true) c1 ?_
 refine Wp.eV [16,17] xA7 (fun j:Nat=>[(3,.int .i64 ((np:Int) - (mb ws j:Nat))),(18,.int .i64 j)]) (fun _=>h) (fun j=>j≤ws.length) (fun j=>ws.length - j) 0 (Nat.zero_le _) rfl ?_ ?_
 ·rw[e0]
  exact xSb
 intro j hj
 by_cases hjl:j<ws.length
 ·have d1:decide ((j:Int)<(ws.length:Int))=true:=decide_eq_true ab
  have g1:(0:Int)≤(j:Int):=by omega
  have g2:(j:Int)<(ws.length:Int):=by omega
  have g3:(di ws)[j]? =some (.int .u64 ((ws.getD j 0).toNat:Int)):=by simp[di,nU,List.getD,List.getElem?_eq_getElem hjl]
  have c2:=GO (ws.getD j 0).toNat (ws.getD j 0).isLt
  have w1:IntKind.i64.wrap ((j:Int)+1)=((j+1:Nat):Int):=by rw[IntWalk.i64_in _ ab];rfl
  have b1:=xZ ws (j+1) hjl
  have b2:=nV hjl
  have w2:IntKind.i64.wrap ((np:Int) - (mb ws j:Nat) - (pa 64 (ws.getD j 0).toNat:Nat))=(np:Int) - (mb ws (j+1):Nat):=by
   rw[IntWalk.i64_in _ ab];omega
  generalize (ws.getD j 0).toNat=x at g3 c2 w2
  refine rf1 (cT ho hu d1 g1 g2 g3 w1 w2 @and_self @Nat.zero_add @Nat.mul_one @Int.toNat_natCast) c2 ?_
  refine ⟨j+1,hjl,ab,?_⟩
  refine aK.tm ?_
  exact xSb
 ·obtain rfl:j=ws.length:=by omega
  have d1:decide ((ws.length:Int)<(ws.length:Int))=false:=decide_eq_false ab
  refine rf0 d1 ?_
  refine Wp.ret ⟨trivial,_,?_,ay.refl _,rfl⟩
  simp only[go_sem]
  exact rfl
structure PgI where
 (P A U D K I:Nat)
structure PgS where
 (np:Nat) (ws:List W) (st:List Nat) (p d:List (Nat × List UInt8)) (tk:Option Nat)
def ic (l:List Nat):List AV:=l.map fun z:Nat=> .int .i64 (z:Int)
structure PgH (x:PgI) (s:PgS) (T:List Nat) (h:H):Prop where
 oP:h.objs x.P=some (.cells [.ptr x.A 0,.ptr x.D 0,.int .i64 0,.tsl 1 x.I 0 s.st.length none])
 oA:h.objs x.A=some (alO s.np x.U s.ws.length)
 oU:h.objs x.U=some (.cells (di s.ws))
 oD:h.objs x.D=some (dkO x.K (8*s.np) (cZ s.p s.tk))
 oK:h.objs x.K=some (.bk ⟨8*s.np,s.d⟩)
 oI:h.objs x.I=some (.cells (ic s.st))
 lt:x.P<h.n∧x.A<h.n∧x.U<h.n∧x.D<h.n∧x.K<h.n∧x.I<h.n
 ne:x.P≠x.A∧x.P≠x.U∧x.P≠x.D∧x.P≠x.K∧x.P≠x.I∧x.A≠x.U∧x.A≠x.D∧x.A≠x.K∧x.A≠x.I∧x.U≠x.D∧x.U≠x.K∧x.U≠x.I∧x.D≠x.K∧x.D≠x.I∧x.K≠x.I
 fresh:∀j,h.n≤j→h.objs j=none
 toks:h.toks=tkT s.tk T
 tm:∀t∈T,t<h.m
 tkm:∀t,s.tk=some t→t<h.m∧t∉T
 tk0:s.tk=none→s.p=[]
def ct (x:PgI) (h h':H):Prop:=∀j,j<h.n→j≠x.P→j≠x.A→j≠x.U→j≠x.D→j≠x.K→j≠x.I→h'.objs j=h.objs j
theorem PgH.keep {x:PgI} {s:PgS} {T:List Nat} {h h':H} (g:PgH x s T h) (q:∀j,j<h.n→h'.objs j=h.objs j) (hn:h.n≤h'.n) (hf:∀j,h'.n≤j→h'.objs j=none) (ht:h'.toks=h.toks) (hm:h.m≤h'.m):PgH x s T h' where
 oP:=(q _ g.lt.1).trans g.oP
 oA:=(q _ g.lt.2.1).trans g.oA
 oU:=(q _ g.lt.2.2.1).trans g.oU
 oD:=(q _ g.lt.2.2.2.1).trans g.oD
 oK:=(q _ g.lt.2.2.2.2.1).trans g.oK
 oI:=(q _ g.lt.2.2.2.2.2).trans g.oI
 lt:=by have:=g.lt;omega
 ne:=g.ne
 fresh:=hf
 toks:=ht.trans g.toks
 tm:=fun t h=>Nat.lt_of_lt_of_le (g.tm t h) hm
 tkm:=fun t h=>⟨Nat.lt_of_lt_of_le (g.tkm t h).1 hm,(g.tkm t h).2⟩
 tk0:=g.tk0
theorem PgH.sZ {x:PgI} {s:PgS} {T:List Nat} {h:H} (g:PgH x s T h) {ws:List W} (hl:ws.length=s.ws.length):PgH x {s with ws:=ws} T {h with objs:=upd h.objs x.U (some (.cells (di ws)))}:=by
 have ne:=g.ne
 have lt:=g.lt
 have q:∀j,j≠x.U→upd h.objs x.U (some (Av.Obj.cells (di ws))) j=h.objs j:=fun j hj=>by simp only[upd];rw[if_neg hj]
 exact {
  oP:=(q _ ne.2.1).trans g.oP
  oA:=(q _ ne.2.2.2.2.2.1).trans (by rw[g.oA];simp only[hl])
  oU:=by simp only[upd,if_true]
  oD:=(q _ (Ne.symm ne.2.2.2.2.2.2.2.2.2.1)).trans g.oD
  oK:=(q _ (Ne.symm ne.2.2.2.2.2.2.2.2.2.2.1)).trans g.oK
  oI:=(q _ (Ne.symm ne.2.2.2.2.2.2.2.2.2.2.2.1)).trans g.oI
  lt:=lt
  ne:=ne
  fresh:=fun j hj=>(q j (by simp only at hj;omega)).trans (g.fresh j hj)
  toks:=g.toks
  tm:=g.tm
  tkm:=g.tkm
  tk0:=g.tk0}
theorem PgH.nW {x:PgI} {s:PgS} {T:List Nat} {h:H} (g:PgH x s T h) {st:List Nat} (hl:st.length=s.st.length):PgH x {s with st:=st} T {h with objs:=upd h.objs x.I (some (.cells (ic st)))}:=by
 have ne:=g.ne
 have lt:=g.lt
 have q:∀j,j≠x.I→upd h.objs x.I (some (Av.Obj.cells (ic st))) j=h.objs j:=fun j hj=>by simp only[upd];rw[if_neg hj]
 exact {
  oP:=(q _ ne.2.2.2.2.1).trans (by rw[g.oP];simp only[hl])
  oA:=(q _ ne.2.2.2.2.2.2.2.2.1).trans g.oA
  oU:=(q _ ne.2.2.2.2.2.2.2.2.2.2.2.1).trans g.oU
  oD:=(q _ ne.2.2.2.2.2.2.2.2.2.2.2.2.2.1).trans g.oD
  oK:=(q _ ne.2.2.2.2.2.2.2.2.2.2.2.2.2.2).trans g.oK
  oI:=by simp only[upd,if_true]
  lt:=lt
  ne:=ne
  fresh:=fun j hj=>(q j (by simp only at hj;omega)).trans (g.fresh j hj)
  toks:=g.toks
  tm:=g.tm
  tkm:=g.tkm
  tk0:=g.tk0}
theorem ct.trans {x:PgI} {h h1 h2:H} (a:ct x h h1) (b:ct x h1 h2) (hn:h.n≤h1.n):ct x h h2:=
 fun j hj a1 a2 a3 a4 a5 a6=>(b j ab a1 a2 a3 a4 a5 a6).trans (a j hj a1 a2 a3 a4 a5 a6)
theorem ct.refl (x:PgI) (h:H):ct x h h:=fun _ _ _ _ _ _ _ _=>rfl
theorem ct.sZ {x:PgI} {h:H} {o:Option Av.Obj}:ct x h {h with objs:=upd h.objs x.U o}:=fun j _ _ _ a3 _ _ _=>by simp only[upd];rw[if_neg a3]
theorem ct.nW {x:PgI} {h:H} {o:Option Av.Obj}:ct x h {h with objs:=upd h.objs x.I o}:=fun j _ _ _ _ _ _ a6=>by simp only[upd];rw[if_neg a6]
theorem aq.trans {h h1 h2:H} (a:aq h h1) (b:aq h1 h2) (n1:h.n≤h1.n) (n2:h1.n≤h2.n):aq h h2:=fun j hj=>by
 rcases b j hj with c|c
 ·rcases a j c with d|d
  ·exact .inl d
  ·exact .inr ⟨d.1,ab⟩
 ·exact .inr ⟨ab,c.2⟩
theorem aq.refl (h:H):aq h h:=fun _ hj=> .inl hj
theorem aq.set {h:H} {i:Nat} {o:Option Av.Obj} {p:Av.Obj} (hp:h.objs i=some p):aq h {h with objs:=upd h.objs i o}:=fun j hj=> .inl (by
 simp only[upd] at hj
 by_cases e:j=i
 ·rw[e,hp];rfl
 ·rw[if_neg e] at hj;exact hj)
structure bP (s:PgS):Prop where
 np0:0<s.np
 np1:s.np≤500
 st:s.st.length=s.np
 st3:∀i,s.st.getD i 0≤3
 wl:s.ws.length=(s.np+63)/64
 bit:∀i,eI s.ws i=(decide (i<s.np)&& !decide (s.st.getD i 0=0))
 pl:∀x∈s.p,x.2.length=128∧x.1<8*s.np
 dl:∀x∈s.d,x.2.length=128
def wrs (i:Nat) (l:List UInt8) (k:Nat):List (Nat × List UInt8):=(List.range k).map fun j=>(i*8+j,(l.drop (j*128)).take 128)
theorem uP (i:Nat) (l:List UInt8) (k:Nat):wrs i l (k+1)=wrs i l k++[(i*8+k,(l.drop (k*128)).take 128)]:=by
 simp[wrs,List.range_succ]
structure OvI (x:PgI) (s:PgS) (T:List Nat) (i:Nat) (l:List UInt8) (h0:H) (k:Nat) (h:H):Prop where
 le:k≤8
 pg:∃tk,PgH x {s with p:=s.p++wrs i l k,tk:=tk} T h
 wh:h.objs h0.n=some (.cells (ar l))
 sm:ct x h0 h
 no:aq h0 h
 ln:h0.n+1≤h.n
 lm:h0.m≤h.m
theorem ie {x:PgI} {s:PgS} {T:List Nat} {h:H} (g:PgH x s T h):aI Tryz.prog 64 [.ptr x.P 0] h (.bool true) h:=by
 refine f64.bW af ?_
 unfold c64 zz
 have ho:=g.oP
 refine rf0 (cj2 ho @Bool.not_true) ?_
 refine Wp.ret ⟨trivial,_,?_,ay.refl _,rfl⟩
 simp only[go_sem]
 exact rfl
theorem ni {x:PgI} {s:PgS} {T:List Nat} {h:H} (g:PgH x s T h) {i:Nat} (hi:i<s.st.length):aI Tryz.prog 81 [.ptr x.P 0,.int .i64 i] h (.bool true) h:=by
 refine f81.bW af ?_
 unfold c81 zz
 have ho:=g.oP
 have d1:decide ((0:Int)≤(i:Int))=true:=decide_eq_true ab
 have d2:decide ((i:Int)<(s.st.length:Int))=true:=decide_eq_true ab
 refine rf0 (cj3 ho d1 d2) ?_
 refine Wp.ret ⟨trivial,_,?_,ay.refl _,rfl⟩
 simp only[go_sem]
 exact rfl
theorem D8 {x:PgI} {s:PgS} {T:List Nat} {i k:Nat} {l:List UInt8} {h0 h:H} {cap:Option Nat} (hD0:x.D<h0.n) (o:OvI x s T i l h0 k h) (np1:s.np≤500) (hk:k<8) (hl:l.length=1024) (hi:i<s.np) (hp:s.p.length<900000):
  aM Tryz.prog 146 [.ptr x.D 0,.int .i64 ((i*8+k:Nat):Int),.tsl 1 h0.n (k*128) 128 cap] h fun r h'=>r= .int .i64 0∧OvI x s T i l h0 (k+1) h'∧aq h h':=by
 obtain ⟨tk,g⟩:=o.pg
 have hb:((ar l).drop (k*128)).take 128=ar ((l.drop (k*128)).take 128):=by simp[ar,List.map_drop,List.map_take]
 have hw:=DX (n:=h.n) (m:=h.m) (T:=T) (cap:=cap) (i:=i*8+k) (l:=(l.drop (k*128)).take 128) g.oD o.wh ak hb (by simp[ar];omega) (by simp only;omega) g.lt.2.2.2.1 (by have:=o.ln;omega) (g.fresh _ (Nat.le_refl _)) (fun t h=>(g.tkm t h).2) g.tk0 (by simp[wrs];omega)
 have hh:h=⟨h.objs,h.n,tkT tk T,h.m⟩:=by
  have:=g.toks
  cases h
  simp only at this
  rw[this]
 have ne:=g.ne
 have lt:=g.lt
 have ln:=o.ln
 have lm:=o.lm
 rw[←hh] at hw
 refine ⟨_,_,hw,Nat.le_succ _,Nat.le_succ _,rfl,?_⟩
 have q:∀j,j≠x.D→upd h.objs x.D (some (dkO x.K (8*s.np) (cZ (s.p++wrs i l k++[(i*8+k,(l.drop (k*128)).take 128)]) (some h.m)))) j=h.objs j:=fun j hj=>by simp only[upd];rw[if_neg hj]
 refine ⟨⟨ab,⟨some h.m,?_⟩,?_,fun j hj a1 a2 a3 a4 a5 a6=>(q j a4).trans (o.sm j hj a1 a2 a3 a4 a5 a6),fun j hj=>?_,?_,?_⟩,fun j hj=> .inl ?_⟩
 rotate_right
 ·simp only[upd] at hj
  by_cases e:j=x.D
  ·rw[e,g.oD];rfl
  ·rw[if_neg e] at hj;exact hj
 ·exact {
   oP:=(q _ ne.2.2.1).trans g.oP
   oA:=(q _ ne.2.2.2.2.2.2.1).trans g.oA
   oU:=(q _ ne.2.2.2.2.2.2.2.2.2.1).trans g.oU
   oD:=by
    simp only[upd,if_true]
    rw[uP,List.append_assoc]
   oK:=(q _ (Ne.symm ne.2.2.2.2.2.2.2.2.2.2.2.2.1)).trans g.oK
   oI:=(q _ (Ne.symm ne.2.2.2.2.2.2.2.2.2.2.2.2.2.1)).trans g.oI
   lt:=by simp only;omega
   ne:=ne
   fresh:=fun j hj=>(q j (by simp only at hj;omega)).trans (g.fresh j (by simp only at hj;omega))
   toks:=rfl
   tm:=fun t ht=>Nat.lt_succ_of_lt (g.tm t ht)
   tkm:=fun t ht=>by
    cases ht
    exact ⟨Nat.lt_succ_self _,fun e=>Nat.lt_irrefl _ (g.tm _ e)⟩
   tk0:=fun e=>by cases e}
 ·exact (q _ ab).trans o.wh
 ·simp only[upd] at hj
  by_cases e:j=x.D
  ·refine (o.no j ?_).imp id fun a=>⟨a.1,Nat.lt_succ_of_lt a.2⟩
   rw[e,g.oD];rfl
  ·rw[if_neg e] at hj
   exact (o.no j hj).imp id fun a=>⟨a.1,Nat.lt_succ_of_lt a.2⟩
 ·simp only;omega
 ·simp only;omega
set_option maxHeartbeats 1000000 in
theorem Cm {x:PgI} {s:PgS} {T:List Nat} {h0:H} (g:PgH x s T h0) (np1:s.np≤500) {i:Nat} {l:List UInt8} (hl:l.length=1024) (hi:i<s.np) (hp:s.p.length<900000):
  aM Tryz.prog 115 [.ptr x.P 0,.int .i64 i,.sl 1 (ar l) .any] h0 fun r h=>r= .int .i64 0∧(∃tk,PgH x {s with p:=s.p++wrs i l 8,tk:=tk} T h)∧ct x h0 h∧aq h0 h:=by
 refine f115.cq af ?_
 unfold Gf
 obtain ⟨Z,hZ⟩:∃Z,Z=List.replicate 1024 (AV.int .u8 0):=⟨_,rfl⟩
 rw[←hZ]
 have hZl:Z.length=1024:=by rw[hZ];simp
 have hZc:Z.all aP=true:=by rw[hZ];simp[aP]
 clear hZ
 have z3:List.drop 1024 Z=[]:=List.drop_eq_nil_of_le ab
 have y1:(ar l).length=1024:=by simp[ar,hl]
 refine rf0 (cj2 hZl hZc) ?_
 refine an.opA ae (by simp only[fE,jO,jN,go_sem,reduceIte,Nat.reduceEqDiff,Nat.reduceAdd,bx,ax,if_true,if_false,Nat.reduceMul,Nat.reduceLeDiff,hZl,y1,List.map,Nat.zero_add,Nat.one_mul,Nat.mul_one,Nat.reduceLeDiff,and_self,Int.toNat_zero,Nat.sub_zero,Nat.reduceMul];exact rfl) ?_
 simp only[bY]
 have y2:(ar l).all aP=true:=by simp[ar,byte,aP]
 have m3:Int.toNat 1024≤1024:=by decide
 have m1:min 1024 (Int.toNat 1024)=1024:=rfl
 have m2:List.take 1024 (ar l)=ar l:=List.take_of_length_le ab
 refine an.evF xAc ?_
 refine an.opA ae (by simp only[fE,jO,jN,go_sem,reduceIte,Nat.reduceEqDiff,Nat.reduceAdd,bx,ax,if_true,if_false,Nat.reduceMul,Nat.reduceLeDiff,m1,m2,m3,y2,hZl,y1,z3,Nat.min_self,List.append_nil,List.take_zero,List.nil_append,Nat.zero_add,Nat.reduceLeDiff,and_self,ne_eq,not_false_eq_true,not_true];exact rfl) ?_
 simp only[bY]
 refine an.nil ?_
 rw[bg]
 have j0:OvI x s T i l h0 0 {h0 with objs:=upd h0.objs h0.n (some (.cells (ar l))),n:=h0.n+1}:=by
  have lt:=g.lt
  have q:∀j,j<h0.n→upd h0.objs h0.n (some (Av.Obj.cells (ar l))) j=h0.objs j:=fun j hj=>by simp only[upd];rw[if_neg ab]
  refine ⟨ab,⟨s.tk,?_⟩,by simp[upd],fun j hj _ _ _ _ _ _=>q j hj,fun j hj=>?_,Nat.le_refl _,Nat.le_refl _⟩
  ·have e0:({s with p:=s.p++wrs i l 0,tk:=s.tk}:PgS)=s:=by cases s;simp[wrs]
   rw[e0]
   refine g.keep q (Nat.le_succ _) (fun j hj=>?_) rfl (Nat.le_refl _)
   simp only[upd]
   simp only at hj
   rw[if_neg ab]
   exact g.fresh j ab
  ·simp only[upd] at hj
   by_cases e:j=h0.n
   ·exact .inr ⟨ab,by simp only;omega⟩
   ·rw[if_neg e] at hj;exact .inl hj
 generalize hh1:(⟨upd h0.objs h0.n (some (.cells (ar l))),h0.n+1,h0.toks,h0.m⟩:H)=h1 at*
 refine Wp.le (s':=⟨tm [(0,.ptr x.P 0),(1,.int .i64 i),(7,.ptr h0.n 0)],h1⟩) (aK.tm ?_) ?_
 ·exact xSb
 refine rf0 @and_self ?_
 refine Wp.eV [0,1,7] xA7 (fun b:Nat × H=>[(14,.int .i64 (b.1:Int))]) (fun b=>b.2) (fun b=>OvI x s T i l h0 b.1 b.2) (fun b=>8 - b.1) (0,h1) j0 rfl ?_ ?_
 ·exact xSb
 clear hh1 j0 h1
 rintro ⟨k,h⟩ o
 simp only at o
 obtain ⟨tk,g2⟩:=o.pg
 by_cases hk:k<8
 ·have d1:decide ((k:Int)<8)=true:=decide_eq_true ab
  have w1:IntKind.i64.wrap ((k:Int)*128)=((k*128:Nat):Int):=by rw[IntWalk.i64_in _ ab];omega
  have w2:IntKind.i64.wrap ((k:Int)+1)=((k+1:Nat):Int):=by rw[IntWalk.i64_in _ ab];rfl
  have w3:IntKind.i64.wrap (((k+1:Nat):Int)*128)=(((k+1)*128:Nat):Int):=by rw[IntWalk.i64_in _ ab];omega
  have wh:=o.wh
  refine rf0 (cj4 d1 w1 w2 w3) ?_
  have s1:(0:Int)≤((k*128:Nat):Int):=by omega
  have s2:((k*128:Nat):Int)≤(((k+1)*128:Nat):Int):=by omega
  have s3:(((k+1)*128:Nat):Int)≤((1024:Nat):Int):=by omega
  have s4:(k+1)*128 - k*128=128:=by omega
  refine an.opA ae (by simp only[fE,jO,jN,go_sem,reduceIte,Nat.reduceEqDiff,Nat.reduceAdd,bx,ax,if_true,if_false,Nat.reduceMul,Nat.reduceLeDiff,wh,s1,s2,s3,s4,y1,Int.toNat_natCast,Nat.zero_add,Nat.mul_one,Nat.one_mul,Nat.reduceLeDiff,and_self];exact rfl) ?_
  simp only[bY]
  refine an.evF xAc ?_
  refine an.nil ?_
  have oP:=g2.oP
  have v1:IntKind.i64.wrap ((i:Int)*8)=((i*8:Nat):Int):=by rw[IntWalk.i64_in _ ab];omega
  have v2:IntKind.i64.wrap (0+((i*8:Nat):Int))=((i*8:Nat):Int):=by rw[IntWalk.i64_in _ ab];omega
  have v3:IntKind.i64.wrap (((i*8:Nat):Int)+(k:Int))=((i*8+k:Nat):Int):=by rw[IntWalk.i64_in _ ab];rfl
  refine Wp.seq (Wp.reg ?_)
  refine ao.part 14 (xAe (cj4 oP v1 v2 v3)) ?_
  simp only[List.drop_succ_cons,List.drop_zero,List.drop_nil]
  refine ao.aY ae xA4 (fun j hj=>?_) (D8 g.lt.2.2.2.1 o np1 hk hl hi hp) (fun r h' hq=>hq.2.2) fun r h' hq hn hm=>?_
  ·rcases Nat.lt_or_ge j h.n with h1|h1
   ·exact h1
   ·rw[g2.fresh j h1] at hj;cases hj
  obtain ⟨rfl,o2,-⟩:=hq
  refine ao.part 1 xA1 ?_
  simp only[List.drop_succ_cons,List.drop_zero,List.drop_nil]
  refine ao.nil ⟨by simp[bw,aV,apart,aT],?_⟩
  refine rf0 w2 ?_
  refine ⟨(k+1,h'),o2,by simp only;omega,?_⟩
  refine aK.tm ?_
  exact xSb
 ·have e8:k=8:=by have:=o.le;omega
  subst e8
  have d1:decide (((8:Nat):Int)<8)=false:=by decide
  refine rf0 d1 ?_
  refine Wp.ret ⟨trivial,.int .i64 0,?_,rfl,⟨tk,g2⟩,o.sm,o.no⟩
  simp only[go_sem]
  exact rfl
theorem nj {ws:List W} {np i:Nat} (h:hM ws np=some i):i<np∧eI ws i=false:=by
 obtain ⟨h1,h2,-⟩:=List.find?_range_eq_some.1 h
 exact ⟨List.mem_range.1 h2,by simpa using h1⟩
theorem s5 {st:List Nat} {i:Nat} (hi:i<st.length) (z:Nat) (zi:Int) (e:zi=(z:Int)):List.take i (ic st)++[.int .i64 zi]++List.drop (i+1) (ic st)=ic (st.set i z):=by
 unfold ic
 rw[List.map_set,List.set_eq_take_append_cons_drop,if_pos (by simpa using hi),e]
 simp
theorem mc {st:List Nat} {i:Nat} (hi:i<st.length):(ic st)[i]? =some (.int .i64 (st.getD i 0:Nat)):=by
 simp[ic,List.getD,List.getElem?_eq_getElem hi]
section
variable {x:PgI} {s:PgS} {T:List Nat} {h:H} {i:Nat} {l:List UInt8}
theorem uQ (g:PgH x s T h) (ok:bP s) (hl:l.length=1024) (hf:hM s.ws s.np=none):aI Tryz.prog 84 [.ptr x.P 0,.sl 1 (ar l) .any] h (.tup [.int .i64 0,.int .i64 10]) h:=by
 refine f84.bW af ?_
 unfold c84 zz
 have c1:=ie g
 have c2:=Ai (F:=h.objs) (n:=h.n) (T:=h.toks) (m:=h.m) g.oA g.oU (by rw[ok.wl];omega) (by have:=ok.np1;omega) ok.np0 hf
 have oP:=g.oP
 have y1:(ar l).length=1024:=by simp[ar,hl]
 have d1:decide ((1024:Int)<((1024:Nat):Int))=false:=by decide
 have d2:decide ((10:Int)=0)=false:=by decide
 refine rg2 (cj6 oP y1 d1 d2 @Bool.not_true @Bool.not_false) c1 c2 ?_
 refine Wp.ret ⟨trivial,_,?_,ay.refl _,rfl⟩
 simp only[go_sem]
 exact rfl
theorem uR (g:PgH x s T h) (ok:bP s) (hl:l.length=1024) (hf:hM s.ws s.np=some i) (hp:s.p.length<900000):
  aM Tryz.prog 84 [.ptr x.P 0,.sl 1 (ar l) .any] h fun r h'=>r= .tup [.int .i64 i,.int .i64 0]∧(∃tk,PgH x {s with ws:=setW s.ws i true,st:=s.st.set i 2,p:=s.p++wrs i l 8,tk:=tk} T h')∧ct x h h'∧aq h h':=by
 refine f84.cq af ?_
 unfold c84 zz
 have hi:=(nj hf).1
 have np1:=ok.np1
 have c1:=ie g
 have c2:=Aj (F:=h.objs) (n:=h.n) (T:=h.toks) (m:=h.m) g.oA g.oU g.ne.2.2.2.2.2.1 (by rw[ok.wl];omega) ab hf hi
 have oP:=g.oP
 have y1:(ar l).length=1024:=by simp[ar,hl]
 have d1:decide ((1024:Int)<((1024:Nat):Int))=false:=by decide
 have d2:decide ((0:Int)=0)=true:=by decide
 have g1:=g.sZ (jn s.ws i true)
 refine rg2 (cj6 oP y1 d1 d2 @Bool.not_true @Bool.not_false) c1 c2 ?_
 refine an.aY ae xA4 (Cm g1 np1 hl hi hp) fun r h2 ⟨hr,⟨tk,g2⟩,sm,no⟩ hn2 _=>?_
 subst hr
 have si:i<s.st.length:=by rw[ok.st];exact hi
 have oP2:=g2.oP
 have oI2:=g2.oI
 have e1:(0:Int)≤(i:Int):=by omega
 have e2:(i:Int)<(s.st.length:Int):=by omega
 have e3:i+1≤(ic s.st).length:=by simp[ic];omega
 simp only at oP2 oI2
 refine an.evF xAc ?_
 refine an.nil ?_
 refine rf0 (sH oP2 oI2 e1 e2 e3 d2 @Bool.not_true @Int.toNat_natCast @and_self @Nat.zero_add @Nat.mul_one) ?_
 rw[s5 si 2 2 rfl]
 refine Wp.ret ⟨trivial,.tup [.int .i64 i,.int .i64 0],?_,rfl,⟨tk,g2.nW af⟩,?_,?_⟩
 ·simp only[go_sem]
  exact rfl
 ·exact (ct.sZ.trans sm (Nat.le_refl _)).trans ct.nW hn2
 ·exact aq.trans (aq.trans (aq.set g.oU) no (Nat.le_refl _) hn2) (aq.set g2.oI) hn2 (Nat.le_refl _)
theorem nk (g:PgH x s T h) (hl:l.length=1024) (hi:i<s.st.length) (hf:s.st.getD i 0≠2):
  aI Tryz.prog 109 [.ptr x.P 0,.int .i64 i,.sl 1 (ar l) .any] h (.int .i64 7) h:=by
 refine f109.bW af ?_
 unfold E3 zz
 have c1:=ie g
 have c2:=ni g hi
 have oP:=g.oP
 have oI:=g.oI
 have y1:(ar l).length=1024:=by simp[ar,hl]
 have d1:decide ((1024:Int)<((1024:Nat):Int))=false:=by decide
 have d2:decide (((s.st.getD i 0:Nat):Int)=2)=false:=decide_eq_false ab
 have e1:(0:Int)≤(i:Int):=by omega
 have e2:(i:Int)<(s.st.length:Int):=by omega
 have e3:=mc hi
 refine rg2 (cT oP oI e1 e2 e3 y1 d1 d2 @Bool.not_true @Bool.not_false @Int.toNat_natCast (cj3 @and_self @Nat.zero_add @Nat.mul_one)) c1 c2 ?_
 refine Wp.ret ⟨trivial,_,?_,ay.refl _,rfl⟩
 simp only[go_sem]
 exact rfl
theorem s8 (g:PgH x s T h) (np1:s.np≤500) (hl:l.length=1024) (hn:i<s.np) (hi:i<s.st.length) (hf:s.st.getD i 0=2) (hp:s.p.length<900000):
  aM Tryz.prog 109 [.ptr x.P 0,.int .i64 i,.sl 1 (ar l) .any] h fun r h'=>r= .int .i64 0∧(∃tk,PgH x {s with p:=s.p++wrs i l 8,tk:=tk} T h')∧ct x h h'∧aq h h':=by
 refine f109.cq af ?_
 unfold E3 zz
 have c1:=ie g
 have c2:=ni g hi
 have oP:=g.oP
 have oI:=g.oI
 have y1:(ar l).length=1024:=by simp[ar,hl]
 have d1:decide ((1024:Int)<((1024:Nat):Int))=false:=by decide
 have d2:decide (((s.st.getD i 0:Nat):Int)=2)=true:=decide_eq_true ab
 have e1:(0:Int)≤(i:Int):=by omega
 have e2:(i:Int)<(s.st.length:Int):=by omega
 have e3:=mc hi
 refine rg2 (cT oP oI e1 e2 e3 y1 d1 d2 @Bool.not_true @Bool.not_false @Int.toNat_natCast (cj3 @and_self @Nat.zero_add @Nat.mul_one)) c1 c2 ?_
 refine an.aY ae xA4 (Cm g np1 hl hn hp) fun r h2 ⟨hr,g2,sm,no⟩ hn2 _=>?_
 subst hr
 refine an.evF xAc ?_
 refine an.nil ?_
 refine Wp.ret ⟨trivial,.int .i64 0,?_,rfl,g2,sm,no⟩
 simp only[go_sem]
 exact rfl
theorem x5 (g:PgH x s T h) (ok:bP s) (hi:i<s.np) (hf:s.st.getD i 0≠0):
  aI Tryz.prog 82 [.ptr x.P 0,.int .i64 i] h (.tup []) {h with objs:=upd (upd h.objs x.U (some (.cells (di (setW s.ws i false))))) x.I (some (.cells (ic (s.st.set i 0))))}:=by
 refine f82.bW af ?_
 unfold c82 zz
 have np1:=ok.np1
 have c2:=Fs (F:=h.objs) (n:=h.n) (T:=h.toks) (m:=h.m) g.oA g.oU g.ne.2.2.2.2.2.1 (by rw[ok.wl];omega) ab hi (by rw[ok.bit,decide_eq_true hi,decide_eq_false hf];rfl)
 have g1:=g.sZ (jn s.ws i false)
 have si:i<s.st.length:=by rw[ok.st];exact hi
 have oP:=g.oP
 have oP2:=g1.oP
 have oI2:=g1.oI
 simp only at oP2 oI2
 have e1:(0:Int)≤(i:Int):=by omega
 have e2:(i:Int)<(s.st.length:Int):=by omega
 have e3:i+1≤(ic s.st).length:=by simp[ic];omega
 refine rg1 oP c2 ?_
 generalize upd h.objs x.U (some (Av.Obj.cells (di (setW s.ws i false))))=Y at oP2 oI2 ⊢
 refine rf0 (cj9 oP2 oI2 e1 e2 e3 @Int.toNat_natCast @and_self @Nat.zero_add @Nat.mul_one) ?_
 rw[s5 si 0 0 rfl]
 exact ⟨trivial,.tup [],rfl,ay.refl _,rfl⟩
theorem qK (g:PgH x s T h) (ok:bP s) (hi:i<s.np) (hf:s.st.getD i 0=2):
  aI Tryz.prog 48 [.ptr x.P 0,.int .i64 i] h (.int .i64 0) {h with objs:=upd (upd h.objs x.U (some (.cells (di (setW s.ws i false))))) x.I (some (.cells (ic (s.st.set i 0))))}:=by
 refine f48.bW af ?_
 unfold c48 zz
 have si:i<s.st.length:=by rw[ok.st];exact hi
 have c1:=ie g
 have c2:=ni g si
 have c3:=x5 g ok hi ab
 have oP:=g.oP
 have oI:=g.oI
 have d2:decide (((s.st.getD i 0:Nat):Int)=2)=true:=decide_eq_true ab
 have e1:(0:Int)≤(i:Int):=by omega
 have e2:(i:Int)<(s.st.length:Int):=by omega
 have e3:=mc si
 refine rg3 (cT oP oI e1 e2 e3 d2 @Bool.not_true @Bool.not_false @Int.toNat_natCast @and_self @Nat.zero_add @Nat.mul_one) c1 c2 c3 ?_
 refine Wp.ret ⟨trivial,_,?_,ay.refl _,rfl⟩
 simp only[go_sem]
 exact rfl
theorem jX (g:PgH x s T h) (ok:bP s) (hi:i<s.np) (hf:s.st.getD i 0=1):
  aI Tryz.prog 48 [.ptr x.P 0,.int .i64 i] h (.int .i64 0) {h with objs:=upd h.objs x.I (some (.cells (ic (s.st.set i 3))))}:=by
 refine f48.bW af ?_
 unfold c48 zz
 have si:i<s.st.length:=by rw[ok.st];exact hi
 have c1:=ie g
 have c2:=ni g si
 have oP:=g.oP
 have oI:=g.oI
 have d2:decide (((s.st.getD i 0:Nat):Int)=2)=false:=decide_eq_false ab
 have d3:decide (((s.st.getD i 0:Nat):Int)=1)=true:=decide_eq_true ab
 have e1:(0:Int)≤(i:Int):=by omega
 have e2:(i:Int)<(s.st.length:Int):=by omega
 have e3:=mc si
 have e4:i+1≤(ic s.st).length:=by simp[ic];omega
 refine rg2 (cT oP oI e1 e2 e3 e4 d2 d3 @Bool.not_true @Bool.not_false @Int.toNat_natCast (cj3 @and_self @Nat.zero_add @Nat.mul_one)) c1 c2 ?_
 rw[s5 si 3 3 rfl]
 refine Wp.ret ⟨trivial,_,?_,ay.refl _,rfl⟩
 simp only[go_sem]
 exact rfl
theorem bP.drop (ok:bP s) (hi:i<s.np):bP {s with ws:=setW s.ws i false,st:=s.st.set i 0} where
 np0:=ok.np0
 np1:=ok.np1
 st:=by simp[ok.st]
 st3:=fun j=>by
  have:=ok.st3 j
  simp only[List.getD_eq_getElem?_getD,List.getElem?_set] at this ⊢
  split
  ·split<;>simp
  ·exact this
 wl:=by simp only[jn];exact ok.wl
 bit:=fun j=>by
  have hw:i/64<s.ws.length:=by rw[ok.wl];omega
  simp only
  rw[rJ hw]
  by_cases e:j=i
  ·rw[if_pos e,e]
   simp[List.getD_eq_getElem?_getD,ok.st,hi]
  ·rw[if_neg e,ok.bit]
   simp[List.getD_eq_getElem?_getD,List.getElem?_set,Ne.symm e]
 pl:=ok.pl
 dl:=ok.dl
theorem bP.set (ok:bP s) (hi:i<s.np) {z:Nat} (hz:z≤3) (h0:z≠0) (hs:s.st.getD i 0≠0):bP {s with st:=s.st.set i z} where
 np0:=ok.np0
 np1:=ok.np1
 st:=by simp[ok.st]
 st3:=fun j=>by
  have:=ok.st3 j
  simp only[List.getD_eq_getElem?_getD,List.getElem?_set] at this ⊢
  split
  ·split<;>simp[hz]
  ·exact this
 wl:=ok.wl
 bit:=fun j=>by
  simp only
  rw[ok.bit]
  by_cases e:j=i
  ·rw[e]
   have si:i<s.st.length:=by rw[ok.st];exact hi
   have hs':¬s.st[i]=0:=by simpa [List.getD_eq_getElem?_getD,List.getElem?_eq_getElem si] using hs
   simp[List.getD_eq_getElem?_getD,ok.st,hi,h0,hs']
  ·simp[List.getD_eq_getElem?_getD,List.getElem?_set,Ne.symm e]
 pl:=ok.pl
 dl:=ok.dl
theorem bP.more (ok:bP s) {p:List (Nat × List UInt8)} {tk:Option Nat} (hp:∀x∈p,x.2.length=128∧x.1<8*s.np):bP {s with p:=s.p++p,tk:=tk} where
 np0:=ok.np0
 np1:=ok.np1
 st:=ok.st
 st3:=ok.st3
 wl:=ok.wl
 bit:=ok.bit
 pl:=fun x hx=>(List.mem_append.1 hx).elim (ok.pl x) (hp x)
 dl:=ok.dl
theorem qj (hl:l.length=1024) (hi:i<s.np):∀x∈wrs i l 8,x.2.length=128∧x.1<8*s.np:=by
 intro x hx
 obtain ⟨k,hk,rfl⟩:=List.mem_map.1 hx
 have:=List.mem_range.1 hk
 exact ⟨by simp;omega,by simp only;omega⟩
theorem bP.take (ok:bP s) (hi:i<s.np) {z:Nat} (hz:z≤3) (h0:z≠0):bP {s with ws:=setW s.ws i true,st:=s.st.set i z} where
 np0:=ok.np0
 np1:=ok.np1
 st:=by simp[ok.st]
 st3:=fun j=>by
  have:=ok.st3 j
  simp only[List.getD_eq_getElem?_getD,List.getElem?_set] at this ⊢
  split
  ·split<;>simp[hz]
  ·exact this
 wl:=by simp only[jn];exact ok.wl
 bit:=fun j=>by
  have hw:i/64<s.ws.length:=by rw[ok.wl];omega
  simp only
  rw[rJ hw]
  by_cases e:j=i
  ·rw[if_pos e,e]
   simp[List.getD_eq_getElem?_getD,ok.st,hi,h0]
  ·rw[if_neg e,ok.bit]
   simp[List.getD_eq_getElem?_getD,List.getElem?_set,Ne.symm e]
 pl:=ok.pl
 dl:=ok.dl
end
def gz (a b z:Nat):Nat:=if z=a then 0 else if z=b then 1 else z
def eX (a b:Nat) (l:List Nat) (j:Nat):List Nat:=(l.take j).map (gz a b)++l.drop j
theorem rM (a b:Nat) (l:List Nat) (j:Nat):(eX a b l j).length=l.length:=by simp[eX];omega
theorem rN {a b:Nat} {l:List Nat} {j:Nat} (h:j<l.length):(eX a b l j).getD j 0=l.getD j 0:=by
 simp[eX,List.getD_eq_getElem?_getD,List.getElem?_append,Nat.min_eq_left (Nat.le_of_lt h)]
theorem wO {a b:Nat} {l:List Nat} {j:Nat} (h:j<l.length):eX a b l (j+1)=(eX a b l j).set j (gz a b (l.getD j 0)):=by
 unfold eX
 have e1:l.drop j=l[j]::l.drop (j+1):=List.drop_eq_getElem_cons h
 have e2:((l.take j).map (gz a b)).length=j:=by simp;omega
 rw[e1,List.set_append_right _ _ ab,e2,Nat.sub_self,List.set_cons_zero,List.take_succ_eq_append_getElem h,List.map_append,List.append_assoc]
 simp[List.getD_eq_getElem?_getD,List.getElem?_eq_getElem h]
theorem Cn {l:List Nat} {j:Nat} (h:j<l.length):l.set j (l.getD j 0)=l:=by
 simp[List.getD_eq_getElem?_getD,List.getElem?_eq_getElem h]
structure TuI (x:PgI) (s:PgS) (T:List Nat) (a b:Nat) (h0:H) (k:Nat) (h:H):Prop where
 le:k≤s.np
 pg:∃ws,PgH x {s with ws:=ws,st:=eX a b s.st k} T h∧bP {s with ws:=ws,st:=eX a b s.st k}
 sm:ct x h0 h
 no:aq h0 h
 ln:h.n=h0.n
set_option maxHeartbeats 1000000 in
theorem Co {x:PgI} {s:PgS} {T:List Nat} {h0:H} (g:PgH x s T h0) (ok:bP s) {a b:Nat} (ha:a≠0) (hb:b≠0) (hab:a≠b):
  aM Tryz.prog 53 [.ptr x.P 0,.int .i64 (a:Int),.int .i64 (b:Int)] h0 fun r h=>r= .int .i64 0∧TuI x s T a b h0 s.np h:=by
 refine f53.cq af ?_
 unfold c53 zz
 have np1:=ok.np1
 have c1:=ie g
 have oP:=g.oP
 refine rg1 (cj2 oP @Bool.not_true) c1 ?_
 have j0:TuI x s T a b h0 0 h0:=by
  refine ⟨Nat.zero_le _,⟨s.ws,?_⟩,ct.refl _ _,aq.refl _,rfl⟩
  have e:({s with ws:=s.ws,st:=eX a b s.st 0}:PgS)=s:=by cases s;simp[eX]
  rw[e]
  exact ⟨g,ok⟩
 refine Wp.eV [0,1,2,15,16] xA7 (fun b:Nat × H=>[(17,.int .i64 (b.1:Int))]) (fun b=>b.2) (fun q=>TuI x s T a b h0 q.1 q.2) (fun b=>s.np - b.1) (0,h0) j0 rfl ?_ ?_
 ·exact xSb
 rintro ⟨k,h⟩ o
 simp only at o
 obtain ⟨ws,g2,ok2⟩:=o.pg
 by_cases hk:k<s.np
 ·have sk:k<s.st.length:=by rw[ok.st];exact hk
  have d1:decide ((k:Int)<(s.st.length:Int))=true:=decide_eq_true ab
  have e1:(0:Int)≤(k:Int):=by omega
  have e2:(k:Int)<(s.st.length:Int):=by omega
  have oI:=g2.oI
  have e3:=mc (st:=eX a b s.st k) (i:=k) (by rw[rM];exact sk)
  rw[rN sk] at e3
  have w1:IntKind.i64.wrap ((k:Int)+1)=((k+1:Nat):Int):=by rw[IntWalk.i64_in _ ab];rfl
  simp only at oI
  have fin:∀(h':H) (ws':List W) (z:Nat),z=gz a b (s.st.getD k 0)→PgH x {s with ws:=ws',st:=(eX a b s.st k).set k z} T h'→bP {s with ws:=ws',st:=(eX a b s.st k).set k z}→ct x h h'→aq h h'→h'.n=h.n→TuI x s T a b h0 (k+1) h':=by
   intro h' ws' z hz p1 p2 p3 p4 p5
   refine ⟨hk,⟨ws',?_⟩,o.sm.trans p3 (by rw[o.ln];exact Nat.le_refl _),aq.trans o.no p4 (by rw[o.ln];exact Nat.le_refl _) ab,p5.trans o.ln⟩
   rw[wO sk,←hz]
   exact ⟨p1,p2⟩
  refine rf0 (cj9 d1 oI e1 e2 e3 @Int.toNat_natCast @and_self @Nat.zero_add @Nat.mul_one) ?_
  have tg:=rN (a:=a) (b:=b) sk
  have tl:=rM a b s.st k
  by_cases za:s.st.getD k 0=a
  ·have d2:decide (((s.st.getD k 0:Nat):Int)=(a:Int))=true:=decide_eq_true ab
   have c3:=x5 (i:=k) g2 ok2 hk (by simp only;rw[tg,za];exact ha)
   simp only at c3
   refine rg1 (cj2 d2 w1) c3 ?_
   refine ⟨(k+1,_),fin _ (setW ws k false) 0 (by rw[gz,if_pos za]) ((g2.sZ (jn ws k false)).nW af) (ok2.drop hk) (ct.sZ.trans ct.nW (Nat.le_refl _)) (aq.trans (aq.set g2.oU) (aq.set (g2.sZ (jn ws k false)).oI) (Nat.le_refl _) (Nat.le_refl _)) rfl,by simp only;omega,?_⟩
   refine aK.tm ?_
   exact xSb
  ·have d2:decide (((s.st.getD k 0:Nat):Int)=(a:Int))=false:=decide_eq_false ab
   by_cases zb:s.st.getD k 0=b
   ·have d3:decide (((s.st.getD k 0:Nat):Int)=(b:Int))=true:=decide_eq_true ab
    have oP2:=g2.oP
    simp only at oP2
    have e2':(k:Int)<((eX a b s.st k).length:Int):=by rw[tl];exact e2
    have e4:k+1≤(ic (eX a b s.st k)).length:=by simp[ic,tl];omega
    refine rf0 (cT d2 d3 oP2 oI e1 e2' e4 @Int.toNat_natCast @and_self @Nat.zero_add @Nat.mul_one w1) ?_
    rw[s5 (by rw[tl];exact sk) 1 1 rfl]
    refine ⟨(k+1,_),fin _ ws 1 (by rw[gz,if_neg za,if_pos zb]) (g2.nW af) (ok2.set hk ab ab (by simp only;rw[tg,zb];exact hb)) ct.nW (aq.set g2.oI) rfl,by simp only;omega,?_⟩
    refine aK.tm ?_
    exact xSb
   ·have d3:decide (((s.st.getD k 0:Nat):Int)=(b:Int))=false:=decide_eq_false ab
    have es:(eX a b s.st k).set k (s.st.getD k 0)=eX a b s.st k:=by
     rw[←tg];exact Cn (by rw[tl];exact sk)
    refine rf0 (cj3 d2 d3 w1) ?_
    refine ⟨(k+1,h),fin _ ws (s.st.getD k 0) (by rw[gz,if_neg za,if_neg zb]) (by rw[es];exact g2) (by rw[es];exact ok2) (ct.refl _ _) (aq.refl _) rfl,by simp only;omega,?_⟩
    refine aK.tm ?_
    exact xSb
 ·have e8:k=s.np:=by have:=o.le;omega
  subst e8
  have d1:decide ((s.np:Int)<(s.st.length:Int))=false:=decide_eq_false (by rw[ok.st];omega)
  refine rf0 d1 ?_
  refine Wp.ret ⟨trivial,.int .i64 0,?_,rfl,o⟩
  simp only[go_sem]
  exact rfl
theorem Cp {x:PgI} {s:PgS} {T:List Nat} {h0:H} (g:PgH x s T h0) (ok:bP s):
  aM Tryz.prog 22 [.ptr x.P 0] h0 fun r h=>r= .int .i64 0∧TuI x s T 3 2 h0 s.np h:=by
 refine f22.cq af ?_
 unfold c22 zz
 have c:=Co g ok (a:=3) (b:=2) ah ah ah
 refine rf0 @and_self ?_
 refine an.aY ae xA4 c fun r h2 ⟨hr,o⟩ _ _=>?_
 subst hr
 refine an.evF xAc ?_
 refine an.nil ?_
 refine Wp.ret ⟨trivial,.int .i64 0,?_,rfl,o⟩
 simp only[go_sem]
 exact rfl
theorem FA {x:PgI} {s:PgS} {T:List Nat} {h0:H} (g:PgH x s T h0) (ok:bP s):
  aM Tryz.prog 25 [.ptr x.P 0] h0 fun r h=>r= .int .i64 0∧TuI x s T 2 3 h0 s.np h:=by
 refine f25.cq af ?_
 unfold c25 zz
 have c:=Co g ok (a:=2) (b:=3) ah ah ah
 refine rf0 @and_self ?_
 refine an.aY ae xA4 c fun r h2 ⟨hr,o⟩ _ _=>?_
 subst hr
 refine an.evF xAc ?_
 refine an.nil ?_
 refine Wp.ret ⟨trivial,.int .i64 0,?_,rfl,o⟩
 simp only[go_sem]
 exact rfl
def pgB (p d:List (Nat × List UInt8)) (i:Nat):Nat→List UInt8
 |0=>[]
 |k+1=>pgB p d i k++rdP p d (i*8+k)
theorem s9 {p d:List (Nat × List UInt8)} (hd:∀x∈d,x.2.length=128) (hl:∀x∈p,x.2.length=128) (i:Nat):(rdP p d i).length=128:=by
 refine jm (M:=fun p=>(∀x∈p,x.2.length=128)→(rdP p d i).length=128) (fun _=>je hd i) (fun p x ih h=>?_) p hl
 rw[gZ]
 split
 ·exact h x af
 ·exact ih fun y hy=>h y (by simp[hy])
theorem x6 {p d:List (Nat × List UInt8)} (hd:∀x∈d,x.2.length=128) (hl:∀x∈p,x.2.length=128) (i:Nat):∀k,(pgB p d i k).length=k*128
 |0=>rfl
 |k+1=>by rw[pgB,List.length_append,x6 hd hl i k,s9 hd hl];omega
def RdT (L:List Nat) (m0:Nat) (k:Nat) (c:Cap) (toks:List Nat):Prop:=(k=0∧c= .exact 0∧toks=L)∨∃t,m0≤t∧c= .own t∧toks=t::L
set_option maxHeartbeats 1000000 in
theorem x7 {x:PgI} {s:PgS} {T:List Nat} {h:H} (g:PgH x s T h) (ok:bP s) {i:Nat} (hi:i<s.np) (hs:s.st.getD i 0≠0) (hp:s.p.length<900000):
  aM Tryz.prog 71 [.ptr x.P 0,.int .i64 i] h fun r h'=>r= .tup [.sl 1 (ar (pgB s.p s.d i 8)) .any,.int .i64 0]∧PgH x s T h'∧h'.objs=h.objs:=by
 refine f71.cq af ?_
 unfold c71 zz
 have np1:=ok.np1
 have si:i<s.st.length:=by rw[ok.st];exact hi
 have c1:=ie g
 have c2:=ni g si
 have oP:=g.oP
 have oI:=g.oI
 have e1:(0:Int)≤(i:Int):=by omega
 have e2:(i:Int)<(s.st.length:Int):=by omega
 have e3:=mc si
 have d0:decide (((s.st.getD i 0:Nat):Int)=0)=false:=decide_eq_false ab
 have c3:aI Tryz.prog 92 [.int .i64 ((s.st.getD i 0:Nat):Int)] h (.bool true) h:=by
  refine f92.bW af ?_
  unfold c92 zz
  refine rf0 (cj2 d0 @Bool.not_false) ?_
  refine Wp.ret ⟨trivial,_,?_,ay.refl _,rfl⟩
  simp only[go_sem]
  exact rfl
 refine rg3 (sH oP oI e1 e2 e3 @Bool.not_true @Bool.not_false @Int.toNat_natCast @and_self @Nat.zero_add @Nat.mul_one) c1 c2 c3 ?_
 refine Wp.loop (fun b:Nat × Nat × Nat × List Nat × Cap=>⟨tm [(0,.ptr x.P 0),(1,.int .i64 i),(6,.sl 1 (ar (pgB s.p s.d i b.1)) b.2.2.2.2),(29,.int .i64 (b.1:Int))],⟨h.objs,b.2.1,b.2.2.2.1,b.2.2.1⟩⟩) (fun b=>b.1≤8∧h.n≤b.2.1∧h.m≤b.2.2.1∧(∀t,b.2.2.2.2= .own t→t<b.2.2.1)∧RdT h.toks h.m b.1 b.2.2.2.2 b.2.2.2.1) (fun b=>8 - b.1) (0,h.n,h.m,h.toks,.exact 0) ⟨ab,Nat.le_refl _,Nat.le_refl _,(fun t e=>by cases e),.inl ⟨rfl,rfl,rfl⟩⟩ ?_ ?_
 ·refine aK.tm ?_
  exact xSb
 rintro ⟨k,n',m',toks,c⟩ ⟨hk,hn,hm,hc,ht⟩
 simp only at hk hn hm hc ht
 by_cases hk8:k<8
 ·have d1:decide ((k:Int)<8)=true:=decide_eq_true ab
  have v1:IntKind.i64.wrap ((i:Int)*8)=((i*8:Nat):Int):=by rw[IntWalk.i64_in _ ab];omega
  have v2:IntKind.i64.wrap (0+((i*8:Nat):Int))=((i*8:Nat):Int):=by rw[IntWalk.i64_in _ ab];omega
  have v3:IntKind.i64.wrap (((i*8:Nat):Int)+(k:Int))=((i*8+k:Nat):Int):=by rw[IntWalk.i64_in _ ab];rfl
  have w2:IntKind.i64.wrap ((k:Int)+1)=((k+1:Nat):Int):=by rw[IntWalk.i64_in _ ab];rfl
  have d2:decide ((0:Int)=0)=true:=by decide
  have lt:=g.lt
  obtain ⟨n2,hn2,rd⟩:=Fl (n:=n') (m:=m') (T:=toks) (i:=i*8+k) g.oD g.oK ok.dl (fun y hy=>(ok.pl y hy).1) ab ab ab (fun j hj=>g.fresh j ab) ab
  refine rf0 d1 ?_
  refine Wp.reg ?_
  refine ao.part 13 (xAe (cj4 oP v1 v2 v3)) ?_
  simp only[List.drop_succ_cons,List.drop_zero,List.drop_nil]
  refine ao.aY (Q:=fun r h'=>r= .tup [.sl 1 (ar (rdP s.p s.d (i*8+k))) .any,.int .i64 0]∧h'=⟨h.objs,n2,toks,m'⟩) ae xA4 (fun j hj=>?_) ⟨_,_,rd,hn2,Nat.le_refl _,⟨rfl,rfl⟩⟩ (fun r h' hq=>?_) fun r h' hq hn3 hm3=>?_
  ·rcases Nat.lt_or_ge j h.n with h1|h1
   ·simp only;omega
   ·simp only at hj;rw[g.fresh j h1] at hj;cases hj
  ·obtain ⟨-,rfl⟩:=hq
   exact fun j hj=> .inl hj
  obtain ⟨rfl,rfl⟩:=hq
  refine ao.part 5 xA1 ?_
  simp only[List.drop_succ_cons,List.drop_zero,List.drop_nil]
  refine ao.nil ⟨by simp[bw,aV,apart,aT],?_⟩
  refine rf0 (cj2 d2 @Bool.not_true) ?_
  have y1:(ar (pgB s.p s.d i k)).length=k*128:=by
   simp only[ar,List.length_map]
   exact x6 ok.dl (fun y hy=>(ok.pl y hy).1) i k
  have y2:(ar (rdP s.p s.d (i*8+k))).length=128:=by
   simp only[ar,List.length_map]
   exact s9 ok.dl (fun y hy=>(ok.pl y hy).1) _
  have ey:ar (pgB s.p s.d i k)++ar (rdP s.p s.d (i*8+k))=ar (pgB s.p s.d i (k+1)):=by simp[ar,pgB]
  have r1:k*128+128≤140737488355328:=by omega
  have r2:k*128+128<4611686018427387904:=by omega
  show Wp _ _ _ _ _
  rcases ht with ⟨rfl,rfl,rfl⟩|⟨t,ht,rfl,rfl⟩
  ·have b0:ar (pgB s.p s.d i 0)=[]:=rfl
   rw[b0]
   rw[b0,List.nil_append] at ey
   have r3:(128:Nat)≤140737488355328:=by decide
   have r4:(128:Nat)<4611686018427387904:=by decide
   have y6:(rdP s.p s.d (i*8)).length=128:=s9 ok.dl (fun y hy=>(ok.pl y hy).1) _
   refine rf0 (cT y2 y6 r3 r4 w2 @List.nil_append.{0} @List.length_nil.{0} @Nat.zero_add @Nat.mul_one @true_or @or_true @and_self) ?_
   refine ⟨(0+1,n2,m'+1,m'::h.toks,.own m'),⟨by simp only;omega,by simp only;omega,by simp only;omega,fun t e=>by cases e;exact Nat.lt_succ_self _,.inr ⟨m',hm,rfl,rfl⟩⟩,by simp only;omega,?_⟩
   simp only
   rw[←ey]
   refine aK.tm ?_
   exact xSb
  ·have y5:List.filter (fun x=> !decide (x=t)) h.toks=h.toks:=List.filter_eq_self.2 fun y hy=>by
    have:y≠t:=by
     rw[g.toks] at hy
     have:y<h.m:=by
      cases htk:s.tk with
      |none=>rw[htk] at hy;exact g.tm y hy
      |some t2=>
       rw[htk] at hy
       rcases List.mem_cons.1 hy with rfl|e
       ·exact (g.tkm _ htk).1
       ·exact g.tm y e
     omega
    simp[this]
   refine rf0 (cT y1 y2 y5 r1 r2 ey w2 @Nat.mul_one @List.mem_cons.{0} @true_or @or_true @and_self) ?_
   refine ⟨(k+1,n2,m'+1,m'::h.toks,.own m'),⟨by simp only;omega,by simp only;omega,by simp only;omega,fun t e=>by cases e;exact Nat.lt_succ_self _,.inr ⟨m',hm,rfl,rfl⟩⟩,by simp only;omega,?_⟩
   refine aK.of (bL ?_) (OLe.refl _) (fun y hy=>?_) (Nat.le_refl _) (Nat.le_refl _)
   ·exact xSb
   ·simpa [y5] using hy
 ·have e8:k=8:=by omega
  subst e8
  have d1:decide (((8:Nat):Int)<8)=false:=by decide
  refine rf0 d1 ?_
  have sub:∀y,y∈h.toks→y∈toks:=fun y hy=>by
   rcases ht with ⟨-,-,rfl⟩|⟨t,-,-,rfl⟩
   ·exact hy
   ·exact List.mem_cons_of_mem _ hy
  refine Wp.le (s':=⟨tm [(4,.sl 1 (ar (pgB s.p s.d i 8)) .any),(5,.int .i64 0)],⟨h.objs,n',h.toks,m'⟩⟩) (aK.of (bL ?_) (OLe.refl _) sub (Nat.le_refl _) (Nat.le_refl _)) ?_
  ·simp only[ba,go_sem,reduceIte,Nat.reduceEqDiff,bx]
   exact ⟨ay.cap,ay.refl _,trivial⟩
  refine Wp.ret ⟨trivial,.tup [.sl 1 (ar (pgB s.p s.d i 8)) .any,.int .i64 0],?_,rfl,?_,rfl⟩
  ·simp only[go_sem]
   exact rfl
  ·exact g.keep (fun _ _=>rfl) hn (fun j hj=>g.fresh j (by simp only at hj;omega)) rfl hm
def cF (st:List Nat) (z:Nat) (k:Nat):List Int:=((List.range k).filter fun j=>decide (st.getD j 0=z)).map fun (j:Nat)=>(j:Int)
theorem oM (st:List Nat) (z k:Nat):cF st z (k+1)=if st.getD k 0=z then cF st z k++[(k:Int)] else cF st z k:=by
 unfold cF
 rw[List.range_succ,List.filter_append,List.map_append]
 by_cases e:st.getD k 0=z
 ·rw[if_pos e,List.filter_cons_of_pos (by simpa using e)];rfl
 ·rw[if_neg e,List.filter_cons_of_neg (by simpa using e)];simp
theorem jS (st:List Nat) (z k:Nat):(cF st z k).length≤k:=by
 unfold cF
 rw[List.length_map]
 exact Nat.le_trans (List.length_filter_le _ _) af
theorem D9 {x:PgI} {s:PgS} {T:List Nat} {h:H} (g:PgH x s T h):∀y∈h.toks,y<h.m:=fun y hy=>by
 rw[g.toks] at hy
 cases htk:s.tk with
 |none=>rw[htk] at hy;exact g.tm y hy
 |some t2=>
  rw[htk] at hy
  rcases List.mem_cons.1 hy with rfl|e
  ·exact (g.tkm _ htk).1
  ·exact g.tm y e
theorem Hp {L:List Nat} {t m:Nat} (h:∀y∈L,y<m) (ht:m≤t):List.filter (fun x=> !decide (x=t)) L=L:=List.filter_eq_self.2 fun y hy=>by
 have:=h y hy
 have:y≠t:=by omega
 simp[this]
set_option maxHeartbeats 1000000 in
theorem te {x:PgI} {s:PgS} {T:List Nat} {h:H} (g:PgH x s T h) (ok:bP s) (z:Nat):
  aM Tryz.prog 65 [.ptr x.P 0,.int .i64 (z:Int)] h fun r h'=>r= .sl 1 (ints (cF s.st z s.np)) .any∧PgH x s T h'∧h'.objs=h.objs:=by
 refine f65.cq af ?_
 unfold c65 zz
 have np1:=ok.np1
 have oP:=g.oP
 have oI:=g.oI
 refine rf0 oP ?_
 refine Wp.loop (fun b:Nat × Nat × List Nat × Cap=>⟨tm [(0,.ptr x.P 0),(1,.int .i64 (z:Int)),(5,.sl 1 (ints (cF s.st z b.1)) b.2.2.2),(11,.tsl 1 x.I 0 s.st.length none),(12,.int .i64 (s.st.length:Int)),(13,.int .i64 (b.1:Int))],⟨h.objs,h.n,b.2.2.1,b.2.1⟩⟩) (fun b=>b.1≤s.np∧h.m≤b.2.1∧RdT h.toks h.m (cF s.st z b.1).length b.2.2.2 b.2.2.1) (fun b=>s.np - b.1) (0,h.m,h.toks,.exact 0) ⟨ab,Nat.le_refl _,.inl ⟨rfl,rfl,rfl⟩⟩ ?_ ?_
 ·refine aK.tm ?_
  exact xSb
 rintro ⟨k,m',toks,c⟩ ⟨hk,hm,ht⟩
 simp only at hk hm ht
 by_cases hk8:k<s.np
 ·have sk:k<s.st.length:=by rw[ok.st];exact hk8
  have d1:decide ((k:Int)<(s.st.length:Int))=true:=decide_eq_true ab
  have e1:(0:Int)≤(k:Int):=by omega
  have e2:(k:Int)<(s.st.length:Int):=by omega
  have e3:=mc sk
  have w2:IntKind.i64.wrap ((k:Int)+1)=((k+1:Nat):Int):=by rw[IntWalk.i64_in _ ab];rfl
  have el:=jS s.st z k
  have es:=oM s.st z k
  by_cases e:s.st.getD k 0=z
  ·have d2:decide (((s.st.getD k 0:Nat):Int)=(z:Int))=true:=decide_eq_true ab
   rw[if_pos e] at es
   generalize cF s.st z k=L at el es ht
   have ea:ints L++[AV.int .i64 (k:Int)]=ints (cF s.st z (k+1)):=by rw[es];simp[ints]
   rcases ht with ⟨h0,rfl,rfl⟩|⟨t,ht,rfl,rfl⟩
   ·have h0:L=[]:=List.length_eq_zero_iff.1 h0
    subst h0
    have ea2:[AV.int .i64 (k:Int)]=ints (cF s.st z (k+1)):=ea
    have r3:(8:Nat)≤140737488355328:=by decide
    have r4:(1:Nat)<4611686018427387904:=by decide
    have b0:ints []=[]:=rfl
    rw[b0]
    refine rf0 (cT d1 oI e1 e2 e3 @Int.toNat_natCast @and_self @Nat.zero_add @Nat.mul_one d2 w2 (cj8 r3 r4 @List.nil_append.{0} @List.length_nil.{0} @List.length_cons.{0} @Nat.one_mul @true_or @or_true)) ?_
    refine ⟨(k+1,m'+1,m'::h.toks,.own m'),⟨by simp only;omega,by simp only;omega,.inr ⟨m',hm,rfl,rfl⟩⟩,by simp only;omega,?_⟩
    simp only
    rw[←ea2]
    refine aK.tm ?_
    exact xSb
   ·have y5:=Hp (D9 g) ht
    have y1:(ints L).length=L.length:=by simp[ints]
    have r1:(L.length+1)*8≤140737488355328:=by omega
    have r2:L.length+1<4611686018427387904:=by omega
    refine rf0 (cT d1 oI e1 e2 e3 @Int.toNat_natCast @and_self @Nat.zero_add @Nat.mul_one d2 w2 (mN y1 y5 r1 r2 ea @List.length_nil.{0} @List.length_cons.{0} @List.mem_cons.{0} @true_or @or_true)) ?_
    refine ⟨(k+1,m'+1,m'::h.toks,.own m'),⟨by simp only;omega,by simp only;omega,.inr ⟨m',hm,rfl,rfl⟩⟩,by simp only;omega,?_⟩
    refine aK.of (bL ?_) (OLe.refl _) (fun y hy=>?_) (Nat.le_refl _) (Nat.le_refl _)
    ·exact xSb
    ·simpa [y5] using hy
  ·have d2:decide (((s.st.getD k 0:Nat):Int)=(z:Int))=false:=decide_eq_false ab
   rw[if_neg e] at es
   rw[←es] at ht ⊢
   refine rf0 (sH d1 oI e1 e2 e3 @Int.toNat_natCast @and_self @Nat.zero_add @Nat.mul_one d2 w2) ?_
   refine ⟨(k+1,m',toks,c),⟨by simp only;omega,by simp only;omega,ht⟩,by simp only;omega,?_⟩
   refine aK.tm ?_
   exact xSb
 ·have e8:k=s.np:=by omega
  subst e8
  have d1:decide ((s.np:Int)<(s.st.length:Int))=false:=decide_eq_false (by rw[ok.st];omega)
  refine rf0 d1 ?_
  have sub:∀y,y∈h.toks→y∈toks:=fun y hy=>by
   rcases ht with ⟨-,-,rfl⟩|⟨t,-,-,rfl⟩
   ·exact hy
   ·exact List.mem_cons_of_mem _ hy
  refine Wp.le (s':=⟨tm [(4,.sl 1 (ints (cF s.st z s.np)) .any)],⟨h.objs,h.n,h.toks,m'⟩⟩) (aK.of (bL ?_) (OLe.refl _) sub (Nat.le_refl _) (Nat.le_refl _)) ?_
  ·simp only[ba,go_sem,reduceIte,Nat.reduceEqDiff,bx]
   exact ⟨ay.cap,trivial⟩
  refine Wp.ret ⟨trivial,.sl 1 (ints (cF s.st z s.np)) .any,?_,rfl,?_,rfl⟩
  ·simp only[go_sem]
   exact rfl
  ·exact g.keep (fun _ _=>rfl) (Nat.le_refl _) (fun j hj=>g.fresh j hj) rfl hm
theorem Ea {x:PgI} {s:PgS} {T:List Nat} {h:H} (g:PgH x s T h) (ok:bP s):
  aM Tryz.prog 30 [.ptr x.P 0] h fun r h'=>r= .tup [.sl 1 (ints (cF s.st 1 s.np)) .any,.sl 1 (ints (cF s.st 2 s.np)) .any,.sl 1 (ints (cF s.st 3 s.np)) .any]∧PgH x s T h'∧h'.objs=h.objs:=by
 refine f30.cq af ?_
 unfold c30 zz
 have c1:=ie g
 refine rg1 @Bool.not_true c1 ?_
 refine an.aY ae xA4 (te g ok 1) fun r h1 ⟨hr,g1,o1⟩ _ _=>?_
 subst hr
 refine an.evF xAc ?_
 refine an.aY ae xA4 (te g1 ok 2) fun r h2 ⟨hr,g2,o2⟩ _ _=>?_
 subst hr
 refine an.evF xAc ?_
 refine an.aY ae xA4 (te g2 ok 3) fun r h3 ⟨hr,g3,o3⟩ _ _=>?_
 subst hr
 refine an.evF xAc ?_
 refine an.nil ?_
 refine Wp.ret ⟨trivial,.tup [.sl 1 (ints (cF s.st 1 s.np)) .any,.sl 1 (ints (cF s.st 2 s.np)) .any,.sl 1 (ints (cF s.st 3 s.np)) .any],?_,rfl,g3,o3.trans (o2.trans o1)⟩
 simp only[go_sem]
 exact rfl
theorem Eb {x:PgI} {s:PgS} {T:List Nat} {h:H} (g:PgH x s T h) (ok:bP s):aI Tryz.prog 31 [.ptr x.P 0] h (.int .i64 ((s.np:Int) - (mb s.ws s.ws.length:Nat))) h:=by
 refine f31.bW af ?_
 unfold c31 zz
 have np1:=ok.np1
 have c1:=ie g
 have c2:=Fz g.oA g.oU ok.np0 ab (by rw[ok.wl];omega)
 have oP:=g.oP
 refine rg2 (cj2 oP @Bool.not_true) c1 c2 ?_
 refine Wp.ret ⟨trivial,_,?_,ay.refl _,rfl⟩
 simp only[go_sem]
 exact rfl
theorem wP {h:H} {c:Cap} {f:AV}:aI Tryz.prog 124 [.sl 1 [] c,f] h (.int .i64 (-1)) h:=by
 refine f124.bW af ?_
 unfold Gj zz
 have d1:decide ((0:Int)<((0:Nat):Int))=false:=by decide
 refine rf0 @List.length_nil.{0} ?_
 refine Wp.eV [] rfl (fun _:Unit=>[(7,.int .i64 ((0:Nat):Int)),(8,.int .i64 0)]) (fun _=>h) (fun _=>True) (fun _=>0) () trivial rfl ?_ ?_
 ·exact xSb
 rintro - -
 refine rf0 d1 ?_
 refine Wp.ret ⟨trivial,_,?_,ay.refl _,rfl⟩
 simp only[go_sem]
 exact rfl
theorem qL {h:H} {c:Cap} {f:AV}:aI Tryz.prog 90 [.sl 1 [] c,f] h (.bool false) h:=by
 refine f90.bW af ?_
 unfold c90 zz
 have c1:=wP (h:=h) (c:=c) (f:=f)
 have d1:decide ((0:Int)≤ -1)=false:=by decide
 refine rg1 d1 c1 ?_
 refine Wp.ret ⟨trivial,_,?_,ay.refl _,rfl⟩
 simp only[go_sem]
 exact rfl
theorem Ak {x:PgI} {s:PgS} {T:List Nat} {h:H} (g:PgH x s T h) {c:Cap}:aM Tryz.prog 57 [.ptr x.P 0,.sl 1 [] c] h fun r h'=>r= .int .i64 0∧PgH x s T h'∧h'.objs=h.objs:=by
 refine f57.cq af ?_
 unfold c57 zz
 have lt:=g.lt
 have g1:PgH x s T ⟨upd h.objs h.n (some (.cells [.ptr x.P 0])),h.n+1,h.toks,h.m⟩:=g.keep (fun j hj=>by simp only[upd];rw[if_neg ab]) (Nat.le_succ _) (fun j hj=>by
  simp only at hj
  simp only[upd]
  rw[if_neg ab]
  exact g.fresh j ab) rfl (Nat.le_refl _)
 have c1:=ie g1
 have d1:decide ((0:Int)<((0:Nat):Int))=false:=by decide
 refine rg1 (cj3 @Bool.not_true d1 @List.length_nil.{0}) c1 ?_
 obtain ⟨h1,e1⟩:∃h1:H,h1=⟨upd h.objs h.n (some (.cells [.ptr x.P 0])),h.n+1,h.toks,h.m⟩:=⟨_,rfl⟩
 rw[←e1]
 refine Wp.eV [1,2] xA7 (fun _:Unit=>[(13,.int .i64 ((0:Nat):Int)),(14,.int .i64 0)]) (fun _=>h1) (fun _=>True) (fun _=>0) () trivial rfl ?_ ?_
 ·exact xSb
 rintro - -
 have c2:=qL (h:=h1) (c:=c) (f:= .clo (.func 91) [] [.ptr h.n 0])
 refine rg1 (cj2 d1 @List.length_nil.{0}) c2 ?_
 refine Wp.eV [] rfl (fun _:Unit=>[(35,.int .i64 ((0:Nat):Int)),(36,.int .i64 0)]) (fun _=>h1) (fun _=>True) (fun _=>0) () trivial rfl ?_ ?_
 ·exact xSb
 rintro - -
 refine rf0 d1 ?_
 refine Wp.le (s':=⟨tm [(4,.int .i64 0)],⟨h.objs,h.n+1,h.toks,h.m⟩⟩) (aK.of (bL ?_) ?_ (fun y hy=>by rw[e1];exact hy) (by rw[e1];exact Nat.le_refl _) (by rw[e1];exact Nat.le_refl _)) ?_
 ·exact xSb
 ·rw[e1]
  exact OLe.skip (g.fresh _ (Nat.le_refl _))
 refine Wp.ret ⟨trivial,.int .i64 0,?_,rfl,?_,rfl⟩
 ·simp only[go_sem]
  exact rfl
 ·exact g.keep (fun _ _=>rfl) (Nat.le_succ _) (fun j hj=>g.fresh j (by simp only at hj;omega)) rfl (Nat.le_refl _)
theorem Al:sF (List.replicate 128 (AV.int .u8 0))=some (List.replicate 128 0):=by
 have h:=ma (List.replicate 128 0)
 have e:ar (List.replicate 128 0)=List.replicate 128 (AV.int .u8 0):=by simp[ar,byte]
 rw[e] at h
 exact h
theorem Am {F:Nat→Option Av.Obj} {n m:Nat} {T:List Nat} {k:Nat} (h0:0<k) (h1:k≤16384):
  aI Tryz.prog 32 [.int .i64 (k:Int)] ⟨F,n,T,m⟩ (.tup [.ptr (n+1) 0,.int .i64 0]) ⟨upd (upd F n (some (.bk ⟨k,[]⟩))) (n+1) (some (dkO n k (cZ [] none))),n+1+1,T,m⟩:=by
 refine f32.bW af ?_
 unfold c32
 have d1:decide ((k:Int)<1)=false:=decide_eq_false ab
 have d2:decide ((16384:Int)<(k:Int))=false:=decide_eq_false ab
 have z:=Al
 obtain ⟨Z,hZ⟩:∃Z,Z=List.replicate 128 (AV.int .u8 0):=⟨_,rfl⟩
 rw[←hZ] at z ⊢
 clear hZ
 refine rf0 (cj2 d1 d2) ?_
 have s1:(0:Int)≤(k:Int):=by omega
 have s2:(k:Int)*((128:Nat):Int)≤140737488355328:=by omega
 have s3:(k:Int)<9223372036854775808:=by omega
 refine Wp.reg ?_
 refine ao.part 1 xA1 ?_
 simp only[List.drop_succ_cons,List.drop_zero,List.drop_nil]
 refine ao.opA xA2 (by simp only[fE,jO,jN,go_sem,reduceIte,Nat.reduceEqDiff,Nat.reduceAdd,bx,ax,if_true,if_false,Nat.reduceMul,Nat.reduceLeDiff,z,s1,s2,s3,Int.le_refl,Int.toNat_natCast,and_self];exact rfl) ?_
 refine ao.part 4 xA1 ?_
 simp only[List.drop_succ_cons,List.drop_zero,List.drop_nil]
 refine ao.nil ⟨trivial,?_⟩
 refine Wp.ret ⟨trivial,_,?_,ay.refl _,?_⟩
 ·simp only[go_sem]
  exact rfl
 ·rfl
theorem wQ {F:Nat→Option Av.Obj} {n m:Nat} {T:List Nat} {k:Nat} (h0:0<k) (h1:k≤16384):
  aI Tryz.prog 68 [.int .i64 (k:Int)] ⟨F,n,T,m⟩ (.tup [.ptr (n+1) 0,.int .i64 0]) ⟨upd (upd F n (some (.cells (di (List.replicate ((k+63)/64) 0))))) (n+1) (some (alO k n ((k+63)/64))),n+1+1,T,m⟩:=by
 refine f68.bW af ?_
 unfold c68 zz
 have d1:decide ((k:Int)<1)=false:=decide_eq_false ab
 have d2:decide ((16384:Int)<(k:Int))=false:=decide_eq_false ab
 have w1:IntKind.i64.wrap ((k:Int)+64)=(k:Int)+64:=IntWalk.i64_in _ ab
 have w2:IntKind.i64.wrap ((k:Int)+64 - 1)=((k+63:Nat):Int):=by rw[IntWalk.i64_in _ ab];omega
 have w3:IntKind.i64.wrap (((k+63:Nat):Int).tdiv 64)=(((k+63)/64:Nat):Int):=by
  rw[Int.tdiv_eq_ediv_of_nonneg ab,IntWalk.i64_in _ ab];omega
 have h64:¬((64:Int)=0):=by decide
 obtain ⟨q,hq⟩:∃q,q=(k+63)/64:=⟨_,rfl⟩
 rw[←hq] at w3 ⊢
 have s1:(0:Int)≤(q:Int):=by omega
 have s2:(q:Int)*((8:Nat):Int)≤140737488355328:=by omega
 have s3:(q:Int)<9223372036854775808:=by omega
 have ez:(List.replicate q (AV.int .u64 0)).flatMap cellsOf=di (List.replicate q 0):=by
  clear w3 s1 s2 s3 hq
  induction q with
  |zero=>rfl
  |succ q ih=>simp only[List.replicate_succ,List.flatMap_cons,ih];rfl
 obtain ⟨zz,hz⟩:∃zz:AV,zz= .int .u64 0:=⟨_,rfl⟩
 rw[←hz] at ez ⊢
 have hs:shaped zz=true:=by rw[hz];rfl
 have hx:∀c,zz≠ .agg c:=fun c=>by rw[hz];intro h;cases h
 refine rf0 (cj2 d1 d2) ?_
 refine Wp.reg ?_
 refine ao.part 5 (xAe (cj4 w1 w2 w3 h64)) ?_
 simp only[List.drop_succ_cons,List.drop_zero,List.drop_nil]
 subst hz
 refine ao.opA xA2 (by simp only[fE,jO,jN,go_sem,reduceIte,Nat.reduceEqDiff,Nat.reduceAdd,bx,ax,if_true,if_false,Nat.reduceMul,Nat.reduceLeDiff,s1,s2,s3,ez,Int.le_refl,Int.toNat_natCast,and_self];exact rfl) ?_
 refine ao.part 4 xA1 ?_
 simp only[List.drop_succ_cons,List.drop_zero,List.drop_nil]
 refine ao.nil ⟨trivial,?_⟩
 refine Wp.ret ⟨trivial,_,?_,ay.refl _,?_⟩
 ·simp only[go_sem]
  exact rfl
 ·rfl
def nr (F:Nat→Option Av.Obj) (n D k:Nat):Nat→Option Av.Obj:=upd (upd (upd (upd F n (some (.cells (di (List.replicate ((k+63)/64) 0))))) (n+1) (some (alO k n ((k+63)/64)))) (n+1+1) (some (.cells (ic (List.replicate k 0))))) (n+1+1+1) (some (.cells [.ptr (n+1) 0,.ptr D 0,.int .i64 0,.tsl 1 (n+1+1) 0 k none]))
theorem wR {F:Nat→Option Av.Obj} {n m D K:Nat} {T:List Nat} {k:Nat} {pa:AV} (hD:F D=some (dkO K (8*k) pa)) (h0:0<k) (h1:k≤500):
  aI Tryz.prog 33 [.ptr D 0,.int .i64 0,.int .i64 (k:Int)] ⟨F,n,T,m⟩ (.tup [.ptr (n+1+1+1) 0,.int .i64 0]) ⟨nr F n D k,n+1+1+1+1,T,m⟩:=by
 refine f33.bW af ?_
 unfold c33 zz
 have c1:=Fj (h:=⟨F,n,T,m⟩) hD ab
 have c2:=wQ (F:=F) (n:=n) (m:=m) (T:=T) h0 ab
 obtain ⟨z,hz⟩:∃z:Int,z=0:=⟨_,rfl⟩
 have d0:decide (((8*k:Nat):Int)=0)=false:=decide_eq_false ab
 have d1:decide ((0:Int)<0)=false:=by decide
 have d2:decide ((k:Int)<1)=false:=decide_eq_false ab
 have w1:IntKind.i64.wrap (((8*k:Nat):Int).tdiv 8)=(k:Int):=by
  rw[Int.tdiv_eq_ediv_of_nonneg ab,IntWalk.i64_in _ ab];omega
 have d3:decide ((k:Int)<(k:Int))=false:=decide_eq_false ab
 have w2:IntKind.i64.wrap ((k:Int)*8)=((8*k:Nat):Int):=by rw[IntWalk.i64_in _ ab];omega
 have w3:IntKind.i64.wrap (((8*k:Nat):Int) - ((8*k:Nat):Int))=0:=by rw[Int.sub_self];decide
 have h8:¬((8:Int)=0):=by decide
 have s1:(0:Int)≤(k:Int):=by omega
 have s2:(k:Int)*((8:Nat):Int)≤140737488355328:=by omega
 have s3:(k:Int)<9223372036854775808:=by omega
 have ez:(List.replicate k (AV.int .i64 0)).flatMap cellsOf=ic (List.replicate k 0):=by
  clear w3 w2 w1 d0 d1 d2 d3 s1 s2 s3 c1 c2 hD h0 h1
  induction k with
  |zero=>rfl
  |succ k ih=>simp only[List.replicate_succ,List.flatMap_cons,ih];rfl
 refine rg1 (cj8 d0 d1 d2 d3 w1 w2 w3 h8) c1 ?_
 refine an.cx xA2 xAb (by exact ⟨Nat.le_trans (Nat.le_succ _) (Nat.le_succ _),Nat.le_refl _⟩) (c2) ?_
 refine an.evF xAc ?_
 refine an.nil ?_
 generalize hG:upd (upd F n (some (.cells (di (List.replicate ((k+63)/64) 0))))) (n+1) (some (alO k n ((k+63)/64)))=G at*
 refine Wp.seq (Wp.reg ?_)
 refine ao.part 4 xA1 ?_
 simp only[List.drop_succ_cons,List.drop_zero,List.drop_nil]
 refine ao.opA xA2 (by simp only[fE,jO,jN,go_sem,reduceIte,Nat.reduceEqDiff,Nat.reduceAdd,bx,ax,if_true,if_false,Nat.reduceMul,Nat.reduceLeDiff,s1,s2,s3,ez,Int.le_refl,Int.toNat_natCast,and_self];exact rfl) ?_
 refine ao.part 4 xA1 ?_
 simp only[List.drop_succ_cons,List.drop_zero,List.drop_nil]
 refine ao.nil ⟨trivial,?_⟩
 refine Wp.ret ⟨trivial,_,?_,ay.refl _,?_⟩
 ·simp only[go_sem]
  exact rfl
 ·unfold nr
  rw[hG]
def pg0 (k:Nat):PgS:=⟨k,List.replicate ((k+63)/64) 0,List.replicate k 0,[],[],none⟩
theorem wS {k:Nat} (h0:0<k) (h1:k≤500):bP (pg0 k) where
 np0:=h0
 np1:=h1
 st:=by simp[pg0]
 st3:=fun i=>by
  simp only[pg0,List.getD_eq_getElem?_getD,List.getElem?_replicate]
  split<;>simp
 wl:=by simp[pg0]
 bit:=fun i=>by
  have e1:(List.replicate k 0).getD i 0=0:=by
   simp only[List.getD_eq_getElem?_getD,List.getElem?_replicate]
   split<;>simp
  have e2:(List.replicate ((k+63)/64) (0:W)).getD (i/64) 0=0:=by
   simp only[List.getD_eq_getElem?_getD,List.getElem?_replicate]
   split<;>simp
  simp only[pg0,eI,e1,e2]
  simp
 pl:=fun x hx=>by simp[pg0] at hx
 dl:=fun x hx=>by simp[pg0] at hx
theorem GQ {F:Nat→Option Av.Obj} {n m:Nat} {T:List Nat} {k:Nat} (hf:∀j,n≤j→F j=none) (hT:∀t∈T,t<m):
  PgH ⟨n+1+1+1+1+1,n+1+1+1,n+1+1,n+1,n,n+1+1+1+1⟩ (pg0 k) T ⟨nr (upd (upd F n (some (.bk ⟨8*k,[]⟩))) (n+1) (some (dkO n (8*k) (cZ [] none)))) (n+1+1) (n+1) k,n+1+1+1+1+1+1,T,m⟩:=by
 have u:∀(f:Nat→Option Av.Obj) (i:Nat) (a:Option Av.Obj),upd f i a i=a:=fun f i a=>by simp[upd]
 have v:∀(f:Nat→Option Av.Obj) (i j:Nat) (a:Option Av.Obj),j≠i→upd f i a j=f j:=fun f i j a h=>by simp[upd,h]
 refine ⟨?_,?_,?_,?_,?_,?_,?_,?_,?_,rfl,hT,(fun t e=>by cases e),fun _=>rfl⟩
 ·simp only[nr,pg0]
  rw[u];simp
 ·simp only[nr,pg0]
  rw[v _ _ _ _ ab,v _ _ _ _ ab,u];simp
 ·simp only[nr,pg0]
  rw[v _ _ _ _ ab,v _ _ _ _ ab,v _ _ _ _ ab,u]
 ·simp only[nr,pg0]
  rw[v _ _ _ _ ab,v _ _ _ _ ab,v _ _ _ _ ab,v _ _ _ _ ab,u]
 ·simp only[nr,pg0]
  rw[v _ _ _ _ ab,v _ _ _ _ ab,v _ _ _ _ ab,v _ _ _ _ ab,v _ _ _ _ ab,u]
 ·simp only[nr,pg0]
  rw[v _ _ _ _ ab,u]
 ·simp only;omega
 ·simp only;omega
 ·intro j hj
  simp only at hj
  simp only[nr]
  rw[v _ _ _ _ ab,v _ _ _ _ ab,v _ _ _ _ ab,v _ _ _ _ ab,v _ _ _ _ ab,v _ _ _ _ ab]
  exact hf j ab
section
variable {x:PgI} {s:PgS} {T:List Nat} {h:H}
theorem PgH.kept (g:PgH x s T h) {d:List (Nat × List UInt8)} {n':Nat} (hn:h.n≤n'):PgH x {s with p:=[],d:=d,tk:=none} T ⟨upd (upd h.objs x.K (some (.bk ⟨8*s.np,d⟩))) x.D (some (dkO x.K (8*s.np) (cZ [] none))),n',T,h.m⟩:=by
 have ne:=g.ne
 have lt:=g.lt
 have q:∀j,j≠x.D→j≠x.K→upd (upd h.objs x.K (some (.bk ⟨8*s.np,d⟩))) x.D (some (dkO x.K (8*s.np) (cZ [] none))) j=h.objs j:=fun j a b=>by simp only[upd];rw[if_neg a,if_neg b]
 exact {
  oP:=(q _ ne.2.2.1 ne.2.2.2.1).trans g.oP
  oA:=(q _ ne.2.2.2.2.2.2.1 ne.2.2.2.2.2.2.2.1).trans g.oA
  oU:=(q _ ne.2.2.2.2.2.2.2.2.2.1 ne.2.2.2.2.2.2.2.2.2.2.1).trans g.oU
  oD:=by simp only[upd,if_true]
  oK:=by
   simp only[upd]
   rw[if_neg (Ne.symm ne.2.2.2.2.2.2.2.2.2.2.2.2.1)]
   simp
  oI:=(q _ (Ne.symm ne.2.2.2.2.2.2.2.2.2.2.2.2.2.1) (Ne.symm ne.2.2.2.2.2.2.2.2.2.2.2.2.2.2)).trans g.oI
  lt:=by simp only;omega
  ne:=ne
  fresh:=fun j hj=>(q j (by simp only at hj;omega) (by simp only at hj;omega)).trans (g.fresh j (by simp only at hj;omega))
  toks:=rfl
  tm:=g.tm
  tkm:=fun t e=>by cases e
  tk0:=fun _=>rfl}
theorem An (g:PgH x s T h) {d:List (Nat × List UInt8)} {n':Nat}:ct x h ⟨upd (upd h.objs x.K (some (.bk ⟨8*s.np,d⟩))) x.D (some (dkO x.K (8*s.np) (cZ [] none))),n',T,h.m⟩:=fun j _ _ _ _ a4 a5 _=>by simp only[upd];rw[if_neg a4,if_neg a5]
theorem Ec (g:PgH x s T h) {d:List (Nat × List UInt8)} {n':Nat}:aq h ⟨upd (upd h.objs x.K (some (.bk ⟨8*s.np,d⟩))) x.D (some (dkO x.K (8*s.np) (cZ [] none))),n',T,h.m⟩:=fun j hj=> .inl (by
 simp only[upd] at hj
 by_cases e:j=x.D
 ·rw[e,g.oD];rfl
 ·rw[if_neg e] at hj
  by_cases e2:j=x.K
  ·rw[e2,g.oK];rfl
  ·rw[if_neg e2] at hj;exact hj)
theorem GR (g:PgH x s T h):(⟨h.objs,h.n,tkT s.tk T,h.m⟩:H)=h:=by
 have:=g.toks
 cases h
 simp only at this
 rw[this]
theorem Ed (g:PgH x s T h) (ok:bP s) (hp:s.p.length<1000000):aM Tryz.prog 21 [.ptr x.D 0] h fun r h'=>r= .int .i64 0∧PgH x {s with p:=[],d:=kd (fun _=>true) s.p s.d s.p.length,tk:=none} T h'∧ct x h h'∧aq h h':=by
 have c:=DY (n:=h.n) (m:=h.m) (T:=T) g.oD g.oK ok.pl g.lt.2.2.2.1 g.lt.2.2.2.2.1 g.ne.2.2.2.2.2.2.2.2.2.2.2.2.1 g.fresh hp (by have:=ok.np0;omega)
 rw[GR g] at c
 refine c.mono ?_
 rintro r h' ⟨rfl,n',hn,rfl⟩
 exact ⟨rfl,g.kept hn,An g,Ec g⟩
theorem bP.kept (ok:bP s) {pick:Nat→Bool}:bP {s with p:=[],d:=kd pick s.p s.d s.p.length,tk:=none} where
 np0:=ok.np0
 np1:=ok.np1
 st:=ok.st
 st3:=ok.st3
 wl:=ok.wl
 bit:=ok.bit
 pl:=fun x hx=>by simp at hx
 dl:=wK ok.dl (fun x hx=>(ok.pl x hx).1) _ (Nat.le_refl _)
end
theorem nX {p d p' d':List (Nat × List UInt8)} {i:Nat}:∀k,(∀j,j<k→rdP p d (i*8+j)=rdP p' d' (i*8+j))→pgB p d i k=pgB p' d' i k
 |0,_=>rfl
 |k+1,h=>by rw[pgB,pgB,nX k fun j hj=>h j ab,h k ab]
theorem Ee (p q d:List (Nat × List UInt8)) (j:Nat):rdP (p++q) d j=q.foldl (fun a x=>if x.1=j then x.2 else a) (rdP p d j):=by
 simp[rdP,List.foldl_append]
theorem rO:∀(q:List (Nat × List UInt8)) (j:Nat) (a:List UInt8),(∀x∈q,x.1≠j)→q.foldl (fun a x=>if x.1=j then x.2 else a) a=a
 |[],_,_,_=>rfl
 |x::q,j,a,h=>by
  rw[List.foldl_cons,if_neg (h x af)]
  exact rO q j a fun y hy=>h y (by simp[hy])
theorem Ao {p d:List (Nat × List UInt8)} {i j:Nat} {l:List UInt8} {k:Nat} (h:j<i*8∨i*8+k≤j):rdP (p++wrs i l k) d j=rdP p d j:=by
 rw[Ee]
 refine rO _ _ _ fun x hx=>?_
 obtain ⟨q,hq,rfl⟩:=List.mem_map.1 hx
 have:=List.mem_range.1 hq
 simp only
 omega
theorem x8 {p d:List (Nat × List UInt8)} {i:Nat} {l:List UInt8}:∀(k j:Nat),j<k→rdP (p++wrs i l k) d (i*8+j)=(l.drop (j*128)).take 128
 |0,_,h=>absurd h (Nat.not_lt_zero _)
 |k+1,j,h=>by
  rw[uP,←List.append_assoc,gZ]
  by_cases e:j=k
  ·subst e;rw[if_pos rfl]
  ·rw[if_neg (by simp only;omega)]
   exact x8 k j ab
theorem Cq {p d:List (Nat × List UInt8)} {i:Nat} {l:List UInt8} (hl:l.length=1024):pgB (p++wrs i l 8) d i 8=l:=by
 have key:∀k,k≤8→pgB (p++wrs i l 8) d i k=l.take (k*128):=by
  intro k hk
  induction k with
  |zero=>simp[pgB]
  |succ k ih=>
   rw[pgB,ih ab,x8 8 k ab,Nat.succ_mul,List.take_add]
 rw[key 8 (Nat.le_refl _)]
 exact List.take_of_length_le ab
theorem jT {p d:List (Nat × List UInt8)} {i k:Nat} {l:List UInt8} (h:k≠i):pgB (p++wrs i l 8) d k 8=pgB p d k 8:=
 nX 8 fun j hj=>Ao ab
theorem wT {p d:List (Nat × List UInt8)} (k:Nat):pgB [] (kd (fun _=>true) p d p.length) k 8=pgB p d k 8:=
 nX 8 fun j hj=>by
  show eD _ _=_
  exact Fm _
def dL (f:Nat→Bool):Nat→Nat
 |0=>0
 |n+1=>dL f n+(f n).toNat
theorem nu (f:Nat→Bool) (a:Nat):∀b,dL f (a+b)=dL f a+dL (fun i=>f (a+i)) b
 |0=>rfl
 |b+1=>by
  show dL f (a+b)+(f (a+b)).toNat=dL f a+(dL (fun i=>f (a+i)) b+(f (a+b)).toNat)
  rw[nu f a b];omega
theorem fV {f g:Nat→Bool}:∀n,(∀i,i<n→f i=g i)→dL f n=dL g n
 |0,_=>rfl
 |n+1,h=>by rw[dL,dL,fV n fun i hi=>h i ab,h n ab]
theorem nY {f:Nat→Bool}:∀n,(∀i,i<n→f i=false)→dL f n=0
 |0,_=>rfl
 |n+1,h=>by rw[dL,nY n fun i hi=>h i ab,h n ab];rfl
theorem Cr:∀(k x:Nat),pa k x=dL (fun i=>x.testBit i) k
 |0,_=>rfl
 |k+1,x=>by
  rw[pa,Cr k (x/2),show k+1=1+k from Nat.add_comm _ _,nu]
  have e1:dL (fun i=>x.testBit i) 1=x%2:=by
   show 0+(x.testBit 0).toNat=_
   rw[Nat.testBit_zero]
   rcases Nat.mod_two_eq_zero_or_one x with h|h<;>simp[h]
  have e2:dL (fun i=>x.testBit (1+i)) k=dL (fun i=>(x/2).testBit i) k:=fV k fun i _=>by
   show x.testBit (1+i)=(x/2).testBit i
   rw[Nat.add_comm,Nat.testBit_succ]
  rw[e1,e2]
theorem uS (ws:List W):∀j,j≤ws.length→mb ws j=dL (eI ws) (64*j)
 |0,_=>by simp[mb,dL]
 |j+1,h=>by
  rw[nV ab,uS ws j ab,Nat.mul_succ,nu,Cr]
  congr 1
  refine fV 64 fun i hi=>?_
  have e1:(64*j+i)/64=j:=by omega
  have e2:(64*j+i)%64=i:=by omega
  unfold eI
  rw[e1,e2]
  rfl
theorem kY (st:List Nat) (z:Nat):∀n,(cF st z n).length=dL (fun i=>decide (st.getD i 0=z)) n
 |0=>rfl
 |n+1=>by
  rw[oM,dL,←kY st z n]
  by_cases e:st.getD n 0=z
  ·rw[if_pos e,List.length_append,decide_eq_true e];rfl
  ·rw[if_neg e,decide_eq_false e];rfl
theorem GS (st:List Nat) (h3:∀i,st.getD i 0≤3):∀n,dL (fun i=> !decide (st.getD i 0=0)) n=dL (fun i=>decide (st.getD i 0=1)) n+dL (fun i=>decide (st.getD i 0=2)) n+dL (fun i=>decide (st.getD i 0=3)) n
 |0=>rfl
 |n+1=>by
  simp only[dL]
  rw[GS st h3 n]
  have:=h3 n
  generalize st.getD n 0=z at this
  have:z=0∨z=1∨z=2∨z=3:=by omega
  rcases this with rfl|rfl|rfl|rfl<;>simp<;>omega
theorem Ap {s:PgS} (ok:bP s):mb s.ws s.ws.length=(cF s.st 1 s.np).length+(cF s.st 2 s.np).length+(cF s.st 3 s.np).length:=by
 rw[uS s.ws _ (Nat.le_refl _),kY,kY,kY,←GS s.st ok.st3]
 have hw:=ok.wl
 obtain ⟨r,hr⟩:∃r,64*s.ws.length=s.np+r:=⟨64*s.ws.length - s.np,ab⟩
 rw[hr,nu]
 have e1:dL (fun i=>eI s.ws (s.np+i)) r=0:=nY r fun i hi=>by
  show eI s.ws (s.np+i)=false
  rw[ok.bit,decide_eq_false ab];rfl
 rw[e1,Nat.add_zero]
 exact fV _ fun i hi=>by rw[ok.bit,decide_eq_true hi];rfl
def trO (x:PgI) (r:Int):Av.Obj:= .cells [.ptr x.P 0,.int .i64 r]
def Kept (h h':H):Prop:=∀j,j<h.n→h'.objs j=h.objs j
theorem kD (l:List Int):(ints l).length=l.length:=by simp[ints]
theorem Cs {x:PgI} {s:PgS} {T:List Nat} {h:H} (g:PgH x s T h) (ok:bP s) {r:Int} (h1: -1≤r) (h2:r<s.np):
  aM Tryz.prog 26 [.ptr x.P 0,.int .i64 r] h fun q h'=>∃t,q= .tup [.ptr t 0,.int .i64 0]∧h.n≤t∧t<h'.n∧h'.objs t=some (trO x r)∧PgH x s T h'∧Kept h h'∧aq h h':=by
 refine f26.cq af ?_
 unfold c26 zz
 have np1:=ok.np1
 refine rf0 @and_self ?_
 refine an.aY ae xA4 (Ak (c:= .exact 0) g) fun r1 h1' ⟨hr,g1,o1⟩ n1 _=>?_
 subst hr
 refine an.evF xAc ?_
 refine an.nil ?_
 have d0:decide ((0:Int)=0)=true:=by decide
 refine rf0 (cj2 d0 @Bool.not_true) ?_
 refine an.aY ae xA4 (Ea g1 ok) fun r2 h2' ⟨hr,g2,o2⟩ n2 _=>?_
 subst hr
 refine an.evF xAc ?_
 refine an.nil ?_
 have c1:=Eb g2 ok
 have tk:=Ap ok
 rw[tk] at c1
 have a1:=jS s.st 1 s.np
 have a2:=jS s.st 2 s.np
 have a3:=jS s.st 3 s.np
 have l1:=kD (cF s.st 1 s.np)
 have l2:=kD (cF s.st 2 s.np)
 have l3:=kD (cF s.st 3 s.np)
 generalize (cF s.st 1 s.np).length=n1 at*
 generalize (cF s.st 2 s.np).length=n2 at*
 generalize (cF s.st 3 s.np).length=n3 at*
 generalize ints (cF s.st 1 s.np)=L1 at*
 generalize ints (cF s.st 2 s.np)=L2 at*
 generalize ints (cF s.st 3 s.np)=L3 at*
 have w1:IntKind.i64.wrap ((n1:Int)+(n2:Int))=((n1+n2:Nat):Int):=by rw[IntWalk.i64_in _ ab];rfl
 have w2:IntKind.i64.wrap (((n1+n2:Nat):Int)+(n3:Int))=((n1+n2+n3:Nat):Int):=by rw[IntWalk.i64_in _ ab];rfl
 have w3:IntKind.i64.wrap (((n1+n2+n3:Nat):Int)+((s.np:Int) - ((n1+n2+n3:Nat):Int)))=(s.np:Int):=by rw[IntWalk.i64_in _ ab];omega
 have d1:decide (r< -1)=false:=decide_eq_false ab
 have d2:decide ((s.np:Int)≤r)=false:=decide_eq_false ab
 refine rg1 (cj8 l1 l2 l3 w1 w2 w3 d1 d2) c1 ?_
 have q:∀j,j<h2'.n→(upd h2'.objs h2'.n (some (trO x r)):Nat→Option Av.Obj) j=h2'.objs j:=fun j hj=>by simp only[upd];rw[if_neg ab]
 have oo:h2'.objs=h.objs:=o2.trans o1
 have nn:h.n≤h2'.n:=Nat.le_trans ‹h.n≤h1'.n› ‹h1'.n≤h2'.n›
 refine Wp.ret ⟨trivial,.tup [.ptr h2'.n 0,.int .i64 0],?_,h2'.n,rfl,nn,Nat.lt_succ_self _,?_,?_,?_,?_⟩
 ·simp only[go_sem]
  exact rfl
 ·exact if_pos rfl
 ·refine g2.keep q (Nat.le_succ _) (fun j hj=>?_) rfl (Nat.le_refl _)
  simp only at hj
  show (upd h2'.objs h2'.n (some (trO x r)):Nat→Option Av.Obj) j=none
  simp only[upd]
  rw[if_neg ab]
  exact g2.fresh j ab
 ·intro j hj
  exact (q j ab).trans (by rw[oo])
 ·intro j hj
  have hj:((upd h2'.objs h2'.n (some (trO x r)):Nat→Option Av.Obj) j).isSome=true:=hj
  by_cases e:j=h2'.n
  ·exact .inr ⟨ab,by rw[e];exact Nat.lt_succ_self _⟩
  ·simp only[upd] at hj
   rw[if_neg e,oo] at hj
   exact .inl hj
theorem dN {h:H}:aI Tryz.prog 47 [.int .i64 0] h (.tup []) h:=by
 refine f47.bW af ?_
 unfold c47 zz
 have d0:decide ((0:Int)=0)=true:=by decide
 refine rf0 (cj2 d0 @Bool.not_true) ?_
 exact ⟨trivial,.tup [],rfl,ay.refl _,rfl⟩
section
variable {x:PgI} {s:PgS} {T:List Nat} {h:H}
def H.new (h:H) (o:Av.Obj):H:=⟨upd h.objs h.n (some o),h.n+1,h.toks,h.m⟩
theorem aH {o:Av.Obj} {j:Nat} (hj:j<h.n):(H.new h o).objs j=h.objs j:=by simp only[H.new,upd];rw[if_neg ab]
theorem bV {o:Av.Obj}:(H.new h o).objs h.n=some o:=by simp[H.new,upd]
theorem PgH.new (g:PgH x s T h) (o:Av.Obj):PgH x s T (H.new h o):=
 g.keep (fun j hj=>aH hj) (Nat.le_succ _) (fun j hj=>by
  have hj:h.n+1≤j:=hj
  simp only[H.new,upd]
  rw[if_neg ab]
  exact g.fresh j ab) rfl (Nat.le_refl _)
theorem bK {o:Av.Obj}:ct x h (H.new h o):=fun j hj _ _ _ _ _ _=>aH hj
theorem bC {o:Av.Obj}:aq h (H.new h o):=fun j hj=>by
 by_cases e:j=h.n
 ·exact .inr ⟨ab,by rw[e];exact Nat.lt_succ_self _⟩
 ·simp only[H.new,upd] at hj
  rw[if_neg e] at hj
  exact .inl hj
theorem x9 {tid:Nat} {r:Int} {n:Page.Node} {i:Nat} (g:PgH x s T h) (ok:bP s) (ht:h.objs tid=some (trO x r)) (hn:Nb n) (hc:check n=0) (hl:(bj n).length=1024) (hf:hM s.ws s.np=some i) (hp:s.p.length<900000):
  aM Tryz.prog 55 [.ptr tid 0,aC n] h fun q h'=>q= .int .i64 i∧(∃tk,PgH x {s with ws:=setW s.ws i true,st:=s.st.set i 2,p:=s.p++wrs i (bj n) 8,tk:=tk} T h')∧ct x h h'∧aq h h':=by
 refine f55.cq af ?_
 unfold c55 zz
 have hlt:tid<h.n:=by
  rcases Nat.lt_or_ge tid h.n with q|q
  ·exact q
  ·rw[g.fresh _ q] at ht;cases ht
 have b0:=mV n hn
 rw[hc] at b0
 have b:bc Tryz.prog 83 [aC n] (.tup [.sl 1 (ar (bj n)) .any,.int .i64 0]):=b0
 clear b0
 have c0:aI Tryz.prog 47 [.int .i64 0] (H.new h (.cells [.bool n.leaf,.sl 1 (strs n.keys) .any,.sl 1 (strs n.vals) .any,.sl 1 (ints n.kids) .any])) (.tup []) (H.new h (.cells [.bool n.leaf,.sl 1 (strs n.keys) .any,.sl 1 (strs n.vals) .any,.sl 1 (ints n.kids) .any])):=dN
 have ht1:=(aH (o:= .cells [.bool n.leaf,.sl 1 (strs n.keys) .any,.sl 1 (strs n.vals) .any,.sl 1 (ints n.kids) .any]) hlt).trans ht
 have g1:=g.new (.cells [.bool n.leaf,.sl 1 (strs n.keys) .any,.sl 1 (strs n.vals) .any,.sl 1 (ints n.kids) .any])
 have sm:=bK (x:=x) (h:=h) (o:= .cells [.bool n.leaf,.sl 1 (strs n.keys) .any,.sl 1 (strs n.vals) .any,.sl 1 (ints n.kids) .any])
 have no:=bC (h:=h) (o:= .cells [.bool n.leaf,.sl 1 (strs n.keys) .any,.sl 1 (strs n.vals) .any,.sl 1 (ints n.kids) .any])
 have ln:h.n≤(H.new h (.cells [.bool n.leaf,.sl 1 (strs n.keys) .any,.sl 1 (strs n.vals) .any,.sl 1 (ints n.kids) .any])).n:=Nat.le_succ _
 unfold aC at b ⊢
 unfold H.new at c0
 refine rg2 @and_self b c0 ?_
 refine Wp.le (s':=⟨tm [(0,.ptr tid 0),(5,.sl 1 (ar (bj n)) .any)],H.new h (.cells [.bool n.leaf,.sl 1 (strs n.keys) .any,.sl 1 (strs n.vals) .any,.sl 1 (ints n.kids) .any])⟩) (aK.tm ?_) ?_
 ·exact xSb
 clear c0
 generalize H.new h (.cells [.bool n.leaf,.sl 1 (strs n.keys) .any,.sl 1 (strs n.vals) .any,.sl 1 (ints n.kids) .any])=h1 at*
 unfold trO at ht1
 refine rf0 ht1 ?_
 refine an.aY ae xA4 (uR g1 ok hl hf hp) fun r h2 ⟨hr,g2,sm2,no2⟩ n2 _=>?_
 subst hr
 have c2:aI Tryz.prog 47 [.int .i64 0] h2 (.tup []) h2:=dN
 refine an.evF xAc ?_
 refine an.nil ?_
 refine rg1 @and_self c2 ?_
 refine Wp.ret ⟨trivial,.int .i64 i,?_,rfl,g2,sm.trans sm2 ln,aq.trans no no2 ln n2⟩
 simp only[go_sem]
 exact rfl
def az (n:Page.Node):Av.Obj:= .cells [.bool n.leaf,.sl 1 (strs n.keys) .any,.sl 1 (strs n.vals) .any,.sl 1 (ints n.kids) .any]
theorem ql {tid:Nat} {r:Int} {n:Page.Node} {i:Nat} (g:PgH x s T h) (ok:bP s) (ht:h.objs tid=some (trO x r)) (hn:Nb n) (hc:check n=0) (hl:(bj n).length=1024) (hi:i<s.np) (hs:s.st.getD i 0=2) (hp:s.p.length<900000):
  aM Tryz.prog 78 [.ptr tid 0,.int .i64 (i:Int),aC n] h fun q h'=>q= .int .i64 i∧(∃tk,PgH x {s with p:=s.p++wrs i (bj n) 8,tk:=tk} T h')∧ct x h h'∧aq h h':=by
 refine f78.cq af ?_
 unfold c78 zz
 have hlt:tid<h.n:=by
  rcases Nat.lt_or_ge tid h.n with q|q
  ·exact q
  ·rw[g.fresh _ q] at ht;cases ht
 have b0:=mV n hn
 rw[hc] at b0
 have b:bc Tryz.prog 83 [aC n] (.tup [.sl 1 (ar (bj n)) .any,.int .i64 0]):=b0
 clear b0
 have c0:aI Tryz.prog 47 [.int .i64 0] (H.new h (az n)) (.tup []) (H.new h (az n)):=dN
 have ht1:=(aH (o:=az n) hlt).trans ht
 have hn1:=bV (h:=h) (o:=az n)
 have g1:=g.new (az n)
 have sm:=bK (x:=x) (h:=h) (o:=az n)
 have no:=bC (h:=h) (o:=az n)
 have ln:h.n≤(H.new h (az n)).n:=Nat.le_succ _
 unfold aC at b
 unfold aC
 unfold H.new az at c0
 refine rg2 @and_self b c0 ?_
 refine Wp.le (s':=⟨tm [(0,.ptr tid 0),(1,.int .i64 i),(5,.ptr h.n 0),(7,.sl 1 (ar (bj n)) .any)],H.new h (az n)⟩) (aK.tm ?_) ?_
 ·exact xSb
 clear c0
 generalize H.new h (az n)=h1 at*
 have ht2:=ht1
 unfold trO at ht1
 unfold az at hn1
 have np1:=ok.np1
 refine rf0 ht1 ?_
 refine an.aY ae xA4 (s8 g1 np1 hl hi (by rw[ok.st];exact hi) hs hp) fun r h2 ⟨hr,g2,sm2,no2⟩ n2 _=>?_
 subst hr
 have d0:decide ((0:Int)=0)=true:=by decide
 refine an.evF xAc ?_
 refine an.nil ?_
 refine rf0 d0 ?_
 refine Wp.ret ⟨trivial,.int .i64 i,?_,rfl,g2,sm.trans sm2 ln,aq.trans no no2 ln n2⟩
 simp only[go_sem]
 exact rfl
theorem tf {tid:Nat} {r:Int} {n:Page.Node} {i k:Nat} (g:PgH x s T h) (ok:bP s) (ht:h.objs tid=some (trO x r)) (htx:tid≠x.P∧tid≠x.A∧tid≠x.U∧tid≠x.D∧tid≠x.K∧tid≠x.I) (hn:Nb n) (hc:check n=0) (hl:(bj n).length=1024) (hi:i<s.np) (hs:s.st.getD i 0=1) (hf:hM s.ws s.np=some k) (hp:s.p.length<900000):
  aM Tryz.prog 78 [.ptr tid 0,.int .i64 (i:Int),aC n] h fun q h'=>q= .int .i64 k∧(∃tk,PgH x {s with ws:=setW s.ws k true,st:=(s.st.set k 2).set i 3,p:=s.p++wrs k (bj n) 8,tk:=tk} T h')∧ct x h h'∧aq h h':=by
 refine f78.cq af ?_
 unfold c78 zz
 have hlt:tid<h.n:=by
  rcases Nat.lt_or_ge tid h.n with q|q
  ·exact q
  ·rw[g.fresh _ q] at ht;cases ht
 have b0:=mV n hn
 rw[hc] at b0
 have b:bc Tryz.prog 83 [aC n] (.tup [.sl 1 (ar (bj n)) .any,.int .i64 0]):=b0
 clear b0
 have c0:aI Tryz.prog 47 [.int .i64 0] (H.new h (az n)) (.tup []) (H.new h (az n)):=dN
 have ht1:=(aH (o:=az n) hlt).trans ht
 have hn1:=bV (h:=h) (o:=az n)
 have g1:=g.new (az n)
 have sm:=bK (x:=x) (h:=h) (o:=az n)
 have no:=bC (h:=h) (o:=az n)
 have ln:h.n≤(H.new h (az n)).n:=Nat.le_succ _
 unfold aC at b
 unfold aC
 unfold H.new az at c0
 refine rg2 @and_self b c0 ?_
 refine Wp.le (s':=⟨tm [(0,.ptr tid 0),(1,.int .i64 i),(5,.ptr h.n 0),(7,.sl 1 (ar (bj n)) .any)],H.new h (az n)⟩) (aK.tm ?_) ?_
 ·exact xSb
 clear c0
 generalize H.new h (az n)=h1 at*
 have ht2:=ht1
 unfold trO at ht1
 unfold az at hn1
 have np1:=ok.np1
 have hlt1:tid<h1.n:=by
  rcases Nat.lt_or_ge tid h1.n with q|q
  ·exact q
  ·rw[g1.fresh _ q] at ht2;cases ht2
 have c3:=nk (l:=bj n) g1 hl (i:=i) (by rw[ok.st];exact hi) ab
 have d0:decide ((7:Int)=0)=false:=by decide
 have d7:decide ((7:Int)=7)=true:=by decide
 refine rg1 (cj5 ht1 hn1 d0 d7 @Bool.not_true) c3 ?_
 refine an.aY (vals:=[.ptr tid 0,aC n]) ae xA4 (x9 g1 ok ht2 hn hc hl hf hp) fun r h2 ⟨hr,⟨tk,g2⟩,sm2,no2⟩ n2 _=>?_
 subst hr
 have hk:=nj hf
 have ki:k≠i:=by
  intro e
  have:=ok.bit k
  rw[hk.2,decide_eq_true hk.1,e,hs] at this
  simp at this
 have ok2:=(ok.take hk.1 (z:=2) ah ah).more (p:=wrs k (bj n) 8) (tk:=tk) (qj hl hk.1)
 have hs2:(s.st.set k 2).getD i 0=1:=by
  rw[List.getD_eq_getElem?_getD,List.getElem?_set_ne ki,←List.getD_eq_getElem?_getD]
  exact hs
 have ht3:h2.objs tid=some (trO x r):=(sm2 tid hlt1 htx.1 htx.2.1 htx.2.2.1 htx.2.2.2.1 htx.2.2.2.2.1 htx.2.2.2.2.2).trans ht2
 unfold trO at ht3
 have c5:=jX g2 ok2 hi hs2
 have g3:=g2.nW (st:=(s.st.set k 2).set i 3) af
 have o3:=g2.oI
 simp only at c5 g3 o3
 generalize hh3:({h2 with objs:=upd h2.objs x.I (some (Av.Obj.cells (ic ((s.st.set k 2).set i 3))))}:H)=h3 at*
 have e3:h3.n=h2.n:=by rw[←hh3]
 have sm3:ct x h2 h3:=by rw[←hh3];exact ct.nW
 have no3:aq h2 h3:=by rw[←hh3];exact aq.set o3
 have c6:aI Tryz.prog 47 [.int .i64 0] h3 (.tup []) h3:=dN
 refine an.evF xAc ?_
 refine an.nil ?_
 have e4:h3.m=h2.m:=by rw[←hh3]
 refine rf0 ht3 ?_
 refine an.cx xA2 xAb (by exact ⟨Nat.le_of_eq e3.symm,Nat.le_of_eq e4.symm⟩) (c5) ?_
 refine an.evF xAc ?_
 refine an.cx xA2 xAb (by exact ⟨Nat.le_refl _,Nat.le_refl _⟩) (c6) ?_
 refine an.evF xAc ?_
 refine an.nil ?_
 refine rf0 @and_self ?_
 refine Wp.ret ⟨trivial,.int .i64 k,?_,rfl,⟨tk,g3⟩,(sm.trans sm2 ln).trans sm3 (Nat.le_trans ln n2),aq.trans (aq.trans no no2 ln n2) no3 (Nat.le_trans ln n2) (Nat.le_of_eq e3.symm)⟩
 simp only[go_sem]
 exact rfl
end
section
variable {x:PgI} {s:PgS} {T:List Nat} {h:H}
theorem dA {h':H} (k:Kept h h'):ct x h h':=fun j hj _ _ _ _ _ _=>k j hj
theorem iP {tid i d:Nat} {r:Int} (g:PgH x s T h) (ok:bP s) (ht:h.objs tid=some (trO x r)) (hi:i<s.np) (hs:s.st.getD i 0≠0) (hp:s.p.length<900000) (hd:d≤20) (hr:lB (pgB s.p s.d i 8)=0):
  aM Tryz.prog 41 [.ptr tid 0,.int .i64 (i:Int),.int .i64 (d:Int)] h fun q h'=>q=aC (fF (pgB s.p s.d i 8))∧PgH x s T h'∧Kept h h'∧aq h h':=by
 refine f41.cq af ?_
 unfold c41 zz
 have hlt:tid<h.n:=by
  rcases Nat.lt_or_ge tid h.n with q|q
  ·exact q
  ·rw[g.fresh _ q] at ht;cases ht
 have d1:decide ((20:Int)<(d:Int))=false:=decide_eq_false ab
 obtain ⟨o0,ho0⟩:∃o0:Av.Obj,o0= .cells [.bool false,.sl 1 [] (.exact 0),.sl 1 [] (.exact 0),.sl 1 [] (.exact 0)]:=⟨_,rfl⟩
 have ht1:=(aH (o:=o0) hlt).trans ht
 have hn1:=bV (h:=h) (o:=o0)
 have g1:=g.new o0
 have k1:Kept h (H.new h o0):=fun j hj=>aH hj
 have no1:=bC (h:=h) (o:=o0)
 have ln:h.n+1≤(H.new h o0).n:=Nat.le_refl _
 have lm:(H.new h o0).m=h.m:=rfl
 refine rf0 d1 ?_
 refine Wp.le (s':=⟨tm [(0,.ptr tid 0),(1,.int .i64 i),(6,.ptr h.n 0)],H.new h o0⟩) (aK.of (bL ?_) ?_ (fun y hy=>hy) (Nat.le_refl _) (Nat.le_refl _)) ?_
 ·exact xSb
 ·rw[ho0];exact OLe.refl _
 generalize H.new h o0=h1 at*
 unfold trO at ht1
 refine rf0 ht1 ?_
 refine an.aY ae xA4 (x7 g1 ok hi hs hp) fun q h2 ⟨hq,g2,o2⟩ n2 m2=>?_
 subst hq
 have c2:aI Tryz.prog 47 [.int .i64 0] h2 (.tup []) h2:=dN
 refine an.evF xAc ?_
 refine an.nil ?_
 have b0:=Fg (pgB s.p s.d i 8)
 rw[hr] at b0
 have b:bc Tryz.prog 72 [.sl 1 (ar (pgB s.p s.d i 8)) .any] (.tup [aC (fF (pgB s.p s.d i 8)),.int .i64 0]):=b0
 clear b0
 generalize fF (pgB s.p s.d i 8)=nd at*
 have g3:=g2.new (az nd)
 have k3:Kept h2 (H.new h2 (az nd)):=fun j hj=>aH hj
 have no3:=bC (h:=h2) (o:=az nd)
 have hn3:=bV (h:=h2) (o:=az nd)
 have hn4:(H.new h2 (az nd)).objs h.n=some o0:=(aH ab).trans ((by rw[o2]:h2.objs h.n=h1.objs h.n).trans hn1)
 have ln3:(H.new h2 (az nd)).n=h2.n+1:=rfl
 have c3:aI Tryz.prog 47 [.int .i64 0] (H.new h2 (az nd)) (.tup []) (H.new h2 (az nd)):=dN
 unfold aC at b
 have c4:=c3
 unfold H.new az at c4
 refine rg2 @and_self c2 b ?_
 rw[bg]
 refine an.cx xA2 xAb (by exact ⟨Nat.le_refl _,Nat.le_refl _⟩) (c4) ?_
 refine an.nil ?_
 refine Wp.le (s':=⟨tm [(6,.ptr h.n 0),(9,.ptr h2.n 0)],H.new h2 (az nd)⟩) (aK.tm ?_) ?_
 ·exact xSb
 clear c3 c4
 have lm3:(H.new h2 (az nd)).m=h2.m:=rfl
 have lt3:(H.new h2 (az nd)).toks=h2.toks:=rfl
 generalize H.new h2 (az nd)=h3 at*
 have hne:¬(h.n=h2.n):=by omega
 unfold az at hn3
 rw[ho0] at hn4
 refine rf0 (cj3 hn3 hn4 hne) ?_
 have q:∀j,j<h.n→(upd h3.objs h.n (some (az nd)):Nat→Option Av.Obj) j=h.objs j:=fun j hj=>by
  simp only[upd]
  rw[if_neg ab,k3 j ab,o2,k1 j hj]
 refine Wp.ret ⟨trivial,aC nd,?_,rfl,?_,q,?_⟩
 ·have e:(upd h3.objs h.n (some (az nd)):Nat→Option Av.Obj) h.n=some (az nd):=by simp[upd]
  unfold az at e
  have e2:cJ [RV.cell 6 (some 4)] (tm [(6,.ptr h.n 0)]) ⟨upd h3.objs h.n (some (az nd)),h3.n,h3.toks,h3.m⟩=some (aC nd):=by
   unfold az
   simp only[cJ,rvs,rv,tm,upd,reduceIte,e]
   simp[upd,Av.part,shaped,aP,aC]
  exact e2
 ·refine g.keep q (show h.n≤h3.n by omega) (fun j hj=>?_) (show h3.toks=h.toks by rw[lt3,g2.toks,g.toks]) (show h.m≤h3.m by omega)
  have hj:h3.n≤j:=hj
  show (upd h3.objs h.n (some (az nd)):Nat→Option Av.Obj) j=none
  simp only[upd]
  rw[if_neg ab]
  exact g3.fresh j hj
 ·intro j hj
  have hj:((upd h3.objs h.n (some (az nd)):Nat→Option Av.Obj) j).isSome=true:=hj
  by_cases e:j=h.n
  ·exact .inr ⟨ab,by rw[e];show h.n<h3.n;omega⟩
  ·simp only[upd] at hj
   rw[if_neg e] at hj
   rcases no3 j hj with a|a
   ·rw[o2] at a
    rcases no1 j a with b|b
    ·exact .inl b
    ·exact .inr ⟨b.1,by show j<h3.n;omega⟩
   ·exact .inr ⟨ab,a.2⟩
end
section
variable {x:PgI} {s:PgS} {T:List Nat} {h:H}
theorem wU {h:H}:aM Tryz.prog 87 [] h fun q h'=>q= .agg [.str [],.int .i64 (-1)]∧h'=H.new h (.cells [.str [],.int .i64 (-1)]):=by
 refine f87.cq af ?_
 unfold c87 zz
 refine rf0 @and_self ?_
 rw[bg]
 refine Wp.ret ⟨trivial,.agg [.str [],.int .i64 (-1)],?_,rfl,rfl⟩
 have e2:cJ [RV.cell 0 (some 2)] (tm [(0,.ptr h.n 0)]) ⟨upd h.objs h.n (some (.cells [.str [],.int .i64 (-1)])),h.n+1,h.toks,h.m⟩=some (.agg [.str [],.int .i64 (-1)]):=by
  simp[cJ,rvs,rv,tm,upd,Av.part,shaped,aP]
 exact e2
theorem PgH.other (g:PgH x s T h) {j0:Nat} {o:Av.Obj} (h0:j0<h.n) (a:x.P≠j0∧x.A≠j0∧x.U≠j0∧x.D≠j0∧x.K≠j0∧x.I≠j0):PgH x s T {h with objs:=upd h.objs j0 (some o)}:=by
 have q:∀j,j≠j0→upd h.objs j0 (some o) j=h.objs j:=fun j hj=>by simp only[upd];rw[if_neg hj]
 exact {
  oP:=(q _ a.1).trans g.oP
  oA:=(q _ a.2.1).trans g.oA
  oU:=(q _ a.2.2.1).trans g.oU
  oD:=(q _ a.2.2.2.1).trans g.oD
  oK:=(q _ a.2.2.2.2.1).trans g.oK
  oI:=(q _ a.2.2.2.2.2).trans g.oI
  lt:=g.lt
  ne:=g.ne
  fresh:=fun j hj=>(q j (by simp only at hj;omega)).trans (g.fresh j hj)
  toks:=g.toks
  tm:=g.tm
  tkm:=g.tkm
  tk0:=g.tk0}
theorem wV {tid i:Nat} {r:Int} {n:Page.Node} {Q:PgS→Nat→Prop} (g:PgH x s T h) (ht:h.objs tid=some (trO x r)) (hn:Nb n) (hz:Page.size n≤1024)
  (ov:∀h1,PgH x s T h1→h1.objs tid=some (trO x r)→aM Tryz.prog 78 [.ptr tid 0,.int .i64 (i:Int),aC n] h1 fun q h2=>∃s' k,q= .int .i64 (k:Nat)∧PgH x s' T h2∧Q s' k∧ct x h1 h2∧aq h1 h2):
  aM Tryz.prog 86 [.ptr tid 0,.int .i64 (i:Int),aC n] h fun q h2=>∃s' k,q= .tup [.int .i64 (k:Nat),.agg [.str [],.int .i64 (-1)]]∧PgH x s' T h2∧Q s' k∧ct x h h2∧aq h h2:=by
 refine f86.cq af ?_
 unfold c86 zz
 have hlt:tid<h.n:=by
  rcases Nat.lt_or_ge tid h.n with q|q
  ·exact q
  ·rw[g.fresh _ q] at ht;cases ht
 have b:=lW n hn
 have d1:decide ((Page.size n:Int)≤1024)=true:=decide_eq_true ab
 unfold aC at b
 unfold aC
 have g1:=(g.new (az n)).new (.cells [.str [],.int .i64 0])
 have ht1:(H.new (H.new h (az n)) (.cells [.str [],.int .i64 0])).objs tid=some (trO x r):=(aH (Nat.lt_succ_of_lt hlt)).trans ((aH hlt).trans ht)
 have hn1:(H.new (H.new h (az n)) (.cells [.str [],.int .i64 0])).objs (h.n+1)=some (.cells [.str [],.int .i64 0]):=bV (h:=H.new h (az n))
 have sm1:ct x h (H.new (H.new h (az n)) (.cells [.str [],.int .i64 0])):=bK.trans bK (Nat.le_succ _)
 have no1:aq h (H.new (H.new h (az n)) (.cells [.str [],.int .i64 0])):=aq.trans bC bC (Nat.le_succ _) (Nat.le_succ _)
 have ln1:(H.new (H.new h (az n)) (.cells [.str [],.int .i64 0])).n=h.n+1+1:=rfl
 refine rf1 d1 b ?_
 change an _ _ _ _ (H.new (H.new h (az n)) (.cells [.str [],.int .i64 0])) _
 generalize H.new (H.new h (az n)) (.cells [.str [],.int .i64 0])=h1 at*
 refine an.aY (vals:=[.ptr tid 0,.int .i64 (i:Int),aC n]) ae xA4 (ov h1 g1 ht1) fun q h2 ⟨s',k,hq,g2,hQ,sm2,no2⟩ n2 _=>?_
 subst hq
 refine an.aY (vals:=[]) ae xA4 wU fun q h3 ⟨hq,hh3⟩ n3 _=>?_
 subst hq
 have lt:=g.lt
 have g3:PgH x s' T h3:=by rw[hh3];exact g2.new _
 have sm3:ct x h2 h3:=by rw[hh3];exact bK
 have no3:aq h2 h3:=by rw[hh3];exact bC
 have hn3:h3.objs (h.n+1)=some (.cells [.str [],.int .i64 0]):=by
  rw[hh3]
  exact (aH ab).trans ((sm2 _ ab ab ab ab ab ab ab).trans hn1)
 clear hh3
 refine an.evF (xAd hn3) ?_
 refine an.nil ?_
 refine Wp.ret ⟨trivial,.tup [.int .i64 k,.agg [.str [],.int .i64 (-1)]],?_,s',k,rfl,g3.other (j0:=h.n+1) ab ab,hQ,?_,?_⟩
 ·have e2:cJ [RV.tmp 6,RV.cell 7 (some 2)] (tm [(6,.int .i64 k),(7,.ptr (h.n+1) 0)]) ⟨upd h3.objs (h.n+1) (some (.cells [.str [],.int .i64 (-1)])),h3.n,h3.toks,h3.m⟩=some (.tup [.int .i64 k,.agg [.str [],.int .i64 (-1)]]):=by
   simp[cJ,rvs,rv,tm,upd,Av.part,shaped,aP]
  exact e2
 ·intro j hj a1 a2 a3 a4 a5 a6
  have e:(upd h3.objs (h.n+1) (some (.cells [.str [],.int .i64 (-1)])):Nat→Option Av.Obj) j=h3.objs j:=by simp only[upd];rw[if_neg ab]
  exact e.trans (((sm1.trans sm2 ab).trans sm3 ab) j hj a1 a2 a3 a4 a5 a6)
 ·exact aq.trans (aq.trans (aq.trans no1 no2 ab n2) no3 ab n3) (aq.set hn3) ab (Nat.le_refl _)
end
section
variable {x:PgI} {s:PgS} {T:List Nat} {h:H}
theorem th {tid i:Nat} {r:Int} {n:Page.Node} {Q:PgS→Nat→Prop} {Q2:PgS→Nat→PgS→Nat→Prop} (g:PgH x s T h) (ht:h.objs tid=some (trO x r)) (htx:tid≠x.P∧tid≠x.A∧tid≠x.U∧tid≠x.D∧tid≠x.K∧tid≠x.I) (hn:Nb n) (hs:Ns n) (hz:¬Page.size n≤1024) (hb:Page.size n≤1000000000)
  (ov:∀h1,PgH x s T h1→h1.objs tid=some (trO x r)→aM Tryz.prog 78 [.ptr tid 0,.int .i64 (i:Int),aC (split n).l] h1 fun q h2=>∃s' k,q= .int .i64 (k:Nat)∧PgH x s' T h2∧Q s' k∧ct x h1 h2∧aq h1 h2)
  (fr:∀s1 k h1,Q s1 k→PgH x s1 T h1→h1.objs tid=some (trO x r)→aM Tryz.prog 55 [.ptr tid 0,aC (split n).r] h1 fun q h2=>∃s2 k2,q= .int .i64 (k2:Nat)∧PgH x s2 T h2∧Q2 s1 k s2 k2∧ct x h1 h2∧aq h1 h2):
  aM Tryz.prog 86 [.ptr tid 0,.int .i64 (i:Int),aC n] h fun q h2=>∃s1 k s2 k2,q= .tup [.int .i64 (k:Nat),.agg [.str (split n).k,.int .i64 (k2:Nat)]]∧Q s1 k∧PgH x s2 T h2∧Q2 s1 k s2 k2∧ct x h h2∧aq h h2:=by
 refine f86.cq af ?_
 unfold c86 zz
 have hlt:tid<h.n:=by
  rcases Nat.lt_or_ge tid h.n with q|q
  ·exact q
  ·rw[g.fresh _ q] at ht;cases ht
 have b:=lW n hn
 have c:=xP n hn hs
 have d1:decide ((Page.size n:Int)≤1024)=false:=decide_eq_false ab
 generalize split n=sp at*
 unfold ky at c
 unfold aC at b c
 unfold aC
 have g1:=(((g.new (az n)).new (.cells [.str [],.int .i64 0])).new (az sp.l)).new (az sp.r)
 have ht1:(H.new (H.new (H.new (H.new h (az n)) (.cells [.str [],.int .i64 0])) (az sp.l)) (az sp.r)).objs tid=some (trO x r):=(aH (Nat.lt_succ_of_lt (Nat.lt_succ_of_lt (Nat.lt_succ_of_lt hlt)))).trans ((aH (Nat.lt_succ_of_lt (Nat.lt_succ_of_lt hlt))).trans ((aH (Nat.lt_succ_of_lt hlt)).trans ((aH hlt).trans ht)))
 have hn1:(H.new (H.new (H.new (H.new h (az n)) (.cells [.str [],.int .i64 0])) (az sp.l)) (az sp.r)).objs (h.n+1)=some (.cells [.str [],.int .i64 0]):=(aH (Nat.lt_succ_of_lt (Nat.lt_succ_self _))).trans ((aH (Nat.lt_succ_self _)).trans (bV (h:=H.new h (az n))))
 have hr1:(H.new (H.new (H.new (H.new h (az n)) (.cells [.str [],.int .i64 0])) (az sp.l)) (az sp.r)).objs (h.n+1+1+1)=some (az sp.r):=bV (h:=H.new (H.new (H.new h (az n)) (.cells [.str [],.int .i64 0])) (az sp.l))
 have sm1:ct x h (H.new (H.new (H.new (H.new h (az n)) (.cells [.str [],.int .i64 0])) (az sp.l)) (az sp.r)):=((bK.trans bK (Nat.le_succ _)).trans bK (Nat.le_add_right _ 2)).trans bK (Nat.le_add_right _ 3)
 have no1:aq h (H.new (H.new (H.new (H.new h (az n)) (.cells [.str [],.int .i64 0])) (az sp.l)) (az sp.r)):=aq.trans (aq.trans (aq.trans bC bC (Nat.le_succ _) (Nat.le_succ _)) bC (Nat.le_add_right _ 2) (Nat.le_succ _)) bC (Nat.le_add_right _ 3) (Nat.le_succ _)
 have ln1:(H.new (H.new (H.new (H.new h (az n)) (.cells [.str [],.int .i64 0])) (az sp.l)) (az sp.r)).n=h.n+1+1+1+1:=rfl
 refine rf2 d1 b c ?_
 rw[jg (i:=h.n+1+1+1) (k:=h.n+1+1) _ _ _ ab,bg,bg]
 change an _ _ _ _ (H.new (H.new (H.new (H.new h (az n)) (.cells [.str [],.int .i64 0])) (az sp.l)) (az sp.r)) _
 generalize H.new (H.new (H.new (H.new h (az n)) (.cells [.str [],.int .i64 0])) (az sp.l)) (az sp.r)=h1 at*
 refine an.aY (vals:=[.ptr tid 0,.int .i64 (i:Int),aC sp.l]) ae xA4 (ov h1 g1 ht1) fun q h2 ⟨s1,k,hq,g2,hQ,sm2,no2⟩ n2 _=>?_
 subst hq
 have lt:=g.lt
 have ht2:h2.objs tid=some (trO x r):=(sm2 tid ab htx.1 htx.2.1 htx.2.2.1 htx.2.2.2.1 htx.2.2.2.2.1 htx.2.2.2.2.2).trans ht1
 have hn2:h2.objs (h.n+1)=some (.cells [.str [],.int .i64 0]):=(sm2 _ ab ab ab ab ab ab ab).trans hn1
 have hr2:h2.objs (h.n+1+1+1)=some (az sp.r):=(sm2 _ ab ab ab ab ab ab ab).trans hr1
 unfold az at hr2
 refine an.evF xAc ?_
 refine an.nil ?_
 refine rf0 hr2 ?_
 refine an.aY (vals:=[.ptr tid 0,aC sp.r]) ae xA4 (fr s1 k h2 hQ g2 ht2) fun q h3 ⟨s2,k2,hq,g3,hQ2,sm3,no3⟩ n3 _=>?_
 subst hq
 have hn3:h3.objs (h.n+1)=some (.cells [.str [],.int .i64 0]):=(sm3 _ ab ab ab ab ab ab ab).trans hn2
 refine an.evF (xAd hn3) ?_
 refine an.nil ?_
 refine Wp.ret ⟨trivial,.tup [.int .i64 k,.agg [.str sp.k,.int .i64 k2]],?_,s1,k,s2,k2,rfl,hQ,g3.other (j0:=h.n+1) ab ab,hQ2,?_,?_⟩
 ·have e2:cJ [RV.tmp 6,RV.cell 7 (some 2)] (tm [(6,.int .i64 k),(7,.ptr (h.n+1) 0)]) ⟨upd h3.objs (h.n+1) (some (.cells [.str sp.k,.int .i64 k2])),h3.n,h3.toks,h3.m⟩=some (.tup [.int .i64 k,.agg [.str sp.k,.int .i64 k2]]):=by
   simp[cJ,rvs,rv,tm,upd,Av.part,shaped,aP]
  exact e2
 ·intro j hj a1 a2 a3 a4 a5 a6
  have e:(upd h3.objs (h.n+1) (some (.cells [.str sp.k,.int .i64 k2])):Nat→Option Av.Obj) j=h3.objs j:=by simp only[upd];rw[if_neg ab]
  exact e.trans (((sm1.trans sm2 ab).trans sm3 ab) j hj a1 a2 a3 a4 a5 a6)
 ·exact aq.trans (aq.trans (aq.trans no1 no2 ab n2) no3 ab n3) (aq.set hn3) ab (Nat.le_refl _)
end
def jo (k:Int):Value:= .iface 37 (.int .i64 k)
theorem GU {h:H} {k:Int} (hk:k≠0):cV Tryz.prog 47 [.int .i64 k] h (jo k) h:=by
 obtain ⟨v,h',hc,rfl,rfl⟩:=aW.FZ (Q:=fun v h'=>v=jo k∧h'=h) (args:=[.int .i64 k]) (h:=h) f47 af (by
  unfold c47 zz
  have d0:decide (k=0)=false:=decide_eq_false hk
  refine Wp.aR (by simp only[go_sem,reduceIte,Nat.reduceEqDiff,Nat.reduceAdd,bx,d0,Bool.not_false];exact rfl) ?_
  refine an.nil ?_
  refine Wp.cond_true (by simp only[go_sem,reduceIte,Nat.reduceEqDiff]) ?_
  refine Wp.pN (aZ.eval (dg xA1) ?_)
  refine aZ.here (R:=fun v h'=>∃v',aQ.panic v= .panic v'∧v'=jo k∧h'=h) (en:=aT) rfl (bF _) (fun ops i o ho hit=>fl ho hit rfl rfl rfl) (fun l hl=>by cases hl) ?_
  exact ⟨_,rfl,rfl,rfl⟩)
 exact hc
def dC (h:H) (n0:Nat) (K:AV) (xs:List AV) (c:Nat):Prop:=(xs=[]∧K= .sl 1 [] (.exact 0))∨∃a,K= .tsl 1 a 0 xs.length none∧h.objs a=some (.cells xs)∧n0≤a∧a<h.n∧a≠c∧0<xs.length
theorem dC.keep {h h':H} {n0 c c':Nat} {K:AV} {xs:List AV} (r:dC h n0 K xs c) (hn:h.n≤h'.n) (ho:∀j,n0≤j→j<h.n→j≠c→h'.objs j=h.objs j) (hc:∀a,a<h.n→a≠c→a≠c'):dC h' n0 K xs c':=by
 rcases r with r|⟨a,r1,r2,r3,r4,r5,r6⟩
 ·exact .inl r
 ·exact .inr ⟨a,r1,(ho a r3 r4 r5).trans r2,r3,ab,hc a r4 r5,r6⟩
theorem dC.un {h:H} {n0 c:Nat} {K:AV} {xs:List AV} (r:dC h n0 K xs c):ay (unT h (fun _=>true) K) (.sl 1 xs .any):=by
 rcases r with ⟨rfl,rfl⟩|⟨a,rfl,r2,-⟩
 ·simp only[unT];exact ay.cap
 ·simp[unT,r2];exact ay.refl _
theorem dC.cell {h:H} {n0 c:Nat} {K:AV} {xs:List AV} (r:dC h n0 K xs c):aP K=true:=by
 rcases r with ⟨rfl,rfl⟩|⟨a,rfl,r2,-⟩ <;>rfl
theorem Ct {h:H} {c:Nat} {xs:List AV} (r2:h.objs c=some (.cells xs)):ay (unT h (fun _=>true) (.tsl 1 c 0 xs.length none)) (.sl 1 xs .any):=by
 simp[unT,r2];exact ay.refl _
def ndO (K:AV) (c k:Nat):Av.Obj:= .cells [.bool false,K,.sl 1 [] (.exact 0),.tsl 1 c 0 k none]
structure RdI (b:List UInt8) (h0:H) (i:Nat) (a:Acc) (h:H):Prop where
 o0:h.objs h0.n=some (.cells dh)
 o1:h.objs (h0.n+1)=some (cg b a.s)
 o2:∃K c,h.objs (h0.n+2)=some (ndO K c a.kids.length)∧h.objs c=some (.cells (ints a.kids))∧dC h (h0.n+3) K (strs a.keys) c∧h0.n+3≤c∧c<h.n
 kp:Kept h0 h
 ln:h0.n+3≤h.n
 lm:h0.m≤h.m
 tk:h.toks=h0.toks
 fr:∀j,h.n≤j→h.objs j=none
theorem Cu (b:List UInt8) (s:Scan) (w:Nat) (hb:b.length≤1099511627776) (hs:s.pos≤b.length) (hw:w≤4) (id:Nat):sL Tryz.prog 100 [.ptr id 0,.int .i64 w] id (cg b s) (.int .i64 (dz b s w).1) (cg b (dz b s w).2):=
 fun n m=>⟨m,Nat.le_refl _,kA b s w hb hs hw id n m⟩
theorem Ef (b:List UInt8) (s:Scan) (w:Nat) (hb:b.length≤1099511627776) (hs:s.pos≤b.length) (hw:w≤4) (id:Nat):sL Tryz.prog 101 [.ptr id 0,.int .i64 w] id (cg b s) (.str (bJ b s w).1) (cg b (bJ b s w).2):=
 fun n m=>⟨m,Nat.le_refl _,sS b s w hb hs hw id n m⟩
theorem Eg {b:List UInt8}:∀(c:Nat) (a:Acc),(eW false b c a).s.ok=true→a.s.ok=true
 |0,a,h=>h
 |c+1,a,h=>by
  unfold eW at h
  split at h
  ·assumption
  ·exact h
set_option maxHeartbeats 2000000 in
theorem FC {h:H} {b:List UInt8} (hf:∀j,h.n≤j→h.objs j=none) (hE:lB b=0) (hlf:(fF b).leaf=false):
  aM Tryz.prog 72 [.sl 1 (ar b) .any] h fun q h'=>∃K c,q= .tup [.agg [.bool false,K,.sl 1 [] (.exact 0),.tsl 1 c 0 (fF b).kids.length none],.int .i64 0]∧h'.objs c=some (.cells (ints (fF b).kids))∧dC h' (h.n+3) K (strs (fF b).keys) c∧h.n+3≤c∧c<h'.n∧Kept h h'∧aq h h'∧h'.toks=h.toks∧(∀j,h'.n≤j→h'.objs j=none):=by
 have hP:fU b=true:=by
  unfold lB at hE
  split at hE
  ·assumption
  ·cases hE
 have hP2:=hP
 unfold fU at hP2
 simp only[Bool.and_eq_true,decide_eq_true_eq] at hP2
 obtain ⟨⟨⟨hb,hok⟩,hchk⟩,hbb⟩:=hP2
 unfold fF at hlf ⊢
 rw[if_pos hP] at hlf ⊢
 have hlo:bS b=false:=hlf
 obtain ⟨htag,hbl⟩:=(qb hb hok hchk).1 hbb
 have h73:decide (b.getD 0 0=73)=true:=by
  unfold qa at htag
  unfold bS at hlo
  rw[hlo] at htag
  simpa using htag
 have en:dz b ⟨1,true⟩ 2=(val ((b.drop 1).take 2),⟨3,true⟩):=by rw[dz,if_pos ak]
 have hcn:=pY b
 have hI0:=Inv.start false b ab
 have hacc:bB b=eW false b (val ((b.drop 1).take 2)) (dK false b):=by unfold bB;rw[hlo]
 have hS1:=Cu b ⟨1,true⟩ 2 ab ak ab (h.n+1)
 have hS2:=Cu b ⟨3,true⟩ 4 ab ak ab (h.n+1)
 rw[en] at hS1
 simp only at hS1
 have hvals:(bB b).vals=[]∧(cC b).kids=(bB b).kids∧(cC b).keys=(bB b).keys:=by
  have hr:=cO (n:=cC b) hlf
  exact ⟨(hr.1 (gT hchk).1).2.1,rfl,rfl⟩
 generalize hC:val ((b.drop 1).take 2)=C at*
 refine f72.cq af ?_
 unfold c72 zz
 have d0:decide ((b.length:Int)=1024)=true:=decide_eq_true ab
 have x0:(0:Int)<(b.length:Int):=by omega
 have y0:(0:Int)≤(0:Int):=by omega
 have z0:(0:Int).toNat=0:=rfl
 have b0:=jK b 0 .any ab
 have hj2:=m4 b
 have hj1:=kR b
 rw[h73] at hj2
 rw[hlo] at hj1
 refine rf0 (cj8 d0 x0 y0 z0 b0 @byte.eq_1 hj1 hj2) ?_
 rw[bg]
 refine an.uw xA2 xAb ((by simp[upd,cg])) (hS1) fun m1 hm1=>?_
 refine an.evF xAc ?_
 refine an.nil ?_
 have e3:upd (upd (upd (upd h.objs h.n (some (Av.Obj.cells dh))) (h.n+1) (some (cg b ⟨1,true⟩))) (h.n+1+1) (some (.cells dh))) (h.n+1) (some (cg b ⟨3,true⟩))=upd (upd (upd h.objs h.n (some (Av.Obj.cells dh))) (h.n+1) (some (cg b ⟨3,true⟩))) (h.n+2) (some (.cells dh)):=by
  funext j;simp only[upd]
  by_cases q1:j=h.n+1
  ·subst q1;simp
  ·simp[q1]
 refine Wp.le (s':=⟨tm [(0,.sl 1 (ar b) .any),(2,.ptr h.n 0),(4,.ptr (h.n+1) 0),(5,.ptr (h.n+2) 0),(6,.int .i64 C)],⟨upd (upd (upd h.objs h.n (some (Av.Obj.cells dh))) (h.n+1) (some (cg b ⟨3,true⟩))) (h.n+2) (some (.cells dh)),h.n+3,h.toks,m1⟩⟩) (aK.of (bL ?_) ?_ (fun y hy=>hy) (Nat.le_refl _) (Nat.le_refl _)) ?_
 ·exact xSb
 ·exact e3▸OLe.refl _
 have j0:(upd (upd (upd h.objs h.n (some (Av.Obj.cells dh))) (h.n+1) (some (cg b ⟨3,true⟩))) (h.n+2) (some (.cells dh)):Nat→Option Av.Obj) h.n=some (.cells dh):=by simp[upd]
 have j1:(upd (upd (upd h.objs h.n (some (Av.Obj.cells dh))) (h.n+1) (some (cg b ⟨3,true⟩))) (h.n+2) (some (.cells dh)):Nat→Option Av.Obj) (h.n+1)=some (cg b ⟨3,true⟩):=by simp[upd]
 have j2:(upd (upd (upd h.objs h.n (some (Av.Obj.cells dh))) (h.n+1) (some (cg b ⟨3,true⟩))) (h.n+2) (some (.cells dh)):Nat→Option Av.Obj) (h.n+2)=some (.cells dh):=by simp[upd]
 have jk:∀j,j<h.n→(upd (upd (upd h.objs h.n (some (Av.Obj.cells dh))) (h.n+1) (some (cg b ⟨3,true⟩))) (h.n+2) (some (.cells dh)):Nat→Option Av.Obj) j=h.objs j:=fun j hj=>by simp only[upd];rw[if_neg ab,if_neg ab,if_neg ab]
 have jf:∀j,h.n+3≤j→(upd (upd (upd h.objs h.n (some (Av.Obj.cells dh))) (h.n+1) (some (cg b ⟨3,true⟩))) (h.n+2) (some (.cells dh)):Nat→Option Av.Obj) j=none:=fun j hj=>by simp only[upd];rw[if_neg ab,if_neg ab,if_neg ab];exact hf j ab
 generalize (upd (upd (upd h.objs h.n (some (Av.Obj.cells dh))) (h.n+1) (some (cg b ⟨3,true⟩))) (h.n+2) (some (.cells dh)):Nat→Option Av.Obj)=F at*
 unfold dh at j2
 refine rf0 j2 ?_
 refine Wp.reg ?_
 refine ao.part 3 (xAe j2) ?_
 simp only[List.drop_succ_cons,List.drop_zero,List.drop_nil]
 refine ao.uw xA2 xAb ((j1)) (hS2) fun m2 hm2=>?_
 refine ao.part 1 xA1 ?_
 simp only[List.drop_succ_cons,List.drop_zero,List.drop_nil]
 refine ao.opT xA2 (by simp only[gC,go_sem,reduceIte,Nat.reduceEqDiff,Nat.reduceAdd,bx];exact rfl) rfl ?_
 refine ao.part 2 (xAe j2) ?_
 simp only[List.drop_succ_cons,List.drop_zero,List.drop_nil]
 refine ao.nil ⟨by simp[bw,aV,apart,aT],?_⟩
 have R0:RdI b h 0 (dK false b) ⟨upd (upd (upd F (h.n+1) (some (cg b (dz b ⟨3,true⟩ 4).2))) (h.n+3) (some (.cells (List.flatMap cellsOf [AV.int .i64 (dz b ⟨3,true⟩ 4).1])))) (h.n+2) (some (.cells [AV.bool false,AV.sl 1 [] (.exact 0),AV.sl 1 [] (.exact 0),AV.tsl 1 (h.n+3) 0 1 none])),h.n+3+1,h.toks,m2⟩:=by
  refine ⟨by simp[upd,j0],by simp[upd,dK],⟨.sl 1 [] (.exact 0),h.n+3,by simp[upd,ndO,dK],by simp[upd,dK,ints,cellsOf],.inl ⟨by simp[dK,strs],rfl⟩,Nat.le_refl _,Nat.lt_succ_self _⟩,fun j hj=>?_,by simp only;omega,?_,rfl,fun j hj=>?_⟩
  ·simp only[upd];rw[if_neg ab,if_neg ab,if_neg ab];exact jk j hj
  ·exact Nat.le_trans hm1 hm2
  ·simp only at hj
   simp only[upd];rw[if_neg ab,if_neg ab,if_neg ab];exact jf j ab
 generalize (⟨upd (upd (upd F (h.n+1) (some (cg b (dz b ⟨3,true⟩ 4).2))) (h.n+3) (some (.cells (List.flatMap cellsOf [AV.int .i64 (dz b ⟨3,true⟩ 4).1])))) (h.n+2) (some (.cells [AV.bool false,AV.sl 1 [] (.exact 0),AV.sl 1 [] (.exact 0),AV.tsl 1 (h.n+3) 0 1 none])),h.n+3+1,h.toks,m2⟩:H)=g0 at*
 clear hm1 hm2 hS1 hS2 j0 j1 j2 jk jf e3 F
 refine Wp.seq (Wp.block ?_)
 refine Wp.eV [0,2,4,5] xA7 (fun q:Nat × Acc × H=>[(6,.int .i64 ((C - q.1:Nat):Int))]) (fun q=>q.2.2) (fun q=>q.1≤C∧RdI b h q.1 q.2.1 q.2.2∧Page.Inv false b q.1 q.2.1∧eW false b (C - q.1) q.2.1=bB b) (fun q=>C - q.1) (0,dK false b,g0) ⟨Nat.zero_le _,R0,hI0,hacc.symm⟩ rfl ?_ ?_
 ·exact xSb
 clear R0
 rintro ⟨i,a,g⟩ ⟨hi,R,I,L⟩
 simp only at hi R I L
 have hao:a.s.ok=true:=Eg _ _ (by rw[L];exact hok)
 have o1:=R.o1
 unfold cg at o1
 rw[hao] at o1
 obtain ⟨K,c,o2,oc,rK,hc1,hc2⟩:=R.o2
 have ln:=R.ln
 by_cases hlt:i<C
 ·have d1:decide ((0:Int)<((C - i:Nat):Int))=true:=decide_eq_true ab
  have e1:IntKind.i64.wrap (((C - i:Nat):Int) - 1)=((C - (i+1):Nat):Int):=by rw[IntWalk.i64_in _ ab];omega
  have hst:eW false b (C - (i+1)) (eA false b a)=bB b:=by
   rw[←L,show C - i=(C - (i+1))+1 by omega,eW,if_pos hao]
  have hI':=I.step
  have lk:=I.k
  have ld:=I.d
  have hP1:=Ef b a.s 1 ab I.pos ab (h.n+1)
  have hN1:=Cu b (bJ b a.s 1).2 4 ab (kQ I.pos) ab (h.n+1)
  refine rf0 (cj2 d1 o1) ?_
  have hks:∀k,(strs (a.keys++[k])).length=(strs a.keys).length+1:=fun k=>by simp[strs]
  have hfm:∀k,strs a.keys++List.flatMap cellsOf [AV.str k]=strs (a.keys++[k]):=fun k=>by simp[strs,cellsOf]
  have lks:(strs a.keys).length=a.keys.length:=by simp[strs]
  refine Wp.ex (β:=H) (fun g2=>⟨tm [(0,.sl 1 (ar b) .any),(2,.ptr h.n 0),(4,.ptr (h.n+1) 0),(5,.ptr (h.n+2) 0),(6,.int .i64 ((C - i:Nat):Int))],g2⟩) (fun g2=>RdI b h i ⟨a.keys++[(bJ b a.s 1).1],a.vals,a.kids,(bJ b a.s 1).2⟩ g2) (Wp.reg ?_) fun g2 s' R2 le=>?_
  ·unfold ndO at o2
   refine ao.part 3 (xAe o2) ?_
   simp only[List.drop_succ_cons,List.drop_zero,List.drop_nil]
   refine ao.uw xA2 xAb ((R.o1)) (hP1) fun m2 hm2=>?_
   refine ao.part 1 xA1 ?_
   simp only[List.drop_succ_cons,List.drop_zero,List.drop_nil]
   have r1:¬(h.n+1=g.n):=by omega
   have r2:¬(h.n+2=g.n):=by omega
   have r3:¬(h.n=g.n):=by omega
   rcases rK with ⟨k1,rfl⟩|⟨ka,rfl,k2,k3,k4,k5,k6⟩
   ·have k1':a.keys=[]:=List.map_eq_nil_iff.1 k1
    refine ao.opT xA2 (by simp only[gC,go_sem,reduceIte,Nat.reduceEqDiff,Nat.reduceAdd,bx];exact rfl) rfl ?_
    refine ao.part 2 (xAe (cj2 o2 r2)) ?_
    simp only[List.drop_succ_cons,List.drop_zero,List.drop_nil]
    refine ao.nil ⟨by simp[bw,aV,apart,aT],?_⟩
    refine ⟨_,?_,aK.tm ?_⟩
    ·refine ⟨by simp[upd,r3,R.o0],by simp[upd,r1],⟨.tsl 1 g.n 0 1 none,c,by simp[upd,ndO],?_,.inr ⟨g.n,by simp[k1',strs],?_,ln,Nat.lt_succ_self _,ab,by simp[strs]⟩,hc1,Nat.lt_succ_of_lt hc2⟩,fun j hj=>?_,by simp only;omega,Nat.le_trans R.lm hm2,R.tk,fun j hj=>?_⟩
     ·simp only[upd];rw[if_neg ab,if_neg ab,if_neg ab];exact oc
     ·simp only[upd];rw[if_neg ab];simp[k1',strs,cellsOf]
     ·simp only[upd];rw[if_neg ab,if_neg ab,if_neg ab];exact R.kp j hj
     ·simp only at hj
      simp only[upd];rw[if_neg ab,if_neg ab,if_neg ab];exact R.fr j ab
    ·exact xSb
   ·have q1:(strs a.keys).length=(strs a.keys).length*1:=(Nat.mul_one _).symm
    have q2:(a.keys.length+1)*16≤140737488355328:=by omega
    have q3:a.keys.length+1<4611686018427387904:=by omega
    have r4:¬(ka=h.n+1):=by omega
    have r5:¬(h.n+2=ka):=by omega
    have q4:strs a.keys++[AV.str (bJ b a.s 1).1]=strs (a.keys++[(bJ b a.s 1).1]):=by simp[strs]
    have q5:List.flatMap cellsOf [AV.str (bJ b a.s 1).1]=[AV.str (bJ b a.s 1).1]:=rfl
    refine ao.opK xA2 (by simp only[mL,go_sem,reduceIte,Nat.reduceEqDiff,Nat.reduceAdd,bx,r4,k2,q2,q3,List.all_cons,List.all_nil,Nat.mul_one,and_self,decide_true,Bool.and_self,lks,if_true];exact rfl) rfl ?_
    refine ao.part 2 (xAe (cj3 o2 r2 r5)) ?_
    simp only[List.drop_succ_cons,List.drop_zero,List.drop_nil]
    refine ao.nil ⟨by simp[bw,aV,apart,aT],?_⟩
    refine ⟨_,?_,aK.tm ?_⟩
    ·refine ⟨?_,by simp[upd,r1,Ne.symm r4],⟨.tsl 1 g.n 0 (a.keys.length+1) none,c,by simp[upd,ndO],?_,.inr ⟨g.n,by simp[strs],?_,ln,Nat.lt_succ_self _,ab,by simp[strs]⟩,hc1,Nat.lt_succ_of_lt hc2⟩,fun j hj=>?_,by simp only;omega,Nat.le_trans R.lm hm2,R.tk,fun j hj=>?_⟩
     ·simp only[upd];rw[if_neg ab,if_neg ab,if_neg ab,if_neg ab];exact R.o0
     ·simp only[upd];rw[if_neg ab,if_neg ab,if_neg ab,if_neg ab];exact oc
     ·simp only[upd];rw[if_neg ab,if_pos trivial,q5,q4]
     ·simp only[upd];rw[if_neg ab,if_neg ab,if_neg ab,if_neg ab];exact R.kp j hj
     ·simp only at hj
      simp only[upd];rw[if_neg ab,if_neg ab,if_neg ab,if_neg ab];exact R.fr j ab
    ·exact xSb
  ·refine Wp.le le ?_
   clear le R o1 o2 oc rK
   have o1:=R2.o1
   obtain ⟨K2,c2,o2,oc,rK,hc1,hc2⟩:=R2.o2
   have ln:=R2.ln
   unfold ndO at o2
   simp only at oc rK o2
   have lki:(ints a.kids).length=a.kids.length:=by simp[ints]
   have q2:(a.kids.length+1)*8≤140737488355328:=by omega
   have q3:a.kids.length+1<4611686018427387904:=by omega
   have r1:¬(h.n+1=g2.n):=by omega
   have r2:¬(h.n+2=g2.n):=by omega
   have r4:¬(c2=h.n+1):=by omega
   have r5:¬(h.n+2=c2):=by omega
   refine rf0 o2 ?_
   refine Wp.reg ?_
   refine ao.part 3 (xAe o2) ?_
   simp only[List.drop_succ_cons,List.drop_zero,List.drop_nil]
   refine ao.uw xA2 xAb ((o1)) (hN1) fun m2 hm2=>?_
   refine ao.part 1 xA1 ?_
   simp only[List.drop_succ_cons,List.drop_zero,List.drop_nil]
   refine ao.opK xA2 (by simp only[mL,go_sem,reduceIte,Nat.reduceEqDiff,Nat.reduceAdd,bx,r4,oc,q2,q3,List.all_cons,List.all_nil,Nat.mul_one,and_self,decide_true,Bool.and_self,lki,if_true];exact rfl) rfl ?_
   refine ao.part 2 (xAe (cj3 o2 r2 r5)) ?_
   simp only[List.drop_succ_cons,List.drop_zero,List.drop_nil]
   refine ao.nil ⟨by simp[bw,aV,apart,aT],?_⟩
   refine rf0 e1 ?_
   refine ⟨(i+1,eA false b a,_),⟨by simp only;omega,?_,hI',hst⟩,by simp only;omega,aK.tm ?_⟩
   ·refine ⟨?_,by simp[upd,r1,Ne.symm r4,eA],⟨K2,g2.n,by simp[upd,ndO,eA],?_,?_,ln,Nat.lt_succ_self _⟩,fun j hj=>?_,by simp only;omega,Nat.le_trans R2.lm hm2,R2.tk,fun j hj=>?_⟩
    ·simp only[upd];rw[if_neg ab,if_neg ab,if_neg ab,if_neg ab];exact R2.o0
    ·simp only[upd];rw[if_neg ab];simp[eA,ints,cellsOf]
    ·rcases rK with ⟨k1,k2⟩|⟨ka,k1,k2,k3,k4,k5,k6⟩
     ·exact .inl ⟨by simpa [eA] using k1,k2⟩
     ·refine .inr ⟨ka,by simpa [eA] using k1,?_,k3,Nat.lt_succ_of_lt k4,ab,by simpa [eA] using k6⟩
      simp only[upd];rw[if_neg ab,if_neg ab,if_neg ab,if_neg ab];simpa [eA] using k2
    ·simp only[upd];rw[if_neg ab,if_neg ab,if_neg ab,if_neg ab];exact R2.kp j hj
    ·simp only at hj
     simp only[upd];rw[if_neg ab,if_neg ab,if_neg ab,if_neg ab];exact R2.fr j ab
   ·exact xSb
 ·have hi2:i=C:=by omega
  subst hi2
  have ha:a=bB b:=by rw[←L,Nat.sub_self,eW]
  subst ha
  have d1:decide ((0:Int)<((i - i:Nat):Int))=false:=decide_eq_false ab
  have hn:=xQ hb
  have hcl:∀K2,ay (unT g (fun _=>true) K2) (.sl 1 (strs (cC b).keys) .any)→au (gP g (fun _=>true) [.agg [.bool false,K2,.sl 1 [] (.exact 0),.tsl 1 c 0 (bB b).kids.length none]]) [aC (cC b)]:=by
   intro K2 hK
   have hk2:(bB b).kids.length=(ints (bB b).kids).length:=by simp[ints]
   have hT:ay (unT g (fun _=>true) (.tsl 1 c 0 (bB b).kids.length none)) (.sl 1 (ints (cC b).kids) .any):=by
    rw[hk2];exact Ct oc
   have hv:(cC b).vals=[]:=hvals.1
   unfold aC
   rw[hlf,hv]
   simp only[gP]
   refine au.cons ?_ au.nil
   simp only[unT,gP]
   simp only[unT] at hT
   exact ay.agg (au.cons (ay.refl _) (au.cons hK (au.cons ay.cap (au.cons hT au.nil))))
  have c3:aI Tryz.prog 103 [.agg [.bool false,K,.sl 1 [] (.exact 0),.tsl 1 c 0 (bB b).kids.length none]] g (.int .i64 (check (cC b))) g:=bc.EI (mT _ hn) (hcl K rK.un) (fun _ _ _ _ h=>by simpa [aw] using h)
  rw[hchk] at c3
  have hblank:=qc (b.drop (bB b).s.pos) ak
  have hbl2:(b.drop (bB b).s.pos).any (fun c=>decide (c≠0))=false:=by
   unfold jh at hbl
   simpa using hbl
  rw[hbl2] at hblank
  have x1:(0:Int)≤((bB b).s.pos:Int):=by omega
  have x2:((bB b).s.pos:Int)≤(b.length:Int):=by have:=I.pos;omega
  have d2:decide (((0:Nat):Int)=0)=true:=by decide
  unfold ndO at o2
  refine rg2 (cj9 d1 o1 o2 x1 x2 d2 @gW @gX @List.take_length.{0}) hblank c3 ?_
  have o0:=R.o0
  unfold dh at o0
  have hKc:=rK.cell
  unfold aP at hKc
  refine rf0 (cj3 o0 o2 hKc) ?_
  have q0:∀j,j≠h.n→(upd g.objs h.n (some (.cells [AV.bool false,K,.sl 1 [] (.exact 0),.tsl 1 c 0 (bB b).kids.length none])):Nat→Option Av.Obj) j=g.objs j:=fun j hj=>by simp only[upd];rw[if_neg hj]
  refine Wp.ret ?_
  refine ⟨trivial,.tup [.agg [.bool false,K,.sl 1 [] (.exact 0),.tsl 1 c 0 (cC b).kids.length none],.int .i64 0],?_,K,c,rfl,(q0 _ ab).trans oc,?_,hc1,hc2,fun j hj=>(q0 _ ab).trans (R.kp j hj),fun j hj=>?_,R.tk,fun j hj=>(q0 _ (by simp only at hj;omega)).trans (R.fr j hj)⟩
  ·simp[cJ,rvs,rv,tm,upd,Av.part,shaped,aP,cC]
  ·exact rK.keep (Nat.le_refl _) (fun j h1 h2 _=>q0 _ ab) (fun a _ h=>h)
  ·have hj:((upd g.objs h.n (some (.cells [AV.bool false,K,.sl 1 [] (.exact 0),.tsl 1 c 0 (bB b).kids.length none])):Nat→Option Av.Obj) j).isSome=true:=hj
   by_cases e:j<h.n
   ·left
    rw[q0 _ ab,R.kp j e] at hj
    exact hj
   ·right
    refine ⟨ab,?_⟩
    show j<g.n
    rcases Nat.lt_or_ge j g.n with e2|e2
    ·exact e2
    ·rw[q0 _ ab,R.fr j e2] at hj;cases hj
section
variable {h:H}
theorem qm {h1:H} {id:Nat} (hs:h1.sub h) (hn:h1.n=h.n) (hm:h1.m=h.m) (ht:h1.toks=[]) (h0:(h1.objs id).isSome=true):h.patch h1 (h1.less id)=h.less id:=by
 refine H.ext (fun j=>?_) hn (by simp[H.patch,H.less,ht,eM]) hm
 simp only[H.patch,H.less]
 by_cases e:j=id
 ·subst e;simp[h0]
 ·simp only[e,if_false]
  by_cases q:(h1.objs j).isSome=true
  ·obtain ⟨o,ho⟩:=Option.isSome_iff_exists.1 q
   simp[ho,hs.1 _ _ ho]
  ·have q2:¬((h1.objs j).isSome=true∨h1.n≤j∧j<h1.n):=by
    rintro (x|x)
    ·exact q x
    ·omega
   split
   ·exact absurd ‹_› q2
   ·rfl
theorem rP {id:Nat} {o:Av.Obj} (ho:h.objs id=some o):(H.only (upd aB id (some o)) [] h.n h.m).sub h:=by
 refine ⟨fun j o' hj=>?_,fun t ht=>by simp[H.only] at ht⟩
 simp only[H.only,upd,aB] at hj
 split at hj
 ·rename_i e;subst e;rw[ho];exact hj
 ·cases hj
theorem Aq {id id2:Nat} {o o2:Av.Obj} (ho:h.objs id=some o) (ho2:h.objs id2=some o2):(H.only (upd (upd aB id (some o)) id2 (some o2)) [] h.n h.m).sub h:=by
 refine ⟨fun j o' hj=>?_,fun t ht=>by simp[H.only] at ht⟩
 simp only[H.only,upd,aB] at hj
 split at hj
 ·rename_i e;subst e;rw[ho2];exact hj
 ·split at hj
  ·rename_i e;subst e;rw[ho];exact hj
  ·cases hj
theorem aI.Cv {f:FuncId} {args:List AV} {r:AV} {id:Nat} {o:Av.Obj} (ho:h.objs id=some o) (hc:∀h1:H,h1.objs=upd aB id (some o)→h1.toks=[]→aI Tryz.prog f args h1 r (h1.less id)):aI Tryz.prog f args h r (h.less id):=by
 rw[←qm (rP ho) rfl rfl rfl (id:=id) (by simp[H.only,upd])]
 exact aI.frame (rP ho) rfl rfl (Nat.le_refl _) (Nat.le_refl _) (hc _ rfl rfl)
theorem aI.Cw {f:FuncId} {args:List AV} {r:AV} {id id2 k:Nat} {o o2:Av.Obj} (ho:h.objs id=some o) (ho2:h.objs id2=some o2) (hk:k=id∨k=id2) (hc:∀h1:H,h1.objs id=some o→h1.objs id2=some o2→h1.toks=[]→aI Tryz.prog f args h1 r (h1.less k)):aI Tryz.prog f args h r (h.less k):=by
 have q1:(upd (upd aB id (some o)) id2 (some o2):Nat→Option Av.Obj) id2=some o2:=by simp[upd]
 have q2:(upd (upd aB id (some o)) id2 (some o2):Nat→Option Av.Obj) id=some o:=by
  simp only[upd]
  by_cases e:id=id2
  ·subst e;have e2:o2=o:=Option.some.inj (ho2.symm.trans ho);simp[e2]
  ·rw[if_neg e];simp
 have hs:=Aq ho ho2
 rw[←qm hs rfl rfl rfl (id:=k) (by
  show ((upd (upd aB id (some o)) id2 (some o2):Nat→Option Av.Obj) k).isSome=true
  rcases hk with rfl|rfl
  ·rw[q2];rfl
  ·rw[q1];rfl)]
 exact aI.frame hs rfl rfl (Nat.le_refl _) (Nat.le_refl _) (hc _ q2 q1 rfl)
def Cx (h h':H) (P:Nat→Prop):Prop:=h'.n=h.n∧h'.m=h.m∧h'.toks=h.toks∧∃a,P a∧∀j,h'.objs j=if j=a then none else h.objs j
theorem qn {f:FuncId} {args:List AV} {r:AV} {k:Nat} {P:Nat→Prop} (hc:aI Tryz.prog f args h r (h.less k)) (hp:P k):aM Tryz.prog f args h fun q h'=>q=r∧Cx h h' P:=
 ⟨r,_,hc,Nat.le_refl _,Nat.le_refl _,rfl,rfl,rfl,rfl,k,hp,fun j=>rfl⟩
theorem Ar (l:List (List UInt8)) (i:Nat) (x:List UInt8) (hi:i≤l.length) (hl:l.length<1099511627776) {K:AV} {n0 c id2:Nat} (r:dC h n0 K (strs l) c) (ho2:h.objs id2=some (.cells [.str x])) (h3:∀a,K= .tsl 1 a 0 l.length none→a≠id2):
  aM Tryz.prog 88 [K,.int .i64 i,.tsl 1 id2 0 1 none] h fun q h'=>q= .sl 1 (strs (l.take i++x::l.drop i)) .any∧Cx h h' fun a=>K= .tsl 1 a 0 l.length none∨a=id2:=by
 rcases r with ⟨k1,rfl⟩|⟨a,rfl,k2,k3,k4,k5,k6⟩
 ·have e:l=[]:=List.map_eq_nil_iff.1 k1
  subst e
  have e2:i=0:=by simpa using hi
  subst e2
  exact qn (aI.Cv ho2 fun hx e1 e2=>uD x (by rw[e1];simp[upd]) e2) (.inr rfl)
 ·have e:(strs l).length=l.length:=by simp[strs]
  rw[e] at k6 ⊢
  exact qn (aI.Cw k2 ho2 (.inl rfl) fun hx e1 e2 e3=>uB l i x hi hl k6 (h3 a (by rw[e])) e1 e2 e3) (.inl rfl)
theorem As (l:List Int) (i:Nat) (x:Int) (hi:i≤l.length) (hl:l.length<1099511627776) (hp:0<l.length) {c id2:Nat} (ho:h.objs c=some (.cells (ints l))) (ho2:h.objs id2=some (.cells [.int .i64 x])) (h3:c≠id2):
  aM Tryz.prog 89 [.tsl 1 c 0 l.length none,.int .i64 i,.tsl 1 id2 0 1 none] h fun q h'=>q= .sl 1 (ints (l.take i++x::l.drop i)) .any∧Cx h h' fun a=>a=c:=
 qn (aI.Cw ho ho2 (.inl rfl) fun hx e1 e2 e3=>zY l i x hi hl hp h3 e1 e2 e3) rfl
theorem At (l:List (List UInt8)) (i:Nat) (hi:i<l.length) (hl:l.length<1099511627776) {K:AV} {n0 c:Nat} (r:dC h n0 K (strs l) c):
  aM Tryz.prog 80 [K,.int .i64 i,.int .i64 ((i+1:Nat):Int)] h fun q h'=>q= .sl 1 (strs (l.take i++l.drop (i+1))) .any∧Cx h h' fun a=>K= .tsl 1 a 0 l.length none:=by
 rcases r with ⟨k1,rfl⟩|⟨a,rfl,k2,k3,k4,k5,k6⟩
 ·have e:l=[]:=List.map_eq_nil_iff.1 k1
  subst e
  cases hi
 ·have e:(strs l).length=l.length:=by simp[strs]
  rw[e]
  exact qn (aI.Cv k2 fun hx e1 e2=>uC l i hi hl (by rw[e1];simp[upd]) e2) rfl
theorem Au (l:List Int) (i:Nat) (hi:i<l.length) (hl:l.length<1099511627776) {c:Nat} (ho:h.objs c=some (.cells (ints l))):
  aM Tryz.prog 79 [.tsl 1 c 0 l.length none,.int .i64 i,.int .i64 ((i+1:Nat):Int)] h fun q h'=>q= .sl 1 (ints (l.take i++l.drop (i+1))) .any∧Cx h h' fun a=>a=c:=
 qn (aI.Cv ho fun hx e1 e2=>zZ l i hi hl (by rw[e1];simp[upd]) e2) rfl
end
section
variable {x:PgI} {s:PgS} {T:List Nat} {h:H}
theorem Cy {tid i d:Nat} {r:Int} (g:PgH x s T h) (ok:bP s) (ht:h.objs tid=some (trO x r)) (hi:i<s.np) (hs:s.st.getD i 0≠0) (hp:s.p.length<900000) (hd:d≤20) (hr:lB (pgB s.p s.d i 8)=0) (hlf:(fF (pgB s.p s.d i 8)).leaf=false):
  aM Tryz.prog 41 [.ptr tid 0,.int .i64 (i:Int),.int .i64 (d:Int)] h fun q h'=>∃K c,q= .agg [.bool false,K,.sl 1 [] (.exact 0),.tsl 1 c 0 (fF (pgB s.p s.d i 8)).kids.length none]∧h'.objs c=some (.cells (ints (fF (pgB s.p s.d i 8)).kids))∧dC h' h.n K (strs (fF (pgB s.p s.d i 8)).keys) c∧h.n≤c∧c<h'.n∧PgH x s T h'∧Kept h h'∧aq h h':=by
 refine f41.cq af ?_
 unfold c41 zz
 have hlt:tid<h.n:=by
  rcases Nat.lt_or_ge tid h.n with q|q
  ·exact q
  ·rw[g.fresh _ q] at ht;cases ht
 have d1:decide ((20:Int)<(d:Int))=false:=decide_eq_false ab
 obtain ⟨o0,ho0⟩:∃o0:Av.Obj,o0= .cells [.bool false,.sl 1 [] (.exact 0),.sl 1 [] (.exact 0),.sl 1 [] (.exact 0)]:=⟨_,rfl⟩
 have ht1:=(aH (o:=o0) hlt).trans ht
 have hn1:=bV (h:=h) (o:=o0)
 have g1:=g.new o0
 have k1:Kept h (H.new h o0):=fun j hj=>aH hj
 have no1:=bC (h:=h) (o:=o0)
 have ln:h.n+1≤(H.new h o0).n:=Nat.le_refl _
 have lm:(H.new h o0).m=h.m:=rfl
 refine rf0 d1 ?_
 refine Wp.le (s':=⟨tm [(0,.ptr tid 0),(1,.int .i64 i),(6,.ptr h.n 0)],H.new h o0⟩) (aK.of (bL ?_) ?_ (fun y hy=>hy) (Nat.le_refl _) (Nat.le_refl _)) ?_
 ·exact xSb
 ·rw[ho0];exact OLe.refl _
 generalize H.new h o0=h1 at*
 unfold trO at ht1
 refine rf0 ht1 ?_
 refine an.aY ae xA4 (x7 g1 ok hi hs hp) fun q h2 ⟨hq,g2,o2⟩ n2 m2=>?_
 subst hq
 have c2:aI Tryz.prog 47 [.int .i64 0] h2 (.tup []) h2:=dN
 refine an.evF xAc ?_
 refine an.nil ?_
 refine rg1 @and_self c2 ?_
 refine an.aY ae xA4 (FC (h:=h2) (g2.fresh) hr hlf) fun q h3 ⟨K,c,hq,oc,rK,hc1,hc2,k3,no3,tk3,f3⟩ n3 m3=>?_
 subst hq
 generalize fF (pgB s.p s.d i 8)=nd at*
 have hKc:=rK.cell
 have hKc2:=hKc
 unfold aP at hKc
 have nK:h2.n+3≤h3.n:=by omega
 obtain ⟨o4,ho4⟩:∃o4:Av.Obj,o4= .cells [.bool false,K,.sl 1 [] (.exact 0),.tsl 1 c 0 nd.kids.length none]:=⟨_,rfl⟩
 have g3:PgH x s T h3:=g2.keep k3 n3 f3 tk3 m3
 have g4:=g3.new o4
 have hn4:=bV (h:=h3) (o:=o4)
 have hn0:(H.new h3 o4).objs h.n=some o0:=(aH ab).trans ((k3 _ ab).trans ((by rw[o2]:h2.objs h.n=h1.objs h.n).trans hn1))
 have c3:aI Tryz.prog 47 [.int .i64 0] (H.new h3 o4) (.tup []) (H.new h3 o4):=dN
 have rK4:dC (H.new h3 o4) (h2.n+3) K (strs nd.keys) c:=rK.keep (Nat.le_succ _) (fun j a b _=>aH b) (fun a _ h=>h)
 have oc4:(H.new h3 o4).objs c=some (.cells (ints nd.kids)):=(aH hc2).trans oc
 have ln4:(H.new h3 o4).n=h3.n+1:=rfl
 have lm4:(H.new h3 o4).m=h3.m:=rfl
 have c4:=c3
 rw[ho4] at c4
 unfold H.new at c4
 refine an.evF (xAd hKc) ?_
 rw[bg]
 refine an.nil ?_
 refine rf0 @and_self ?_
 refine an.cx xA2 xAb (by exact ⟨Nat.le_refl _,Nat.le_refl _⟩) (c4) ?_
 refine an.nil ?_
 have k4:∀j,j<h3.n→(H.new h3 o4).objs j=h3.objs j:=fun j hj=>aH hj
 have f4:∀j,h3.n+1≤j→(H.new h3 o4).objs j=none:=g4.fresh
 have t4:(H.new h3 o4).toks=h3.toks:=rfl
 refine Wp.le (s':=⟨tm [(6,.ptr h.n 0),(9,.ptr h3.n 0)],H.new h3 o4⟩) (aK.of (bL ?_) (by rw[ho4];exact OLe.refl _) (fun y hy=>hy) (Nat.le_refl _) (Nat.le_refl _)) ?_
 ·exact xSb
 clear c3 c4 c2
 generalize H.new h3 o4=h4 at*
 have hne:¬(h.n=h3.n):=by omega
 rw[ho0] at hn0
 rw[ho4] at hn4
 refine rf0 (cj4 hn4 hn0 hne hKc) ?_
 have q:∀j,j≠h.n→(upd h4.objs h.n (some o4):Nat→Option Av.Obj) j=h4.objs j:=fun j hj=>by simp only[upd];rw[if_neg hj]
 rw[←ho4]
 refine Wp.ret ?_
 refine ⟨trivial,.agg [.bool false,K,.sl 1 [] (.exact 0),.tsl 1 c 0 nd.kids.length none],?_,K,c,rfl,(q _ ab).trans oc4,?_,ab,by show c<h4.n;omega,?_,fun j hj=>?_,fun j hj=>?_⟩
 ·rw[ho4]
  simp[cJ,rvs,rv,tm,upd,Av.part,shaped,hKc2,aP]
 ·rcases rK4 with r|⟨a,r1,r2,r3,r4,r5,r6⟩
  ·exact .inl r
  ·exact .inr ⟨a,r1,(q _ ab).trans r2,ab,r4,r5,r6⟩
 ·refine g.keep (fun j hj=>?_) (show h.n≤h4.n by omega) (fun j hj=>?_) (show h4.toks=h.toks by rw[t4,tk3,g2.toks,g.toks]) (show h.m≤h4.m by omega)
  ·exact (q _ ab).trans ((k4 j ab).trans ((k3 j ab).trans ((by rw[o2]:h2.objs j=h1.objs j).trans (k1 j hj))))
  ·exact (q _ (by simp only at hj;omega)).trans (g4.fresh j hj)
 ·exact (q _ ab).trans ((k4 j ab).trans ((k3 j ab).trans ((by rw[o2]:h2.objs j=h1.objs j).trans (k1 j hj))))
 ·have hj:((upd h4.objs h.n (some o4):Nat→Option Av.Obj) j).isSome=true:=hj
  by_cases e:j<h.n
  ·left
   rw[q _ ab,k4 j ab,k3 j ab,o2,k1 j e] at hj
   exact hj
  ·right
   refine ⟨ab,?_⟩
   show j<h4.n
   rcases Nat.lt_or_ge j h4.n with e2|e2
   ·exact e2
   ·rw[q _ ab,g4.fresh j e2] at hj;cases hj
end
end Go.Proofs.YtbgmofhgfnmaiaaGreat.Tree
end
section
set_option maxRecDepth 100000
namespace Go.Proofs.YtbgmofhgfnmaiaaGreat.Tree
open Go Go.Av Go.Proofs Go.Proofs.YtbgmofhgfnmaiaaGreat.C Go.Proofs.YtbgmofhgfnmaiaaGreat.Page
open Go.Proofs.YtbgmofhgfnmaiaaGreat.Batch (Bs Pr prs aS)
abbrev Lt (a b:Bs):Prop:=Op.bytesLess a b=true
abbrev Le (a b:Bs):Prop:=Op.bytesLess b a=false
theorem rQ {a b c:Bs} (h:Lt a b) (h2:Lt b c):Lt a c:=dx h h2
theorem lD {a b:Bs} (h:Lt a b):Le a b:=gU h
theorem nv {a b c:Bs} (h:Le a b) (h2:Lt b c):Lt a c:=by
 rcases dy a b with q|q|q
 ·exact rQ q h2
 ·exact q▸h2
 ·rw[h] at q;cases q
theorem uT {a b c:Bs} (h:Lt a b) (h2:Le b c):Lt a c:=by
 rcases dy b c with q|q|q
 ·exact rQ h q
 ·exact q▸h
 ·rw[h2] at q;cases q
theorem ya {a b c:Bs} (h:Le a b) (h2:Le b c):Le a c:=by
 rcases dy b c with q|q|q
 ·exact lD (nv h q)
 ·exact q▸h
 ·rw[h2] at q;cases q
theorem le_rfl {a:Bs}:Le a a:=cN a
def inB (lo:Bs) (hi:Option Bs) (k:Bs):Prop:=Le lo k∧∀h,hi=some h→Lt k h
def wW (a b:Option Bs):Prop:=∀h,b=some h→∃h',a=some h'∧Le h' h
theorem wW.refl (a:Option Bs):wW a a:=fun h e=>⟨h,e,le_rfl⟩
theorem inB.wide {lo lo':Bs} {hi hi':Option Bs} {k:Bs} (h:inB lo hi k) (h1:Le lo' lo) (h2:wW hi hi'):inB lo' hi' k:=
 ⟨ya h1 h.1,fun x e=>by obtain ⟨y,e1,e2⟩:=h2 x e;exact uT (h.2 y e1) e2⟩
section
variable {α:Type} {W:Bs→Option Bs→α→Prop}
def bH (W:Bs→Option Bs→α→Prop):Bs→Option Bs→List Bs→List α→Prop
 |lo,hi,[],[u]=>W lo hi u
 |lo,hi,k::ks,u::us=>W lo (some k) u∧bH W k hi ks us
 |_,_,_,_=>False
structure Eh (W:Bs→Option Bs→α→Prop):Prop where
 ne:∀lo hi u,W lo hi u→∃k,inB lo hi k
 wide:∀lo hi lo' hi' u,W lo hi u→Le lo' lo→wW hi hi'→W lo' hi' u
theorem bH.len:∀{lo:Bs} {hi:Option Bs} {ks:List Bs} {us:List α},bH W lo hi ks us→us.length=ks.length+1
 |_,_,[],[],h=>by cases h
 |_,_,[],[_],_=>rfl
 |_,_,[],_::_::_,h=>by cases h
 |_,_,_::_,[],h=>by cases h
 |_,_,_::_,_::_,h=>by simp[bH.len h.2]
theorem bH.keys (hW:Eh W):∀{lo:Bs} {hi:Option Bs} {ks:List Bs} {us:List α},bH W lo hi ks us→(ks.Pairwise Lt∧∀k∈ks,Lt lo k∧∀h,hi=some h→Lt k h)∧∃k,inB lo hi k
 |lo,hi,[],[u],h=>⟨⟨List.Pairwise.nil,by simp⟩,hW.ne _ _ _ h⟩
 |_,_,[],[],h=>by cases h
 |_,_,[],_::_::_,h=>by cases h
 |_,_,_::_,[],h=>by cases h
 |lo,hi,k::ks,u::us,h=>by
  obtain ⟨q,hq⟩:=hW.ne _ _ _ h.1
  have hk:Lt lo k:=nv hq.1 (hq.2 k rfl)
  obtain ⟨⟨h1,h2⟩,z,hz⟩:=bH.keys hW h.2
  refine ⟨⟨List.pairwise_cons.2 ⟨fun a ha=>(h2 a ha).1,h1⟩,fun a ha=>?_⟩,z,ya (lD hk) hz.1,hz.2⟩
  rcases List.mem_cons.1 ha with rfl|ha
  ·exact ⟨hk,fun b hb=>nv hz.1 (hz.2 b hb)⟩
  ·exact ⟨rQ hk (h2 a ha).1,(h2 a ha).2⟩
theorem bH.wide (hW:Eh W):∀{lo lo':Bs} {hi hi':Option Bs} {ks:List Bs} {us:List α},bH W lo hi ks us→Le lo' lo→wW hi hi'→bH W lo' hi' ks us
 |_,_,_,_,[],[u],h,a,b=>hW.wide _ _ _ _ _ h a b
 |_,_,_,_,[],[],h,_,_=>by cases h
 |_,_,_,_,[],_::_::_,h,_,_=>by cases h
 |_,_,_,_,_::_,[],h,_,_=>by cases h
 |_,_,_,_,k::ks,u::us,h,a,b=>⟨hW.wide _ _ _ _ _ h.1 a (wW.refl _),bH.wide hW h.2 le_rfl b⟩
theorem bH.app:∀{lo k:Bs} {hi:Option Bs} {ks ks':List Bs} {us us':List α},bH W lo (some k) ks us→bH W k hi ks' us'→bH W lo hi (ks++k::ks') (us++us')
 |_,_,_,[],_,[u],_,h,h'=>⟨h,h'⟩
 |_,_,_,[],_,[],_,h,_=>by cases h
 |_,_,_,[],_,_::_::_,_,h,_=>by cases h
 |_,_,_,_::_,_,[],_,h,_=>by cases h
 |_,_,_,k::ks,_,u::us,_,h,h'=>⟨h.1,bH.app h.2 h'⟩
theorem bH.cut:∀{lo k:Bs} {hi:Option Bs} {ks ks':List Bs} {us us':List α},us.length=ks.length+1→bH W lo hi (ks++k::ks') (us++us')→bH W lo (some k) ks us∧bH W k hi ks' us'
 |_,_,_,[],_,[u],_,_,h=>⟨h.1,h.2⟩
 |_,_,_,[],_,[],_,h,_=>by cases h
 |_,_,_,[],_,_::_::_,_,h,_=>by simp at h
 |_,_,_,_::_,_,[],_,h,_=>by simp at h
 |_,_,_,k::ks,_,u::us,_,hl,h=>by
  obtain ⟨h1,h2⟩:=bH.cut (ks:=ks) (us:=us) (by simpa using hl) h.2
  exact ⟨⟨h.1,h1⟩,h2⟩
def dM (lo:Bs) (ks:List Bs) (j:Nat):Bs:=if j=0 then lo else ks.getD (j - 1) []
def eR (hi:Option Bs) (ks:List Bs) (j:Nat):Option Bs:=if j<ks.length then some (ks.getD j []) else hi
theorem bH.at:∀{lo:Bs} {hi:Option Bs} {ks:List Bs} {us:List α} {j:Nat},bH W lo hi ks us→j≤ks.length→∃u,us[j]? =some u∧W (dM lo ks j) (eR hi ks j) u∧
  ∀ks' us',bH W (dM lo ks j) (eR hi ks j) ks' us'→bH W lo hi (ks.take j++(ks'++ks.drop j)) (us.take j++(us'++us.drop (j+1)))
 |lo,hi,[],[u],j,h,hj=>by
  obtain rfl:j=0:=by simpa using hj
  exact ⟨u,rfl,h,fun ks' us' h'=>by simpa [dM,eR] using h'⟩
 |_,_,[],[],_,h,_=>by cases h
 |_,_,[],_::_::_,_,h,_=>by cases h
 |_,_,_::_,[],_,h,_=>by cases h
 |lo,hi,k::ks,u::us,0,h,hj=>by
  refine ⟨u,rfl,by simpa [dM,eR] using h.1,fun ks' us' h'=>?_⟩
  have h':bH W lo (some k) ks' us':=by simpa [dM,eR] using h'
  simpa using h'.app h.2
 |lo,hi,k::ks,u::us,j+1,h,hj=>by
  obtain ⟨u',h1,h2,h3⟩:=bH.at (j:=j) h.2 (by simpa using hj)
  have e1:dM lo (k::ks) (j+1)=dM k ks j:=by
   unfold dM
   cases j<;>simp
  have e2:eR hi (k::ks) (j+1)=eR hi ks j:=by
   unfold eR
   simp
  rw[e1,e2]
  exact ⟨u',by simpa using h1,h2,fun ks' us' h'=>⟨h.1,h3 ks' us' h'⟩⟩
theorem bH.del (hW:Eh W):∀{lo:Bs} {hi:Option Bs} {ks:List Bs} {us:List α} {j:Nat},bH W lo hi ks us→j<us.length→0<ks.length→bH W lo hi (ks.take (j - 1)++ks.drop (j - 1+1)) (us.take j++us.drop (j+1))
 |_,_,[],_,_,_,_,h=>by simp at h
 |_,_,_::_,[],_,h,_,_=>by cases h
 |lo,hi,k::ks,u::us,0,h,_,_=>by
  have hk:Lt lo k:=by
   obtain ⟨q,hq⟩:=hW.ne _ _ _ h.1
   exact nv hq.1 (hq.2 k rfl)
  simpa using h.2.wide hW (lD hk) (wW.refl _)
 |lo,hi,k::ks,[u],1,h,hj,_=>by simp at hj
 |lo,hi,k::ks,u::v::us,1,h,_,_=>by
  cases ks with
  |nil=>
   obtain ⟨h1,h2⟩:=h
   cases us with
   |nil=>
    obtain ⟨q,hq⟩:=hW.ne _ _ _ h2
    have:W lo hi u:=hW.wide _ _ _ _ _ h1 le_rfl fun x e=>⟨k,rfl,lD (nv hq.1 (hq.2 x e))⟩
    simpa [bH] using this
   |cons w us=>cases h2
  |cons k' ks=>
   obtain ⟨h1,h2,h3⟩:=h
   obtain ⟨q,hq⟩:=hW.ne _ _ _ h2
   have:W lo (some k') u:=hW.wide _ _ _ _ _ h1 le_rfl fun x e=>⟨k,rfl,by cases e;exact lD (nv hq.1 (hq.2 _ rfl))⟩
   simpa [bH] using And.intro this h3
 |lo,hi,k::ks,u::us,j+2,h,hj,_=>by
  have hl:=bH.len h.2
  have h0:0<ks.length:=by simp at hj;omega
  have:=bH.del hW (j:=j+1) h.2 (by simp at hj;omega) h0
  simp only[Nat.add_sub_cancel] at this ⊢
  have e:j+2 - 1=j+1:=by omega
  rw[e]
  exact ⟨h.1,this⟩
end
structure Nd (α:Type) where
 pg:Nat
 ks:List Bs
 kids:List α
def Kid:Nat→Type
 |0=>Bs
 |L+1=>Nd (Kid L)
abbrev Tr (L:Nat):=Nd (Kid L)
def mf:(L:Nat)→List Bs→List (Kid L)→List Pr
 |0=>fun ks (vs:List Bs)=>List.zipWith Pr.mk ks vs
 |L+1=>fun _ (us:List (Tr L))=>(us.map fun u:Tr L=>mf L u.ks u.kids).flatten
def aN (L:Nat) (t:Tr L):List Pr:=mf L t.ks t.kids
def bf:(L:Nat)→List (Kid L)→List Nat
 |0=>fun _=>[]
 |L+1=>fun (us:List (Tr L))=>(us.map fun u:Tr L=>u.pg::bf L u.kids).flatten
def bp (L:Nat) (t:Tr L):List Nat:=t.pg::bf L t.kids
def aA (ks vs:List Bs):Page.Node:=⟨true,ks,vs,[]⟩
def av (L:Nat) (ks:List Bs) (us:List (Tr L)):Page.Node:=⟨false,ks,[],us.map fun u=>((u.pg:Nat):Int)⟩
def bn:(L:Nat)→List Bs→List (Kid L)→Page.Node
 |0=>fun ks (vs:List Bs)=>aA ks vs
 |L+1=>fun ks (us:List (Tr L))=>av L ks us
def WC:(L:Nat)→Bs→Option Bs→List Bs→List (Kid L)→Prop
 |0=>fun lo hi ks _=>0<ks.length∧∀k∈ks,inB lo hi k
 |L+1=>fun lo hi ks (us:List (Tr L))=>bH (fun lo hi (u:Tr L)=>right (bn L u.ks u.kids)=true∧size (bn L u.ks u.kids)≤1024∧WC L lo hi u.ks u.kids) lo hi ks us
def WF (L:Nat) (lo:Bs) (hi:Option Bs) (t:Tr L):Prop:=right (bn L t.ks t.kids)=true∧size (bn L t.ks t.kids)≤1024∧WC L lo hi t.ks t.kids
theorem eJ (L:Nat) (us:List (Tr L)):bf (L+1) us=(us.map (bp L)).flatten:=rfl
theorem ny {L:Nat} {lo:Bs} {hi:Option Bs} {ks:List Bs} {us:List (Tr L)}:WC (L+1) lo hi ks us↔bH (WF L) lo hi ks us:=Iff.rfl
theorem nice:∀L,Eh (WF L)
 |0=>⟨fun lo hi (t:Nd Bs) h=>by
   obtain ⟨-,-,h0,h1⟩:=h
   exact ⟨_,h1 _ (List.getElem_mem h0)⟩,fun lo hi lo' hi' (t:Nd Bs) h a b=>by
   obtain ⟨h1,h2,h3,h4⟩:=h
   exact ⟨h1,h2,h3,fun k hk=>(h4 k hk).wide a b⟩⟩
 |L+1=>⟨fun lo hi (t:Nd (Tr L)) h=>(bH.keys (nice L) (ny.1 h.2.2)).2,fun lo hi lo' hi' (t:Nd (Tr L)) h a b=>⟨h.1,h.2.1,ny.2 ((ny.1 h.2.2).wide (nice L) a b)⟩⟩
abbrev kLt (a b:Pr):Prop:=Lt a.k b.k
theorem kE {α:Type} {W:Bs→Option Bs→α→Prop} {f:α→List Pr} (hP:∀lo hi u,W lo hi u→(∀p∈f u,inB lo hi p.k)∧f u≠[]∧(f u).Pairwise kLt):
  ∀{lo:Bs} {hi:Option Bs} {ks:List Bs} {us:List α},bH W lo hi ks us→(∀p∈(us.map f).flatten,inB lo hi p.k)∧(us.map f).flatten≠[]∧(us.map f).flatten.Pairwise kLt
 |lo,hi,[],[u],h=>by simpa using hP _ _ _ h
 |_,_,[],[],h=>by cases h
 |_,_,[],_::_::_,h=>by cases h
 |_,_,_::_,[],h=>by cases h
 |lo,hi,k::ks,u::us,h=>by
  obtain ⟨a1,a2,a3⟩:=hP _ _ _ h.1
  obtain ⟨b1,b2,b3⟩:=kE hP h.2
  obtain ⟨p,hp⟩:=List.exists_mem_of_ne_nil _ a2
  obtain ⟨q,hq⟩:=List.exists_mem_of_ne_nil _ b2
  have hk:Lt lo k:=nv (a1 p hp).1 ((a1 p hp).2 k rfl)
  refine ⟨fun x hx=>?_,by simp[a2],?_⟩
  ·simp only[List.map_cons,List.flatten_cons,List.mem_append] at hx
   rcases hx with hx|hx
   ·exact ⟨(a1 x hx).1,fun y hy=>rQ ((a1 x hx).2 k rfl) (nv (b1 q hq).1 ((b1 q hq).2 y hy))⟩
   ·exact ⟨ya (lD hk) (b1 x hx).1,(b1 x hx).2⟩
  ·simp only[List.map_cons,List.flatten_cons]
   rw[List.pairwise_append]
   exact ⟨a3,b3,fun x hx y hy=>uT ((a1 x hx).2 k rfl) (b1 y hy).1⟩
theorem eB {ks vs:List Bs} {p:Pr} (h:p∈List.zipWith Pr.mk ks vs):p.k∈ks:=by
 induction ks generalizing vs with
 |nil=>simp at h
 |cons k ks ih=>
  cases vs with
  |nil=>simp at h
  |cons v vs=>
   simp only[List.zipWith_cons_cons,List.mem_cons] at h
   rcases h with rfl|h
   ·simp
   ·exact List.mem_cons_of_mem _ (ih h)
theorem Cz {ks vs:List Bs} (h:ks.Pairwise Lt):(List.zipWith Pr.mk ks vs).Pairwise kLt:=by
 induction ks generalizing vs with
 |nil=>simp
 |cons k ks ih=>
  cases vs with
  |nil=>simp
  |cons v vs=>
   simp only[List.zipWith_cons_cons]
   rw[List.pairwise_cons] at h ⊢
   exact ⟨fun p hp=>h.1 _ (eB hp),ih h.2⟩
theorem wX {lo:Bs} {hi:Option Bs} {ks vs:List Bs} (h1:right (aA ks vs)=true) (h3:0<ks.length) (h4:∀k∈ks,inB lo hi k):(∀p∈List.zipWith Pr.mk ks vs,inB lo hi p.k)∧List.zipWith Pr.mk ks vs≠[]∧(List.zipWith Pr.mk ks vs).Pairwise kLt:=by
 obtain ⟨r1,r2,-⟩:=(bA (n:=aA ks vs) rfl).1 h1
 have r2:vs.length=ks.length:=r2
 refine ⟨fun p hp=>h4 _ (eB hp),?_,Cz r1.2⟩
 intro e
 have:=congrArg List.length e
 rw[List.length_zipWith,List.length_nil] at this
 omega
theorem jq:∀(L:Nat) (lo:Bs) (hi:Option Bs) (t:Tr L),WF L lo hi t→(∀p∈aN L t,inB lo hi p.k)∧aN L t≠[]∧(aN L t).Pairwise kLt
 |0,lo,hi,t,h=>wX h.1 h.2.2.1 h.2.2.2
 |L+1,lo,hi,t,h=>kE (jq L) (ny.1 h.2.2)
def fy (l:List Pr) (k v:Bs):List Pr:=l.filter (fun p=>Op.bytesLess p.k k)++⟨k,v⟩::l.filter (fun p=>Op.bytesLess k p.k)
def dS (l:List Pr) (k:Bs):List Pr:=l.filter (fun p=> !decide (p.k=k))
theorem filter_all {l:List Pr} {f:Pr→Bool} (h:∀p∈l,f p=true):l.filter f=l:=List.filter_eq_self.2 h
theorem gJ {l:List Pr} {f:Pr→Bool} (h:∀p∈l,f p=false):l.filter f=[]:=by
 rw[List.filter_eq_nil_iff]
 intro p hp
 simp[h p hp]
theorem qo {a b c:List Pr} {k v:Bs} (ha:∀p∈a,Lt p.k k) (hc:∀p∈c,Lt k p.k):fy (a++(b++c)) k v=a++(fy b k v++c):=by
 unfold fy
 simp only[List.filter_append]
 rw[filter_all (l:=a) ha,filter_all (l:=c) hc,gJ (l:=a) fun p hp=>gU (ha p hp),gJ (l:=c) fun p hp=>gU (hc p hp)]
 simp
theorem ne_of_lt {a b:Bs} (h:Lt a b):a≠b:=fun e=>by rw[e,Lt,cN] at h;cases h
theorem rR {a b c:List Pr} {k:Bs} (ha:∀p∈a,Lt p.k k) (hc:∀p∈c,Lt k p.k):dS (a++(b++c)) k=a++(dS b k++c):=by
 unfold dS
 simp only[List.filter_append]
 rw[filter_all (l:=a) fun p hp=>by simpa using ne_of_lt (ha p hp),filter_all (l:=c) fun p hp=>by simpa using (ne_of_lt (hc p hp)).symm]
theorem pd {α:Type} {l:List α} {i j:Nat} (h:i<l.length) (hj:i<j):l[i]∈l.take j:=List.mem_iff_getElem.2 ⟨i,by simp;omega,by simp⟩
theorem yb {α:Type} {l:List α} {i j:Nat} (h:i<l.length) (hj:j≤i):l[i]∈l.drop j:=List.mem_iff_getElem.2 ⟨i - j,by simp;omega,by simp[show j+(i - j)=i by omega]⟩
theorem iJ {L:Nat} {lo:Bs} {hi:Option Bs} {ks:List Bs} {us:List (Tr L)} {key:Bs} (h:bH (WF L) lo hi ks us) (hk:inB lo hi key) (j:Nat) (hj:j≤ks.length) (h1:∀k∈ks.take j,Le k key) (h2:∀k∈ks.drop j,Lt key k):
  (∀p∈((us.take j).map (aN L)).flatten,Lt p.k key)∧(∀p∈((us.drop (j+1)).map (aN L)).flatten,Lt key p.k)∧inB (dM lo ks j) (eR hi ks j) key:=by
 have hl:=h.len
 refine ⟨?_,?_,?_,?_⟩
 ·cases j with
  |zero=>simp
  |succ i=>
   have e:ks=ks.take i++ks[i]::ks.drop (i+1):=by rw[←List.drop_eq_getElem_cons ab,List.take_append_drop]
   have c:=h
   rw[e,←List.take_append_drop (i+1) us] at c
   obtain ⟨c1,-⟩:=c.cut ak
   intro p hp
   have q:=(kE (jq L) c1).1 p hp
   exact uT (q.2 _ rfl) (h1 _ (pd _ (Nat.lt_succ_self _)))
 ·by_cases hj2:j<ks.length
  ·have e:ks=ks.take j++ks[j]::ks.drop (j+1):=by rw[←List.drop_eq_getElem_cons ab,List.take_append_drop]
   have c:=h
   rw[e,←List.take_append_drop (j+1) us] at c
   obtain ⟨-,c1⟩:=c.cut ak
   intro p hp
   have q:=(kE (jq L) c1).1 p hp
   exact uT (h2 _ (yb hj2 (Nat.le_refl _))) q.1
  ·rw[List.drop_eq_nil_of_le ab]
   simp
 ·unfold dM
  split
  ·exact hk.1
  ·refine h1 _ ?_
   rw[List.getD_eq_getElem?_getD,List.getElem?_eq_getElem ab]
   exact pd _ ab
 ·unfold eR
  intro x hx
  split at hx
  ·cases hx
   refine h2 _ ?_
   rw[List.getD_eq_getElem?_getD,List.getElem?_eq_getElem ‹_›]
   exact yb ‹_› (Nat.le_refl _)
  ·exact hk.2 x hx
theorem nz {α β:Type} {f:α→List β} {us:List α} {j:Nat} {u:α} (h:us[j]? =some u):(us.map f).flatten=((us.take j).map f).flatten++(f u++((us.drop (j+1)).map f).flatten):=by
 obtain ⟨hj,rfl⟩:=List.getElem?_eq_some_iff.1 h
 have e:us=us.take j++us[j]::us.drop (j+1):=by rw[←List.drop_eq_getElem_cons hj,List.take_append_drop]
 conv=>lhs;rw[e]
 rw[List.map_append,List.flatten_append,List.map_cons,List.flatten_cons]
theorem nA {a b c d:List Bs} {k v:Bs} (h:a.length=c.length):List.zipWith Pr.mk (a++k::b) (c++v::d)=List.zipWith Pr.mk a c++⟨k,v⟩::List.zipWith Pr.mk b d:=by
 rw[List.zipWith_append h];rfl
theorem jr {ks vs:List Bs} (h:right (aA ks vs)=true) (key:Bs):(∀k∈ks.take (place (aA ks vs) key),Lt k key)∧(∀k∈ks.drop (place (aA ks vs) key),Le key k)∧place (aA ks vs) key≤ks.length:=by
 obtain ⟨r1,-⟩:=(bA (n:=aA ks vs) rfl).1 h
 obtain ⟨p1,p2,p3⟩:=l9 (n:=aA ks vs) rfl key
 simp only[aA] at r1 p1 p2 p3 ⊢
 generalize place _ key=i at*
 refine ⟨fun k hk=>?_,fun k hk=>?_,p1⟩
 ·obtain ⟨j,h1,h2,rfl⟩:=kz hk
  exact p2 j h1
 ·obtain ⟨j,h1,h2,rfl⟩:=iI hk
  have q:=p3 ab
  by_cases e:i=j
  ·subst e;exact q
  ·have:=List.pairwise_iff_getElem.1 r1.2 i j ab h2 ab
   rw[bD ab] at q
   rw[bD h2]
   exact ya (b:=ks[i]) q (lD this)
theorem nZ {ks:List Bs} (h:ks.Pairwise Lt) {i:Nat} (hi:i<ks.length):∀k∈ks.drop (i+1),Lt ks[i] k:=by
 rw[←List.take_append_drop i ks,List.drop_eq_getElem_cons hi,List.pairwise_append,List.pairwise_cons] at h
 exact h.2.1.1
theorem nB (ks vs:List Bs) (i:Nat):List.zipWith Pr.mk ks vs=List.zipWith Pr.mk (ks.take i) (vs.take i)++List.zipWith Pr.mk (ks.drop i) (vs.drop i):=by
 rw[←List.take_zipWith,←List.drop_zipWith,List.take_append_drop]
theorem wY {a b:List Pr} {k v:Bs} (ha:∀p∈a,Lt p.k k) (hb:∀p∈b,Lt k p.k):fy (a++b) k v=a++⟨k,v⟩::b:=by
 have:=qo (b:=[]) (v:=v) ha hb
 simpa [fy] using this
theorem Aw {a b:List Pr} {k v w:Bs} (ha:∀p∈a,Lt p.k k) (hb:∀p∈b,Lt k p.k):fy (a++⟨k,w⟩::b) k v=a++⟨k,v⟩::b:=by
 have:=qo (b:=[⟨k,w⟩]) (v:=v) ha hb
 simpa [fy,cN] using this
theorem wZ {a b:List Pr} {k w:Bs} (ha:∀p∈a,Lt p.k k) (hb:∀p∈b,Lt k p.k):dS (a++⟨k,w⟩::b) k=a++b:=by
 have:=rR (b:=[⟨k,w⟩]) ha hb
 simpa [dS] using this
theorem Ax {ks vs:List Bs} (h:right (aA ks vs)=true) {key:Bs} (hf:bE (aA ks vs) key=false):∀k∈ks.drop (place (aA ks vs) key),Lt key k:=by
 obtain ⟨r1,-⟩:=(bA (n:=aA ks vs) rfl).1 h
 obtain ⟨-,p2,p3⟩:=jr h key
 intro k hk
 have q:=p2 k hk
 rcases dy key k with a|a|a
 ·exact a
 ·exfalso
  obtain ⟨j,h1,h2,rfl⟩:=iI hk
  have:=(uI (n:=aA ks vs) rfl h (i:=j) h2 a.symm).2
  rw[hf] at this;cases this
 ·rw[q] at a;cases a
theorem uU {ks vs:List Bs} {key val:Bs} (h:right (aA ks vs)=true) (hk:key.length≤128) (hv:val.length≤200):
  ∃ks' vs',na (aA ks vs) key val=aA ks' vs'∧Page.uG (aA ks vs) key val=0∧right (aA ks' vs')=true∧size (aA ks' vs')≤size (aA ks vs)+331∧0<ks'.length∧(∀k∈ks',k=key∨k∈ks)∧List.zipWith Pr.mk ks' vs'=fy (List.zipWith Pr.mk ks vs) key val:=by
 have ho:fM (aA ks vs) key val=true:=by simp[fM,h,hk,hv];rfl
 have hr:=Ac ho
 have hs:=gM ho
 obtain ⟨r1,r2,-⟩:=(bA (n:=aA ks vs) rfl).1 h
 obtain ⟨p1,p2,p3⟩:=jr h key
 have he:Page.uG (aA ks vs) key val=0:=by unfold Page.uG;rw[if_pos ho]
 have hN:na (aA ks vs) key val=if bE (aA ks vs) key then uE (aA ks vs) (place (aA ks vs) key) val else uF (aA ks vs) (place (aA ks vs) key) key val:=by unfold na;rw[if_pos ho]
 rw[hN] at hr hs ⊢
 cases hf:bE (aA ks vs) key with
 |true=>
  obtain ⟨-,-,f1,f2,f3⟩:=dW hf
  have f1:place (aA ks vs) key<ks.length:=f1
  have f3:ks.getD (place (aA ks vs) key) []=key:=f3
  simp only[aA] at f2 r1 r2
  rw[hf] at hr hs
  simp only[if_true] at hr hs ⊢
  generalize place (aA ks vs) key=i at*
  have hkk:ks[i]=key:=by rw[←f3,bD f1]
  have hd:=nZ r1.2 f1
  rw[hkk] at hd
  refine ⟨ks,vs.take i++val::vs.drop (i+1),rfl,he,hr,hs,ab,fun k hk=> .inr hk,?_⟩
  have e1:ks=ks.take i++key::ks.drop (i+1):=by rw[←hkk,←List.drop_eq_getElem_cons f1,List.take_append_drop]
  have e2:vs=vs.take i++vs[i]::vs.drop (i+1):=by rw[←List.drop_eq_getElem_cons,List.take_append_drop]
  have e3:List.zipWith Pr.mk ks vs=List.zipWith Pr.mk (ks.take i) (vs.take i)++⟨key,vs[i]⟩::List.zipWith Pr.mk (ks.drop (i+1)) (vs.drop (i+1)):=by
   conv=>lhs;rw[e1,e2]
   exact nA ak
  rw[e3,Aw (fun p hp=>p1 _ (eB hp)) (fun p hp=>hd _ (eB hp))]
  conv=>lhs;rw[e1]
  exact nA ak
 |false=>
  have hd:=Ax h hf
  rw[hf] at hr hs
  simp only[Bool.false_eq_true,if_false] at hr hs ⊢
  simp only[aA] at r1 r2
  have p3:place (aA ks vs) key≤ks.length:=p3
  generalize place (aA ks vs) key=i at*
  refine ⟨ks.take i++key::ks.drop i,vs.take i++val::vs.drop i,rfl,he,hr,hs,by simp;omega,fun k hk=>?_,?_⟩
  ·simp only[List.mem_append,List.mem_cons] at hk
   rcases hk with hk|hk|hk
   ·exact .inr (List.mem_of_mem_take hk)
   ·exact .inl hk
   ·exact .inr (List.mem_of_mem_drop hk)
  ·rw[nA ak,nB ks vs i,wY (fun p hp=>p1 _ (eB hp)) (fun p hp=>hd _ (eB hp))]
theorem Ay {ks vs:List Bs} {key:Bs} (h:right (aA ks vs)=true) (hf:bE (aA ks vs) key=true):
  ∃ks' vs',oG (aA ks vs) key=aA ks' vs'∧right (aA ks' vs')=true∧size (aA ks' vs')≤size (aA ks vs)∧(∀k∈ks',k∈ks)∧List.zipWith Pr.mk ks' vs'=dS (List.zipWith Pr.mk ks vs) key∧ks'.length+1=ks.length:=by
 obtain ⟨r1,r2,-⟩:=(bA (n:=aA ks vs) rfl).1 h
 obtain ⟨p1,p2,p3⟩:=jr h key
 obtain ⟨-,-,f1,f2,f3⟩:=dW hf
 have hr:=z6 (n:=aA ks vs) rfl h f1
 have hN:oG (aA ks vs) key=zW (aA ks vs) (place (aA ks vs) key):=by unfold oG;rw[if_pos hf]
 rw[hN]
 have f1:place (aA ks vs) key<ks.length:=f1
 have f3:ks.getD (place (aA ks vs) key) []=key:=f3
 simp only[aA] at f2 r1 r2
 generalize place (aA ks vs) key=i at*
 have hkk:ks[i]=key:=by rw[←f3,bD f1]
 have hd:=nZ r1.2 f1
 rw[hkk] at hd
 have s1:=sW (fH ks i)
 have s2:=sW (fH vs i)
 refine ⟨ks.take i++ks.drop (i+1),vs.take i++vs.drop (i+1),rfl,hr,?_,fun k hk=>(fH ks i).subset hk,?_,by simp;omega⟩
 ·rw[size_leaf rfl,size_leaf rfl]
  simp only[aA,List.length_append,List.length_take,List.length_drop]
  omega
 ·have e1:ks=ks.take i++key::ks.drop (i+1):=by rw[←hkk,←List.drop_eq_getElem_cons f1,List.take_append_drop]
  have e2:vs=vs.take i++vs[i]::vs.drop (i+1):=by rw[←List.drop_eq_getElem_cons,List.take_append_drop]
  have e3:List.zipWith Pr.mk ks vs=List.zipWith Pr.mk (ks.take i) (vs.take i)++⟨key,vs[i]⟩::List.zipWith Pr.mk (ks.drop (i+1)) (vs.drop (i+1)):=by
   conv=>lhs;rw[e1,e2]
   exact nA ak
  rw[e3,wZ (fun p hp=>p1 _ (eB hp)) (fun p hp=>hd _ (eB hp)),List.zipWith_append ak]
theorem qp {ks vs:List Bs} {key:Bs} (h:right (aA ks vs)=true):bE (aA ks vs) key=true↔∃p∈List.zipWith Pr.mk ks vs,p.k=key:=by
 obtain ⟨r1,r2,-⟩:=(bA (n:=aA ks vs) rfl).1 h
 simp only[aA] at r1 r2
 constructor
 ·intro hf
  obtain ⟨-,-,f1,f2,f3⟩:=dW hf
  have f1:place (aA ks vs) key<ks.length:=f1
  have f3:ks.getD (place (aA ks vs) key) []=key:=f3
  refine ⟨(List.zipWith Pr.mk ks vs)[place (aA ks vs) key]'(by rw[List.length_zipWith];omega),List.getElem_mem _,?_⟩
  simp only[List.getElem_zipWith]
  rw[bD f1] at f3
  exact f3
 ·rintro ⟨p,hp,rfl⟩
  obtain ⟨j,hj,e⟩:=List.getElem_of_mem (eB hp)
  exact (uI (n:=aA ks vs) rfl h (i:=j) hj (by show ks.getD j []=_;rw[bD hj];exact e)).2
def lim (L:Nat):Nat:=if L=0 then 1355 else 1157
structure w5 (L:Nat) (lo:Bs) (hi:Option Bs) (ks:List Bs) (kids:List (Kid L)) (ks1:List Bs) (kids1:List (Kid L)) (key:Bs) (ks2:List Bs) (kids2:List (Kid L)):Prop where
 eq:split (bn L ks kids)=⟨bn L ks1 kids1,key,bn L ks2 kids2,true⟩
 r1:right (bn L ks1 kids1)=true
 z1:size (bn L ks1 kids1)≤1024
 w1:WC L lo (some key) ks1 kids1
 r2:right (bn L ks2 kids2)=true
 z2:size (bn L ks2 kids2)≤1024
 w2:WC L key hi ks2 kids2
 k1:Lt lo key
 k2:∀h,hi=some h→Lt key h
 kl:key.length≤128
 ps:mf L ks1 kids1++mf L ks2 kids2=mf L ks kids
 kd:kids1++kids2=kids
 cn:0<L→2≤kids1.length∧2≤kids2.length∧9≤kids1.length+kids2.length
theorem ig {L:Nat} {lo:Bs} {hi:Option Bs} {ks:List Bs} {us:List (Tr L)} (h:bH (WF L) lo hi ks us) (hk:∀k∈ks,k.length≤128) (hp:∀u∈us,u.pg<16384):right (av L ks us)=true:=by
 refine (cO (n:=av L ks us) rfl).2 ⟨⟨hk,(h.keys (nice L)).1.1⟩,rfl,by simp[av,h.len],fun k hk=>?_⟩
 obtain ⟨u,hu,rfl⟩:=List.mem_map.1 hk
 have:=hp u hu
 omega
theorem w6 {lo:Bs} {hi:Option Bs} {ks vs:List Bs} (hr:right (aA ks vs)=true) (hz:¬size (aA ks vs)≤1024) (hb:size (aA ks vs)≤1355) (hw:∀k∈ks,inB lo hi k):
  ∃ks1 vs1 key ks2 vs2,w5 0 lo hi ks vs ks1 vs1 key ks2 vs2:=by
 have hm:2≤ks.length:=by
  rcases Nat.lt_or_ge ks.length 2 with h|h
  ·exact absurd (Ad (m:=aA ks vs) rfl hr h) hz
  ·exact h
 have hbt:bet (aA ks vs)=0:=rfl
 have hmost:most (aA ks vs)+1=ks.length:=by unfold most;rw[hbt];show ks.length - 1 - 0+1=_;omega
 obtain ⟨c1,c2⟩:=pW (n:=aA ks vs) ab
 obtain ⟨h1,h2⟩:=uJ (m:=aA ks vs) rfl hr ab hb
 obtain ⟨r1,r2,-⟩:=(bA (n:=aA ks vs) rfl).1 hr
 have r2:vs.length=ks.length:=r2
 have r1:mW ks:=r1
 have hsp:splits (aA ks vs)=true:=by unfold splits;rw[hr,decide_eq_true ab];rfl
 have p1:Page.part (aA ks vs) 0 (cut (aA ks vs))=aA (ks.take (cut (aA ks vs))) (vs.take (cut (aA ks vs))):=rfl
 have p2:Page.part (aA ks vs) (cut (aA ks vs)+bet (aA ks vs)) ks.length=aA (ks.drop (cut (aA ks vs))) (vs.drop (cut (aA ks vs))):=by
  unfold Page.part aA
  simp only[if_true]
  rw[List.take_length,←r2,List.take_length]
  rfl
 have g1:=jR hr 0 (cut (aA ks vs)) (Nat.zero_le _) (show _≤ks.length by omega)
 have g2:=jR hr (cut (aA ks vs)+bet (aA ks vs)) ks.length (by rw[hbt];omega) (Nat.le_refl _)
 have h2:size (Page.part (aA ks vs) (cut (aA ks vs)+bet (aA ks vs)) ks.length)≤1024:=h2
 have es:split (aA ks vs)=⟨Page.part (aA ks vs) 0 (cut (aA ks vs)),ks.getD (cut (aA ks vs)) [],Page.part (aA ks vs) (cut (aA ks vs)+bet (aA ks vs)) ks.length,true⟩:=by
  unfold split;rw[if_pos hsp];rfl
 rw[p1,p2] at es
 rw[p1] at h1 g1
 rw[p2] at h2 g2
 generalize cut (aA ks vs)=c at*
 have hc:c<ks.length:=by omega
 have hk:ks.getD c []=ks[c]:=bD hc
 have e1:ks=ks.take c++ks[c]::ks.drop (c+1):=by rw[←List.drop_eq_getElem_cons hc,List.take_append_drop]
 have hrise:=r1.2
 rw[e1,List.pairwise_append] at hrise
 refine ⟨ks.take c,vs.take c,ks[c],ks.drop c,vs.drop c,⟨by rw[←hk];exact es,g1,h1,⟨by simp;omega,fun k hk2=>⟨(hw k (List.mem_of_mem_take hk2)).1,fun x hx=>by cases hx;exact hrise.2.2 k hk2 _ (List.mem_cons_self ..)⟩⟩,g2,h2,⟨by simp;omega,fun k hk2=>⟨?_,(hw k (List.mem_of_mem_drop hk2)).2⟩⟩,?_,fun x hx=>(hw _ (List.getElem_mem hc)).2 x hx,r1.1 _ (List.getElem_mem hc),?_,List.take_append_drop _ _,fun h=>absurd h (Nat.lt_irrefl _)⟩⟩
 ·rw[List.drop_eq_getElem_cons hc] at hk2
  rcases List.mem_cons.1 hk2 with rfl|hk2
  ·exact le_rfl
  ·exact lD ((List.pairwise_cons.1 hrise.2.1).1 _ hk2)
 ·have h0:0<ks.length:=by omega
  exact nv (hw _ (List.getElem_mem h0)).1 (hrise.2.2 _ (pd h0 ab) _ (List.mem_cons_self ..))
 ·exact (nB ks vs c).symm
theorem uV {L:Nat} {lo:Bs} {hi:Option Bs} {ks:List Bs} {us:List (Tr L)} (hr:right (av L ks us)=true) (hz:¬size (av L ks us)≤1024) (hb:size (av L ks us)≤1157) (hw:bH (WF L) lo hi ks us):
  ∃ks1 us1 key ks2 us2,w5 (L+1) lo hi ks us ks1 us1 key ks2 us2:=by
 have hul:=hw.len
 have hbt:bet (av L ks us)=1:=rfl
 obtain ⟨r1,-,-,-⟩:=(cO (n:=av L ks us) rfl).1 hr
 have r1:mW ks:=r1
 have hsz:size (av L ks us)=7+5*ks.length+tot ks:=rfl
 have ht:=DV (l:=ks) (c:=128) r1.1
 have hm:8≤ks.length:=by omega
 have hmost:most (av L ks us)+2=ks.length:=by unfold most;rw[hbt];show ks.length - 1 - 1+2=_;omega
 obtain ⟨c1,c2⟩:=pW (n:=av L ks us) ab
 obtain ⟨h1,h2⟩:=sQ (m:=av L ks us) rfl hr ab hb
 have hsp:splits (av L ks us)=true:=by unfold splits;rw[hr,decide_eq_true ab];rfl
 have p1:Page.part (av L ks us) 0 (cut (av L ks us))=av L (ks.take (cut (av L ks us))) (us.take (cut (av L ks us)+1)):=by
  unfold Page.part av
  simp
 have p2:Page.part (av L ks us) (cut (av L ks us)+bet (av L ks us)) ks.length=av L (ks.drop (cut (av L ks us)+1)) (us.drop (cut (av L ks us)+1)):=by
  rw[hbt]
  generalize cut (av L ks us)=c
  unfold av Page.part
  simp only[Bool.false_eq_true,if_false]
  rw[List.take_length,←hul,List.map_drop,List.take_of_length_le (l:=List.map _ us) af]
 have g1:=jR hr 0 (cut (av L ks us)) (Nat.zero_le _) (show _≤ks.length by omega)
 have g2:=jR hr (cut (av L ks us)+bet (av L ks us)) ks.length (by rw[hbt];omega) (Nat.le_refl _)
 have h2:size (Page.part (av L ks us) (cut (av L ks us)+bet (av L ks us)) ks.length)≤1024:=h2
 have es:split (av L ks us)=⟨Page.part (av L ks us) 0 (cut (av L ks us)),ks.getD (cut (av L ks us)) [],Page.part (av L ks us) (cut (av L ks us)+bet (av L ks us)) ks.length,true⟩:=by
  unfold split;rw[if_pos hsp];rfl
 rw[p1,p2] at es
 rw[p1] at h1 g1
 rw[p2] at h2 g2
 generalize cut (av L ks us)=c at*
 have hc:c<ks.length:=by omega
 have hk:ks.getD c []=ks[c]:=bD hc
 have e1:ks=ks.take c++ks[c]::ks.drop (c+1):=by rw[←List.drop_eq_getElem_cons hc,List.take_append_drop]
 have hw2:=hw
 rw[e1,←List.take_append_drop (c+1) us] at hw2
 obtain ⟨w1,w2⟩:=hw2.cut ak
 have kk:=(hw.keys (nice L)).1.2 _ (List.getElem_mem hc)
 have ps:((us.take (c+1)).map (aN L)).flatten++((us.drop (c+1)).map (aN L)).flatten=(us.map (aN L)).flatten:=by
  rw[←List.flatten_append,←List.map_append,List.take_append_drop]
 have cn:2≤(us.take (c+1)).length∧2≤(us.drop (c+1)).length∧9≤(us.take (c+1)).length+(us.drop (c+1)).length:=by
  rw[List.length_take,List.length_drop];omega
 refine ⟨ks.take c,us.take (c+1),ks[c],ks.drop (c+1),us.drop (c+1),⟨by rw[←hk];exact es,g1,h1,w1,g2,h2,w2,kk.1,kk.2,r1.1 _ (List.getElem_mem hc),ps,List.take_append_drop _ _,fun _=>cn⟩⟩
theorem yd:∀{L:Nat} {lo:Bs} {hi:Option Bs} {ks:List Bs} {kids:List (Kid L)},right (bn L ks kids)=true→¬size (bn L ks kids)≤1024→size (bn L ks kids)≤lim L→WC L lo hi ks kids→∃ks1 kids1 key ks2 kids2,w5 L lo hi ks kids ks1 kids1 key ks2 kids2
 |0,_,_,_,_,a,b,c,d=>w6 a b c d.2
 |L+1,_,_,_,_,a,b,c,d=>uV a b c (ny.1 d)
theorem w7 {L:Nat} (a b:List (Tr L)):bf (L+1) (a++b)=bf (L+1) a++bf (L+1) b:=by
 rw[eJ,eJ,eJ,List.map_append,List.flatten_append]
theorem Az:∀(L:Nat) (a b:List (Kid L)),bf L (a++b)=bf L a++bf L b
 |0,_,_=>rfl
 |L+1,a,b=>w7 a b
theorem bG {L:Nat} {ks:List Bs} {kids:List (Kid L)} (hr:right (bn L ks kids)=true) (hz:size (bn L ks kids)≤1355):Nb (bn L ks kids)∧Ns (bn L ks kids):=by
 cases L with
 |zero=>
  have hr:right (aA ks kids)=true:=hr
  obtain ⟨r1,r2,r3,r4⟩:=(bA (n:=aA ks kids) rfl).1 hr
  have hz:size (aA ks kids)≤1355:=hz
  rw[size_leaf rfl] at hz
  have r2:List.length (α:=Bs) kids=ks.length:=r2
  have hz:3+3*ks.length+tot ks+tot kids≤1355:=hz
  exact ⟨⟨by show ks.length≤_;omega,by show List.length (α:=Bs) kids≤_;omega,by show 0≤_;omega,by show tot ks≤_;omega,by show tot kids≤_;omega⟩,⟨by show ks.length≤_;omega,by show List.length (α:=Bs) kids≤_;omega,by show 0≤_;omega⟩⟩
 |succ L=>
  have hr:right (av L ks kids)=true:=hr
  obtain ⟨r1,r2,r3,r4⟩:=(cO (n:=av L ks kids) rfl).1 hr
  have hz:7+5*ks.length+tot ks≤1355:=hz
  have r3:(List.map (fun u:Tr L=>((u.pg:Nat):Int)) kids).length=ks.length+1:=r3
  exact ⟨⟨by show ks.length≤_;omega,by show 0≤_;omega,by show (List.map (fun u:Tr L=>((u.pg:Nat):Int)) kids).length≤_;omega,by show tot ks≤_;omega,by show 0≤_;omega⟩,⟨by show ks.length≤_;omega,by show 0≤_;omega,by show (List.map (fun u:Tr L=>((u.pg:Nat):Int)) kids).length≤_;omega⟩⟩
def Has (s:PgS) (i:Nat) (n:Page.Node):Prop:=lB (pgB s.p s.d i 8)=0∧fF (pgB s.p s.d i 8)=n
def OnC (s:PgS):(L:Nat)→List (Kid L)→Prop
 |0=>fun _=>True
 |L+1=>fun (us:List (Tr L))=>∀u∈us,Has s u.pg (bn L u.ks u.kids)∧OnC s L u.kids
def On (s:PgS) (L:Nat) (t:Tr L):Prop:=Has s t.pg (bn L t.ks t.kids)∧OnC s L t.kids
theorem dT {s:PgS} {L:Nat} {us:List (Tr L)}:OnC s (L+1) us↔∀u∈us,On s L u:=Iff.rfl
def stt (s:PgS) (j:Nat):Nat:=s.st.getD j 0
def bts (s:PgS) (j:Nat):List UInt8:=pgB s.p s.d j 8
theorem Has.congr {s s':PgS} {i:Nat} {n:Page.Node} (h:Has s i n) (e:bts s' i=bts s i):Has s' i n:=by
 unfold Has at h ⊢
 unfold bts at e
 rw[e];exact h
theorem rS {s s':PgS}:∀{L:Nat} {ks:List (Kid L)},OnC s L ks→(∀j∈bf L ks,bts s' j=bts s j)→OnC s' L ks
 |0,_,_,_=>trivial
 |L+1,us,h,e=>fun u hu=>by
  have hp:∀j∈bp L u,j∈bf (L+1) us:=fun j hj=>List.mem_flatten.2 ⟨_,List.mem_map.2 ⟨u,hu,rfl⟩,hj⟩
  exact ⟨(h u hu).1.congr (e _ (hp _ (List.mem_cons_self ..))),rS (h u hu).2 fun j hj=>e j (hp _ (List.mem_cons_of_mem _ hj))⟩
theorem On.congr {s s':PgS} {L:Nat} {t:Tr L} (h:On s L t) (e:∀j∈bp L t,bts s' j=bts s j):On s' L t:=
 ⟨h.1.congr (e _ (List.mem_cons_self ..)),rS h.2 fun j hj=>e j (List.mem_cons_of_mem _ hj)⟩
structure Mv (s s':PgS) (P P':Nat→Prop):Prop where
 np:s'.np=s.np
 d:s'.d=s.d
 off:∀j,¬P j→¬P' j→stt s' j=stt s j∧(stt s j≠0→bts s' j=bts s j)
 new:∀j,P' j→¬P j→stt s j=0∧stt s' j=2∧j<s.np
 stay:∀j,P' j→P j→stt s' j=stt s j
 gone:∀j,P j→¬P' j→(stt s j=1∧stt s' j=3)∨(stt s j=2∧stt s' j=0)
 keep:∀j,stt s j=1∨stt s j=3→bts s' j=bts s j
 pend:∀w∈s'.p,w∈s.p∨(stt s (w.1/8)≠1∧stt s (w.1/8)≠3)
section
variable {s s1 s':PgS} {P P1 P' Q:Nat→Prop}
theorem Mv.k13 (m:Mv s s' P P') (j:Nat):(stt s' j=1∨stt s' j=3)↔(stt s j=1∨stt s j=3):=by
 by_cases a:P j<;>by_cases b:P' j
 ·rw[m.stay j b a]
 ·have:=m.gone j a b;omega
 ·have:=m.new j b a;omega
 ·rw[(m.off j a b).1]
theorem Mv.trans (m:Mv s s1 P P1) (m2:Mv s1 s' P1 P'):Mv s s' P P' where
 np:=m2.np.trans m.np
 d:=m2.d.trans m.d
 off j a b:=by
  by_cases c:P1 j
  ·have q:=m.new j c a
   have r:=m2.gone j c b
   exact ⟨ab,fun x=>absurd q.1 x⟩
  ·have q:=m.off j a c
   have r:=m2.off j c b
   exact ⟨r.1.trans q.1,fun x=>(r.2 (by rw[q.1];exact x)).trans (q.2 x)⟩
 new j a b:=by
  by_cases c:P1 j
  ·have q:=m.new j c b
   have r:=m2.stay j a c
   exact ⟨q.1,ab,q.2.2⟩
  ·have q:=m.off j b c
   have r:=m2.new j a c
   have:=m.np
   exact ⟨ab,r.2.1,ab⟩
 stay j a b:=by
  by_cases c:P1 j
  ·exact (m2.stay j a c).trans (m.stay j c b)
  ·have q:=m.gone j b c
   have r:=m2.new j a c
   omega
 gone j a b:=by
  by_cases c:P1 j
  ·have q:=m.stay j c a
   have r:=m2.gone j c b
   omega
  ·have q:=m.gone j a c
   have r:=(m2.off j c b).1
   omega
 keep j a:=(m2.keep j ((m.k13 j).2 a)).trans (m.keep j a)
 pend w hw:=by
  rcases m2.pend w hw with a|a
  ·exact m.pend w a
  ·right
   have:=m.k13 (w.1/8)
   omega
theorem Mv.ext (m:Mv s s' P P') (hd:∀j,Q j→¬P j) (hq:∀j,Q j→stt s j≠0):Mv s s' (fun j=>P j∨Q j) (fun j=>P' j∨Q j) where
 np:=m.np
 d:=m.d
 off j a b:=m.off j (fun x=>a (.inl x)) (fun x=>b (.inl x))
 new j a b:=m.new j (a.resolve_right fun x=>b (.inr x)) (fun x=>b (.inl x))
 stay j a b:=by
  by_cases c:Q j
  ·by_cases e:P' j
   ·exact absurd (m.new j e (hd j c)).1 (hq j c)
   ·exact (m.off j (hd j c) e).1
  ·exact m.stay j (a.resolve_right c) (b.resolve_right c)
 gone j a b:=m.gone j (a.resolve_right fun x=>b (.inr x)) (fun x=>b (.inl x))
 keep:=m.keep
 pend:=m.pend
theorem Mv.congr (m:Mv s s' P P') {A A':Nat→Prop} (a:∀j,A j↔P j) (b:∀j,A' j↔P' j):Mv s s' A A':=by
 have ea:A=P:=funext fun j=>propext (a j)
 have eb:A'=P':=funext fun j=>propext (b j)
 rw[ea,eb];exact m
theorem Mv.apart (m:Mv s s' P P') (hd:∀j,Q j→¬P j) (hq:∀j,Q j→stt s j≠0):∀j,Q j→¬P' j∧stt s' j=stt s j∧bts s' j=bts s j:=fun j c=>by
 have e:¬P' j:=fun e=>hq j c (m.new j e (hd j c)).1
 have r:=m.off j (hd j c) e
 exact ⟨e,r.1,r.2 (hq j c)⟩
theorem Mv.same (h1:s'.np=s.np) (h2:s'.d=s.d) (h3:s'.st=s.st) (h4:s'.p=s.p):Mv s s' P P:=by
 have e1:∀j,stt s' j=stt s j:=fun j=>by unfold stt;rw[h3]
 have e2:∀j,bts s' j=bts s j:=fun j=>by unfold bts;rw[h2,h4]
 exact ⟨h1,h2,fun j _ _=>⟨e1 j,fun _=>e2 j⟩,fun j a b=>absurd a b,fun j _ _=>e1 j,fun j a b=>absurd a b,fun j _=>e2 j,fun w hw=> .inl (h4▸hw)⟩
theorem CA {i:Nat} {l:List UInt8} {w:Nat × List UInt8} (h:w∈wrs i l 8):w.1/8=i:=by
 obtain ⟨k,hk,rfl⟩:=List.mem_map.1 h
 have:=List.mem_range.1 hk
 simp only
 omega
theorem ef {st:List Nat} {i j z:Nat} (hi:i<st.length):(st.set i z).getD j 0=if j=i then z else st.getD j 0:=by
 rw[List.getD_eq_getElem?_getD,List.getElem?_set]
 by_cases e:i=j
 ·subst e;simp[hi]
 ·rw[if_neg e,if_neg (Ne.symm e),←List.getD_eq_getElem?_getD]
theorem uW {i:Nat} {l:List UInt8} {tk:Option Nat} (h:stt s i=2):Mv s {s with p:=s.p++wrs i l 8,tk:=tk} (fun j=>j=i) (fun j=>j=i) where
 np:=rfl
 d:=rfl
 off j a _:=⟨rfl,fun _=>jT a⟩
 new j a b:=absurd a b
 stay j _ _:=rfl
 gone j a b:=absurd a b
 keep j a:=jT (by rintro rfl;omega)
 pend w hw:=by
  rcases List.mem_append.1 hw with a|a
  ·exact .inl a
  ·right;rw[CA a];omega
theorem CB {k:Nat} {l:List UInt8} {tk:Option Nat} {ws:List W} (h:stt s k=0) (hk:k<s.np) (hl:s.st.length=s.np):Mv s {s with ws:=ws,st:=s.st.set k 2,p:=s.p++wrs k l 8,tk:=tk} (fun _=>False) (fun j=>j=k) where
 np:=rfl
 d:=rfl
 off j _ a:=⟨by show (s.st.set k 2).getD j 0=_;rw[ef ab,if_neg a];rfl,fun _=>jT a⟩
 new j a _:=by subst a;exact ⟨h,by show (s.st.set j 2).getD j 0=_;rw[ef ab,if_pos rfl],hk⟩
 stay j _ a:=a.elim
 gone j a _:=a.elim
 keep j a:=jT (by rintro rfl;omega)
 pend w hw:=by
  rcases List.mem_append.1 hw with a|a
  ·exact .inl a
  ·right;rw[CA a];omega
theorem CC {i:Nat} (h:stt s i=1) (hi:i<s.st.length):Mv s {s with st:=s.st.set i 3} (fun j=>j=i) (fun _=>False) where
 np:=rfl
 d:=rfl
 off j a _:=⟨by show (s.st.set i 3).getD j 0=_;rw[ef hi,if_neg a];rfl,fun _=>rfl⟩
 new j a _:=a.elim
 stay j a _:=a.elim
 gone j a _:= .inl (by subst a;exact ⟨h,by show (s.st.set j 3).getD j 0=_;rw[ef hi,if_pos rfl]⟩)
 keep j _:=rfl
 pend w hw:= .inl hw
theorem Ei {i:Nat} {ws:List W} (h:stt s i=2) (hi:i<s.st.length):Mv s {s with ws:=ws,st:=s.st.set i 0} (fun j=>j=i) (fun _=>False) where
 np:=rfl
 d:=rfl
 off j a _:=⟨by show (s.st.set i 0).getD j 0=_;rw[ef hi,if_neg a];rfl,fun _=>rfl⟩
 new j a _:=a.elim
 stay j a _:=a.elim
 gone j a _:= .inr (by subst a;exact ⟨h,by show (s.st.set j 0).getD j 0=_;rw[ef hi,if_pos rfl]⟩)
 keep j _:=rfl
 pend w hw:= .inl hw
end
def free (s:PgS):Nat:=dL (fun j=>decide (stt s j=0)) s.np
theorem uX {f g:Nat→Bool} {k:Nat}:∀{n:Nat},k<n→(∀j,j≠k→f j=g j)→f k=true→g k=false→dL f n=dL g n+1
 |0,h,_,_,_=>absurd h (Nat.not_lt_zero _)
 |n+1,h,e,a,b=>by
  rw[dL,dL]
  by_cases q:k=n
  ·subst q
   rw[a,b,fV k fun i hi=>e i ab]
   rfl
  ·rw[uX (n:=n) ab e a b,e n (Ne.symm q)]
   omega
theorem ye {f g:Nat→Bool}:∀{n:Nat},(∀j,j<n→f j=true→g j=true)→dL f n≤dL g n
 |0,_=>Nat.le_refl _
 |n+1,h=>by
  rw[dL,dL]
  have h1:=ye (f:=f) (g:=g) (n:=n) fun j hj=>h j ab
  have h2:=h n ab
  cases hf:f n<;>cases hg:g n<;>simp_all<;>omega
theorem rT {s:PgS} (ok:bP s) (h:0<free s):∃k,hM s.ws s.np=some k∧k<s.np∧stt s k=0:=by
 cases hf:hM s.ws s.np with
 |some k=>
  have q:=nj hf
  refine ⟨k,rfl,q.1,?_⟩
  have:=ok.bit k
  rw[q.2,decide_eq_true q.1] at this
  simpa [stt] using this
 |none=>
  have q:=List.find?_range_eq_none.1 hf
  exfalso
  have:free s=0:=by
   unfold free
   refine nY _ fun j hj=>?_
   have b:=q j hj
   have c:=ok.bit j
   rw[decide_eq_true hj] at c
   simp only[Bool.not_eq_true',Bool.not_eq_false] at b
   have b:eI s.ws j=true:=by simpa using b
   rw[b] at c
   simpa [stt] using c.symm
  omega
theorem rU {s s':PgS} {k:Nat} (hn:s'.np=s.np) (hk:k<s.np) (h0:stt s k=0) (h1:stt s' k≠0) (h2:∀j,j≠k→stt s' j=stt s j):free s=free s'+1:=by
 unfold free
 rw[hn]
 exact uX hk (fun j hj=>by rw[h2 j hj]) (by simpa using h0) (by simpa using h1)
theorem rV {s s':PgS} (hn:s'.np=s.np) (h:∀j,stt s j=0↔stt s' j=0):free s'=free s:=by
 unfold free
 rw[hn]
 exact fV _ fun j _=>by simp only[h j]
theorem pf {s:PgS} {i:Nat} {n:Page.Node} {p:List (Nat × List UInt8)} (h:check n=0) (hp:s.p=p++wrs i (bj n) 8):Has s i n:=by
 have e:bj n=bytesOf n:=by unfold bj;rw[if_pos h]
 have hl:=fG h
 obtain ⟨b1,b2⟩:=zU h
 unfold Has
 rw[hp,e,Cq hl]
 unfold lB fF
 rw[if_pos b1,if_pos b1]
 exact ⟨rfl,b2⟩
section
variable {x:PgI} {s:PgS} {T:List Nat} {h:H}
structure Stp (x:PgI) (T:List Nat) (s:PgS) (h:H) (P P':Nat→Prop) (c:Nat) (s':PgS) (h':H):Prop where
 pg:PgH x s' T h'
 ok:bP s'
 mv:Mv s s' P P'
 fr:free s≤free s'+c
 pl:s'.p.length≤s.p.length+8*c
 sm:ct x h h'
 no:aq h h'
 ln:h.n≤h'.n
theorem nC {n:Page.Node} (hc:check n=0):(bj n).length=1024:=by
 have e:bj n=bytesOf n:=by unfold bj;rw[if_pos hc]
 rw[e];exact fG hc
theorem ph (i:Nat) (l:List UInt8):(wrs i l 8).length=8:=by simp[wrs]
theorem yg {tid:Nat} {r:Int} {n:Page.Node} (g:PgH x s T h) (ok:bP s) (ht:h.objs tid=some (trO x r)) (hn:Nb n) (hc:check n=0) (hf:0<free s) (hp:s.p.length<900000):
  aM Tryz.prog 55 [.ptr tid 0,aC n] h fun q h'=>∃s' k,q= .int .i64 (k:Nat)∧Stp x T s h (fun _=>False) (fun j=>j=k) 1 s' h'∧Has s' k n:=by
 obtain ⟨k,hk,k1,k2⟩:=rT ok hf
 have hl:=nC hc
 obtain ⟨q,h',ca,n1,m1,rfl,⟨tk,g2⟩,sm,no⟩:=x9 g ok ht hn hc hl hk hp
 refine ⟨_,h',ca,n1,m1,_,k,rfl,⟨g2,(ok.take k1 ah ah).more (qj hl k1),CB k2 k1 ok.st,?_,?_,sm,no,n1⟩,pf hc rfl⟩
 ·refine Nat.le_of_eq (rU (k:=k) rfl k1 k2 ?_ fun j hj=>?_)
  ·show (s.st.set k 2).getD k 0≠0
   rw[ef (by rw[ok.st];exact k1),if_pos rfl];decide
  ·show (s.st.set k 2).getD j 0=_
   rw[ef (by rw[ok.st];exact k1),if_neg hj];rfl
 ·show (s.p++wrs k (bj n) 8).length≤_
  rw[List.length_append,ph];omega
abbrev Tid (x:PgI) (tid:Nat):Prop:=tid≠x.P∧tid≠x.A∧tid≠x.U∧tid≠x.D∧tid≠x.K∧tid≠x.I
theorem w8 {tid i:Nat} {r:Int} {n:Page.Node} (g:PgH x s T h) (ok:bP s) (ht:h.objs tid=some (trO x r)) (htx:Tid x tid) (hn:Nb n) (hc:check n=0) (hi:i<s.np) (hs:stt s i=1∨stt s i=2) (hf:0<free s) (hp:s.p.length<900000):
  aM Tryz.prog 78 [.ptr tid 0,.int .i64 (i:Int),aC n] h fun q h'=>∃s' k,q= .int .i64 (k:Nat)∧Stp x T s h (fun j=>j=i) (fun j=>j=k) 1 s' h'∧Has s' k n:=by
 have hl:=nC hc
 rcases hs with hs|hs
 ·obtain ⟨k,hk,k1,k2⟩:=rT ok hf
  obtain ⟨q,h',ca,n1,m1,rfl,⟨tk,g2⟩,sm,no⟩:=tf g ok ht htx hn hc hl hi hs hk hp
  have ki:i≠k:=by rintro rfl;omega
  have si:i<s.st.length:=by rw[ok.st];exact hi
  have sk:k<s.st.length:=by rw[ok.st];exact k1
  have o2:=(ok.take k1 (z:=2) ah ah).more (p:=wrs k (bj n) 8) (tk:=tk) (qj hl k1)
  have e2:(s.st.set k 2).getD i 0=1:=by rw[ef sk,if_neg ki];exact hs
  have m2:Mv s {s with ws:=setW s.ws k true,st:=s.st.set k 2,p:=s.p++wrs k (bj n) 8,tk:=tk} (fun j=>False∨j=i) (fun j=>j=k∨j=i):=(CB k2 k1 ok.st).ext (Q:=fun j=>j=i) (fun j _=>id) (fun j hj=>by subst hj;omega)
  have m3:=(CC (s:={s with ws:=setW s.ws k true,st:=s.st.set k 2,p:=s.p++wrs k (bj n) 8,tk:=tk}) (i:=i) e2 (by simpa using si)).ext (Q:=fun j=>j=k) (fun j a b=>ki (b▸a)) (fun j hj=>by
   subst hj
   show (s.st.set j 2).getD j 0≠0
   rw[ef sk,if_pos rfl];decide)
  have mm:=Mv.trans (m2.congr (A:=fun j=>j=i) (A':=fun j=>j=i∨j=k) (fun j=>by simp) (fun j=>Or.comm)) m3
  refine ⟨_,h',ca,n1,m1,_,k,rfl,⟨g2,o2.set hi ah ah (by rw[show ({s with ws:=setW s.ws k true,st:=s.st.set k 2,p:=s.p++wrs k (bj n) 8,tk:=tk}:PgS).st=s.st.set k 2 from rfl,e2];decide),mm.congr (fun j=>Iff.rfl) (fun j=>by simp),?_,?_,sm,no,n1⟩,pf hc rfl⟩
  ·have f1:free s=free {s with ws:=setW s.ws k true,st:=s.st.set k 2,p:=s.p++wrs k (bj n) 8,tk:=tk}+1:=rU (k:=k) rfl k1 k2 (by
    show (s.st.set k 2).getD k 0≠0
    rw[ef sk,if_pos rfl];decide) fun j hj=>by
    show (s.st.set k 2).getD j 0=_
    rw[ef sk,if_neg hj];rfl
   refine Nat.le_of_eq (f1.trans (congrArg (· +1) (Eq.symm (rV (s:={s with ws:=setW s.ws k true,st:=s.st.set k 2,p:=s.p++wrs k (bj n) 8,tk:=tk}) (s':={s with ws:=setW s.ws k true,st:=(s.st.set k 2).set i 3,p:=s.p++wrs k (bj n) 8,tk:=tk}) rfl fun j=>?_))))
   show (s.st.set k 2).getD j 0=0↔((s.st.set k 2).set i 3).getD j 0=0
   rw[ef (st:=s.st.set k 2) (by simpa using si)]
   by_cases e:j=i
   ·subst e;rw[e2,if_pos rfl];decide
   ·rw[if_neg e]
  ·show (s.p++wrs k (bj n) 8).length≤_
   rw[List.length_append,ph];omega
 ·obtain ⟨q,h',ca,n1,m1,rfl,⟨tk,g2⟩,sm,no⟩:=ql g ok ht hn hc hl hi hs hp
  refine ⟨_,h',ca,n1,m1,_,i,rfl,⟨g2,ok.more (qj hl hi),uW hs,Nat.le_succ_of_le (Nat.le_of_eq rfl),?_,sm,no,n1⟩,pf hc rfl⟩
  show (s.p++wrs i (bj n) 8).length≤_
  rw[List.length_append,ph];omega
end
abbrev Res (L:Nat):=Tr L × Option (Bs × Tr L)
def spK {L:Nat}:Option (Bs × Tr L)→Bs
 |none=>[]
 |some q=>q.1
def spP {L:Nat}:Option (Bs × Tr L)→Int
 |none=> -1
 |some q=>(q.2.pg:Nat)
def AA {L:Nat} (o:Option (Bs × Tr L)):AV:= .agg [.str (spK o),.int .i64 (spP o)]
def js {L:Nat} (R:Res L):AV:= .tup [.int .i64 (R.1.pg:Nat),AA R.2]
def more {L:Nat} {α:Type} (f:Tr L→List α):Option (Bs × Tr L)→List α
 |none=>[]
 |some q=>f q.2
def cy (L:Nat) (R:Res L):List Nat:=bp L R.1++more (bp L) R.2
def jt (L:Nat) (R:Res L):List Pr:=aN L R.1++more (aN L) R.2
def qq (L:Nat) (lo:Bs) (hi:Option Bs) (R:Res L):Prop:=
 match R.2 with
 |none=>WF L lo hi R.1
 |some q=>WF L lo (some q.1) R.1∧WF L q.1 hi q.2∧Lt lo q.1∧(∀h,hi=some h→Lt q.1 h)∧q.1.length≤128
def top {L:Nat} (R:Res L) (j:Nat):Prop:=j=R.1.pg∨∃q,R.2=some q∧j=q.2.pg
section
variable {x:PgI} {s:PgS} {T:List Nat} {h:H}
structure Std (L:Nat) (lo:Bs) (hi:Option Bs) (ks:List Bs) (kids:List (Kid L)) (s':PgS) (R:Res L):Prop where
 h1:Has s' R.1.pg (bn L R.1.ks R.1.kids)
 h2:∀q,R.2=some q→Has s' q.2.pg (bn L q.2.ks q.2.kids)∧R.1.pg≠q.2.pg
 wf:qq L lo hi R
 ps:jt L R=mf L ks kids
 kd:R.1.kids++more Nd.kids R.2=kids
 n0:R.2=none→R.1.ks=ks
 nf:∀q,R.2=some q→¬size (bn L ks kids)≤1024
 cn:∀q,R.2=some q→0<L→2≤R.1.kids.length∧2≤q.2.kids.length∧9≤R.1.kids.length+q.2.kids.length
theorem iQ {n:Page.Node} (hr:right n=true) (hz:size n≤1024):check n=0:=by
 unfold check;rw[if_pos hr,if_pos hz]
theorem tp (L:Nat):lim L≤1355:=by unfold lim;split<;>omega
theorem Ej {L tid i:Nat} {r:Int} {lo:Bs} {hi:Option Bs} {ks:List Bs} {kids:List (Kid L)} (g:PgH x s T h) (ok:bP s) (ht:h.objs tid=some (trO x r)) (htx:Tid x tid) (hi':i<s.np) (hs:stt s i=1∨stt s i=2) (hr:right (bn L ks kids)=true) (hz:size (bn L ks kids)≤lim L) (hw:WC L lo hi ks kids) (hf:2≤free s) (hp:s.p.length+16<900000):
  aM Tryz.prog 86 [.ptr tid 0,.int .i64 (i:Int),aC (bn L ks kids)] h fun q h'=>∃s' R,q=js R∧Stp x T s h (fun j=>j=i) (top R) 2 s' h'∧Std L lo hi ks kids s' R:=by
 have hsm:=bG hr (Nat.le_trans hz (tp L))
 by_cases hfit:size (bn L ks kids)≤1024
 ·obtain ⟨q,h',ca,n1,m1,s',k,rfl,g',⟨o1,o2,o3,o4,o5⟩,sm,no⟩:=wV (Q:=fun s' k=>bP s'∧Mv s s' (fun j=>j=i) (fun j=>j=k)∧free s≤free s'+1∧s'.p.length≤s.p.length+8∧Has s' k (bn L ks kids)) g ht hsm.1 hfit fun h1 g1 ht1=>
   (w8 g1 ok ht1 htx hsm.1 (iQ hr hfit) hi' hs ab ab).mono fun q h2 ⟨s',k,e,st,hh⟩=>⟨s',k,e,st.pg,⟨st.ok,st.mv,st.fr,st.pl,hh⟩,st.sm,st.no⟩
  refine ⟨_,h',ca,n1,m1,s',(⟨k,ks,kids⟩,none),rfl,⟨g',o1,o2.congr (fun j=>Iff.rfl) (fun j=>by simp[top]),ab,ab,sm,no,n1⟩,⟨o5,fun q hq=>(by cases hq),⟨hr,hfit,hw⟩,by simp[jt,more,aN],by simp[more],fun _=>rfl,fun q hq=>(by cases hq),fun q hq=>(by cases hq)⟩⟩
 ·obtain ⟨ks1,kids1,key,ks2,kids2,S⟩:=yd hr hfit hz hw
  have q1:=bG S.r1 (by have:=S.z1;omega)
  have q2:=bG S.r2 (by have:=S.z2;omega)
  have el:(split (bn L ks kids)).l=bn L ks1 kids1:=by rw[S.eq]
  have er:(split (bn L ks kids)).r=bn L ks2 kids2:=by rw[S.eq]
  have ek:(split (bn L ks kids)).k=key:=by rw[S.eq]
  obtain ⟨q,h',ca,n1,m1,s1,k,s2,k2,e,⟨o1,o2,o3,o4,o5⟩,g',⟨u1,u2,u3,u4,u5⟩,sm,no⟩:=th (Q:=fun s' k=>bP s'∧Mv s s' (fun j=>j=i) (fun j=>j=k)∧free s≤free s'+1∧s'.p.length≤s.p.length+8∧Has s' k (bn L ks1 kids1))
   (Q2:=fun s1 k s2 k2=>bP s2∧Mv s1 s2 (fun _=>False) (fun j=>j=k2)∧free s1≤free s2+1∧s2.p.length≤s1.p.length+8∧Has s2 k2 (bn L ks2 kids2)) g ht htx hsm.1 hsm.2 hfit (by have:=tp L;omega) (fun h1 g1 ht1=>by
    rw[el]
    exact (w8 g1 ok ht1 htx q1.1 (iQ S.r1 S.z1) hi' hs ab ab).mono fun q h2 ⟨s',k,e,st,hh⟩=>⟨s',k,e,st.pg,⟨st.ok,st.mv,st.fr,st.pl,hh⟩,st.sm,st.no⟩)
   (fun s1 k h1 o g1 ht1=>by
    rw[er]
    obtain ⟨o1,o2,o3,o4,o5⟩:=o
    exact (yg g1 o1 ht1 q2.1 (iQ S.r2 S.z2) ab ab).mono fun q h2 ⟨s',k,e,st,hh⟩=>⟨s',k,e,st.pg,⟨st.ok,st.mv,st.fr,st.pl,hh⟩,st.sm,st.no⟩)
  rw[ek] at e
  subst e
  have hk0:stt s1 k≠0:=by
   by_cases c:k=i
   ·have:=o2.stay k rfl c;subst c;omega
   ·have:=(o2.new k rfl c).2.1;omega
  have hk2:k≠k2:=by
   rintro rfl
   exact hk0 (u2.new k rfl id).1
  have m2:=u2.ext (Q:=fun j=>j=k) (fun j _=>id) (fun j hj=>by subst hj;exact hk0)
  have ap:=u2.apart (Q:=fun j=>j=k) (fun j _=>id) (fun j hj=>by subst hj;exact hk0) k rfl
  have mm:=o2.trans (m2.congr (A:=fun j=>j=k) (A':=fun j=>j=k∨j=k2) (fun j=>by simp) (fun j=>Or.comm))
  refine ⟨_,h',ca,n1,m1,s2,(⟨k,ks1,kids1⟩,some (key,⟨k2,ks2,kids2⟩)),rfl,⟨g',u1,mm.congr (fun j=>Iff.rfl) (fun j=>by simp[top]),ab,ab,sm,no,n1⟩,⟨o5.congr ap.2.2,fun q hq=>(by cases hq;exact ⟨u5,hk2⟩),⟨⟨S.r1,S.z1,S.w1⟩,⟨S.r2,S.z2,S.w2⟩,S.k1,S.k2,S.kl⟩,S.ps,S.kd,fun hq=>(by cases hq),fun q hq=>hfit,fun q hq h0=>(by cases hq;exact S.cn h0)⟩⟩
end
def eS:(L:Nat)→Nat→Tr L→Nat
 |0,j=>fun _=>if j=0 then 1 else 0
 |L+1,j=>fun t:Nd (Tr L)=>if j=L+1 then 1 else (t.kids.map (eS L j)).sum
def exT:(L:Nat)→Nat→Tr L→Nat
 |0,_=>fun _=>0
 |L+1,j=>fun t:Nd (Tr L)=>if j=L+1 then t.kids.length - 5 else (t.kids.map (exT L j)).sum
def ik {L:Nat} (f:Tr L→Nat) (R:Res L):Nat:=f R.1+(match R.2 with|none=>0|some q=>f q.2)
def Pot (L:Nat) (t:Tr L) (R:Res L):Prop:=∃e:Nat→Nat,(∀j,e j≤1)∧(R.2=none→e L=0)∧(∀q,R.2=some q→e L=1)∧(∀j,j≤L→ik (eS L j) R≤eS L j t+e j)∧(∀j,j<L→2*e (j+1)+ik (exT L (j+1)) R≤exT L (j+1) t+e j)
structure CD (L:Nat) (lo:Bs) (hi:Option Bs) (t:Tr L) (ps:List Pr) (s':PgS) (R:Res L):Prop where
 on:On s' L R.1
 on2:∀q,R.2=some q→On s' L q.2
 wf:qq L lo hi R
 ps:jt L R=ps
 nd:(cy L R).Nodup
 pot:Pot L t R
section
variable {x:PgI} {s:PgS} {T:List Nat} {h:H}
theorem Stp.pre {P P':Nat→Prop} {c:Nat} {s':PgS} {h1 h2:H} (st:Stp x T s h1 P P' c s' h2) (sm:ct x h h1) (no:aq h h1) (ln:h.n≤h1.n):Stp x T s h P P' c s' h2:=
 ⟨st.pg,st.ok,st.mv,st.fr,st.pl,sm.trans st.sm ln,aq.trans no st.no ln st.ln,Nat.le_trans ln st.ln⟩
theorem Stp.put {P P':Nat→Prop} {c:Nat} {s':PgS} {h2:H} {j0:Nat} {o p:Av.Obj} (st:Stp x T s h P P' c s' h2) (g:PgH x s T h) (hp:h2.objs j0=some p) (h0:h.n≤j0) (h1:j0<h2.n):Stp x T s h P P' c s' {h2 with objs:=upd h2.objs j0 (some o)}:=by
 have lt:=g.lt
 refine ⟨st.pg.other h1 ab,st.ok,st.mv,st.fr,st.pl,fun j hj a1 a2 a3 a4 a5 a6=>?_,aq.trans st.no (aq.set hp) st.ln (Nat.le_refl _),st.ln⟩
 have e:(upd h2.objs j0 (some o):Nat→Option Av.Obj) j=h2.objs j:=by simp only[upd];rw[if_neg ab]
 exact e.trans (st.sm j hj a1 a2 a3 a4 a5 a6)
theorem uH {tid d:Nat} {r:Int} {lo:Bs} {hi:Option Bs} {i:Nat} {ks vs:List Bs} {key val:Bs} (g:PgH x s T h) (ok:bP s) (ht:h.objs tid=some (trO x r)) (htx:Tid x tid) (hi':i<s.np) (hs:stt s i=1∨stt s i=2) (hH:Has s i (aA ks vs)) (hr:right (aA ks vs)=true) (hz:size (aA ks vs)≤1024)
  (hw:∀k∈ks,inB lo hi k) (hkb:inB lo hi key) (hk:key.length≤128) (hv:val.length≤200) (hd:d≤20) (hf:2≤free s) (hp:s.p.length+16<900000):
  aM Tryz.prog 56 [.ptr tid 0,.int .i64 (i:Int),.int .i64 (d:Int),.str key,.str val] h fun q h'=>∃s' R,q=js R∧Stp x T s h (fun j=>j=i) (top R) 2 s' h'∧CD 0 lo hi ⟨i,ks,vs⟩ (fy (List.zipWith Pr.mk ks vs) key val) s' R:=by
 refine f56.cq af ?_
 unfold c56 zz
 have hlt:tid<h.n:=by
  rcases Nat.lt_or_ge tid h.n with q|q
  ·exact q
  ·rw[g.fresh _ q] at ht;cases ht
 obtain ⟨ks',vs',p1,p2,p3,p4,p5,p6,p7⟩:=uU (val:=val) hr hk hv
 have hsm:=bG (L:=0) hr (by have:size (aA ks vs)≤1024:=hz;show size (aA ks vs)≤1355;omega)
 have cp:=EJ (aA ks vs) hsm.1 hsm.2 key val (by unfold Ls;omega)
 rw[p1,p2] at cp
 have hsm':=bG (L:=0) (ks:=ks') (kids:=vs') p3 (by show size (aA ks' vs')≤1355;omega)
 have ht1:=(aH (o:= .cells [.str [],.int .i64 0]) hlt).trans ht
 have hn1:=bV (h:=h) (o:= .cells [.str [],.int .i64 0])
 have g1:=g.new (.cells [.str [],.int .i64 0])
 have k1:Kept h (H.new h (.cells [.str [],.int .i64 0])):=fun j hj=>aH hj
 have no1:=bC (h:=h) (o:= .cells [.str [],.int .i64 0])
 have ln:(H.new h (.cells [.str [],.int .i64 0])).n=h.n+1:=rfl
 refine rf0 @and_self ?_
 change an _ _ _ _ (H.new h (.cells [.str [],.int .i64 0])) _
 generalize H.new h (.cells [.str [],.int .i64 0])=h1 at*
 have hnd:=iP g1 ok ht1 hi' (by show stt s i≠0;omega) ab hd hH.1
 rw[hH.2] at hnd
 refine an.aY (vals:=[.ptr tid 0,.int .i64 (i:Int),.int .i64 (d:Int)]) ae xA4 hnd fun q h2 ⟨hq,g2,k2,no2⟩ n2 _=>?_
 subst hq
 have ht2:=(k2 tid ab).trans ht1
 have hn2:=(k2 h.n ab).trans hn1
 have g3:=(g2.new (az (aA ks vs))).new (az (aA ks' vs'))
 have ln3:(H.new (H.new h2 (az (aA ks vs))) (az (aA ks' vs'))).n=h2.n+1+1:=rfl
 have ht3:(H.new (H.new h2 (az (aA ks vs))) (az (aA ks' vs'))).objs tid=some (trO x r):=(aH (Nat.lt_succ_of_lt ab)).trans ((aH ab).trans ht2)
 have hn3:(H.new (H.new h2 (az (aA ks vs))) (az (aA ks' vs'))).objs h.n=some (.cells [.str [],.int .i64 0]):=(aH (Nat.lt_succ_of_lt ab)).trans ((aH ab).trans hn2)
 have sm3:ct x h (H.new (H.new h2 (az (aA ks vs))) (az (aA ks' vs'))):=((dA k1).trans (dA k2) ab).trans (bK.trans bK (Nat.le_succ _)) ab
 have no3:aq h (H.new (H.new h2 (az (aA ks vs))) (az (aA ks' vs'))):=aq.trans (aq.trans no1 no2 ab ab) (aq.trans bC bC (Nat.le_succ _) (Nat.le_succ _)) ab ab
 have nn3:=bV (h:=H.new h2 (az (aA ks vs))) (o:=az (aA ks' vs'))
 unfold aC at cp
 unfold aC
 refine an.evF xAc ?_
 rw[bg]
 refine an.nil ?_
 refine rf1 @and_self cp ?_
 rw[bg]
 refine an.cx xA2 xAb (by exact ⟨Nat.le_refl _,Nat.le_refl _⟩) (dN) ?_
 refine an.nil ?_
 refine Wp.le (s':=⟨tm [(0,.ptr tid 0),(1,.int .i64 i),(11,.ptr h.n 0),(13,.ptr (h2.n+1) 0)],H.new (H.new h2 (az (aA ks vs))) (az (aA ks' vs'))⟩) (aK.of (bL ?_) (OLe.refl _) (fun y hy=>hy) (Nat.le_refl _) (Nat.le_refl _)) ?_
 ·exact xSb
 have nn3:(H.new (H.new h2 (az (aA ks vs))) (az (aA ks' vs'))).objs (h2.n+1)=some (az (aA ks' vs')):=nn3
 generalize H.new (H.new h2 (az (aA ks vs))) (az (aA ks' vs'))=h3 at*
 unfold az at nn3
 refine rf0 nn3 ?_
 have hst:=Ej (L:=0) (lo:=lo) (hi:=hi) (ks:=ks') (kids:=vs') g3 ok ht3 htx hi' hs p3 (by show size (aA ks' vs')≤1355;omega) ⟨p5,fun k hk'=>by
  rcases p6 k hk' with rfl|q
  ·exact hkb
  ·exact hw k q⟩ hf hp
 have lt:=g.lt
 refine an.aY (vals:=[.ptr tid 0,.int .i64 (i:Int),aC (aA ks' vs')]) ae xA4 hst fun q h4 ⟨s',R,hq,st,sd⟩ n4 _=>?_
 subst hq
 have hn4:h4.objs h.n=some (.cells [.str [],.int .i64 0]):=(st.sm _ ab ab ab ab ab ab ab).trans hn3
 unfold js AA
 refine an.evF (xAd hn4) ?_
 refine an.nil ?_
 refine Wp.ret ?_
 refine ⟨trivial,.tup [.int .i64 (R.1.pg:Nat),.agg [.str (spK R.2),.int .i64 (spP R.2)]],?_,s',R,rfl,(st.pre sm3 no3 ab).put g hn4 (Nat.le_refl _) ab,?_⟩
 ·have e2:cJ [RV.tmp 10,RV.cell 11 (some 2)] (tm [(10,.int .i64 (R.1.pg:Nat)),(11,.ptr h.n 0)]) ⟨upd h4.objs h.n (some (.cells [.str (spK R.2),.int .i64 (spP R.2)])),h4.n,h4.toks,h4.m⟩=some (.tup [.int .i64 (R.1.pg:Nat),.agg [.str (spK R.2),.int .i64 (spP R.2)]]):=by
   simp[cJ,rvs,rv,tm,upd,Av.part,shaped,aP]
  exact e2
 ·obtain ⟨t1,o⟩:=R
  refine ⟨⟨sd.h1,trivial⟩,fun q hq=>⟨(sd.h2 q hq).1,trivial⟩,sd.wf,sd.ps.trans p7,?_,?_⟩
  ·cases o with
   |none=>show [t1.pg].Nodup;simp
   |some q=>
    have:=(sd.h2 q rfl).2
    show [t1.pg,q.2.pg].Nodup
    simpa using this
  ·refine ⟨fun j=>if j=0∧o.isSome then 1 else 0,fun j=>by simp only;split<;>omega,fun hn=>by simp only at hn;subst hn;rfl,fun q hq=>by simp only at hq;subst hq;rfl,fun j hj=>?_,fun j hj=>absurd hj (Nat.not_lt_zero _)⟩
   obtain rfl:j=0:=by omega
   cases o<;>simp[ik,eS]
end
def rk {L:Nat} (o:Option (Bs × Tr L)):List Bs:=match o with|none=>[]|some q=>[q.1]
def rt {L:Nat} (R:Res L):List (Tr L):=R.1::(match R.2 with|none=>[]|some q=>[q.2])
def nks {L:Nat} (ks:List Bs) (j:Nat) (R:Res L):List Bs:=ks.take j++(rk R.2++ks.drop j)
def nus {L:Nat} (us:List (Tr L)) (j:Nat) (R:Res L):List (Tr L):=us.take j++(rt R++us.drop (j+1))
def bQ {L:Nat} (us:List (Tr L)):List Int:=us.map fun u=>((u.pg:Nat):Int)
theorem yh {L:Nat} {us:List (Tr L)} {j:Nat} {R:Res L} (h:R.2=none):(bQ us).take j++((R.1.pg:Nat):Int)::(bQ us).drop (j+1)=bQ (nus us j R):=by
 unfold nus rt
 rw[h]
 simp[bQ]
theorem Ek {L:Nat} {us:List (Tr L)} {j:Nat} {R:Res L} {q:Bs × Tr L} (h:R.2=some q) (hj:j<us.length):
  (((bQ us).take j++((R.1.pg:Nat):Int)::(bQ us).drop (j+1)).take (j+1)++((q.2.pg:Nat):Int)::((bQ us).take j++((R.1.pg:Nat):Int)::(bQ us).drop (j+1)).drop (j+1))=bQ (nus us j R):=by
 unfold nus rt
 rw[h]
 have e:((bQ us).take j).length=j:=by simp[bQ];omega
 have e1:((bQ us).take j++((R.1.pg:Nat):Int)::(bQ us).drop (j+1)).take (j+1)=(bQ us).take j++[((R.1.pg:Nat):Int)]:=by
  rw[List.take_append,e,List.take_of_length_le ab,show j+1 - j=1 by omega]
  simp
 have e2:((bQ us).take j++((R.1.pg:Nat):Int)::(bQ us).drop (j+1)).drop (j+1)=(bQ us).drop (j+1):=by
  rw[List.drop_append,e,List.drop_eq_nil_of_le ab,show j+1 - j=1 by omega]
  simp
 rw[e1,e2]
 simp[bQ]
section
variable {x:PgI} {s:PgS} {T:List Nat} {h:H}
theorem ew (g:PgH x s T h) {j:Nat} (hj:h.n≤j):Tid x j:=by
 have lt:=g.lt
 refine ⟨?_,?_,?_,?_,?_,?_⟩ <;>omega
theorem cH {h':H} (sm:ct x h h') {j:Nat} (hj:j<h.n) (a:Tid x j):h'.objs j=h.objs j:=sm j hj a.1 a.2.1 a.2.2.1 a.2.2.2.1 a.2.2.2.2.1 a.2.2.2.2.2
theorem dC.same {h':H} {n0 c:Nat} {K:AV} {xs:List AV} (r:dC h n0 K xs c) (sm:ct x h h') (hn:h.n≤h'.n) (ht:∀j,n0≤j→Tid x j):dC h' n0 K xs c:=
 r.keep hn (fun j a b _=>cH sm b (ht j a)) (fun a _ h=>h)
theorem CE {L:Nat} {ks:List Bs} {us:List (Tr L)} {K:AV} {n0 c:Nat} (rK:dC h n0 K (strs ks) c) (oc:h.objs c=some (.cells (ints (bQ us)))) {rest:List AV}:
  au (gP h (fun _=>true) [.agg [.bool false,K,.sl 1 [] (.exact 0),.tsl 1 c 0 us.length none]]) [aC (av L ks us)]:=by
 have hk2:us.length=(ints (bQ us)).length:=by simp[ints,bQ]
 have hT:ay (unT h (fun _=>true) (.tsl 1 c 0 us.length none)) (.sl 1 (ints (bQ us)) .any):=by
  rw[hk2];exact Ct oc
 unfold aC av
 simp only[gP]
 refine au.cons ?_ au.nil
 simp only[unT,gP]
 simp only[unT] at hT
 exact ay.agg (au.cons (ay.refl _) (au.cons rK.un (au.cons ay.cap (au.cons hT au.nil))))
theorem CF {L:Nat} {ks:List Bs} {us:List (Tr L)} {K:AV} {n0 c:Nat} {key:Bs} (rK:dC h n0 K (strs ks) c) (oc:h.objs c=some (.cells (ints (bQ us)))) (hr:right (av L ks us)=true) (hn:Nb (av L ks us)):
  aI Tryz.prog 42 [.agg [.bool false,K,.sl 1 [] (.exact 0),.tsl 1 c 0 us.length none],.str key] h (.tup [.int .i64 (place (av L ks us) key:Nat),.bool false]) h:=by
 have f:=nQ (av L ks us) hn key
 have e1:dR (av L ks us) key=place (av L ks us) key:=by unfold dR;rw[if_pos hr]
 have e2:bE (av L ks us) key=false:=by unfold bE found;simp[av]
 rw[e1,e2] at f
 refine bc.EI f ?_ (fun _ _ _ _ h=>by simpa [aw,aD] using h)
 have:=CE (rest:=[]) rK oc
 simp only[gP] at this ⊢
 exact au.cons (by
  intro G w v hv
  have:=this G w [v] (by simp only[aD];exact ⟨v,[],rfl,hv,rfl⟩)
  simp only[aD] at this
  obtain ⟨v',us',e,h1,-⟩:=this
  have:v=v':=by simpa using (List.cons.inj e).1
  rw[this];exact h1) (au.cons (by simp only[unT];exact ay.refl _) au.nil)
theorem PgH.at {h':H} (g:PgH x s T h) (q:∀j,¬Tid x j→h'.objs j=h.objs j) (hn:h.n≤h'.n) (hf:∀j,h'.n≤j→h'.objs j=none) (ht:h'.toks=h.toks) (hm:h.m≤h'.m):PgH x s T h' where
 oP:=(q _ (by simp[Tid])).trans g.oP
 oA:=(q _ (by simp[Tid])).trans g.oA
 oU:=(q _ (by simp[Tid])).trans g.oU
 oD:=(q _ (by simp[Tid])).trans g.oD
 oK:=(q _ (by simp[Tid])).trans g.oK
 oI:=(q _ (by simp[Tid])).trans g.oI
 lt:=by have:=g.lt;omega
 ne:=g.ne
 fresh:=hf
 toks:=ht.trans g.toks
 tm:=fun t h=>Nat.lt_of_lt_of_le (g.tm t h) hm
 tkm:=fun t h=>⟨Nat.lt_of_lt_of_le (g.tkm t h).1 hm,(g.tkm t h).2⟩
 tk0:=g.tk0
theorem dC.unD {n0 c:Nat} {K:AV} {xs:List AV} {d:Nat→Bool} (r:dC h n0 K xs c) (hd:∀a l c',K= .tsl 1 a 0 l c'→d a=true):ay (unT h d K) (.sl 1 xs .any):=by
 rcases r with ⟨rfl,rfl⟩|⟨a,rfl,r2,-⟩
 ·simp only[unT];exact ay.cap
 ·simp[unT,r2,hd a _ _ rfl];exact ay.refl _
theorem yi {c:Nat} {xs:List AV} {d:Nat→Bool} (r2:h.objs c=some (.cells xs)) (hd:d c=true):ay (unT h d (.tsl 1 c 0 xs.length none)) (.sl 1 xs .any):=by
 simp[unT,r2,hd];exact ay.refl _
structure Ndy (x:PgI) (T:List Nat) (s1:PgS) (h:H) (tid:Nat) (r:Int) (d:Nat→Bool) (nid:Nat) (ks:List Bs) (is:List Int) (b:H × AV × AV):Prop where
 ob:b.1.objs nid=some (.cells [.bool false,b.2.1,.sl 1 [] (.exact 0),b.2.2])
 c1:aP b.2.1=true
 c2:aP b.2.2=true
 v1:ay (unT b.1 d b.2.1) (.sl 1 (strs ks) .any)
 v2:ay (unT b.1 d b.2.2) (.sl 1 (ints is) .any)
 pg:PgH x s1 T b.1
 ot:b.1.objs tid=some (trO x r)
 sm:ct x h b.1
 no:aq h b.1
 ln:nid<b.1.n
 l0:h.n≤b.1.n
theorem Ndy.go {s1:PgS} {tid nid:Nat} {r:Int} {d:Nat→Bool} {ks:List Bs} {is:List Int} {b:H × AV × AV} (o:Ndy x T s1 h tid r d nid ks is b) (g:PgH x s T h) (hd:∀k,d k=true→h.n≤k∧k<nid) (ht:tid<h.n) (hn:h.n≤nid) {l:List (Nat × AV)} (hl:ba (fun i=>unT b.1 d (tm l i)) l) {t:Tm} (hs:ba t l):
  ∃h8:H,aK ⟨t,b.1⟩ ⟨tm l,h8⟩∧h8.objs nid=some (az ⟨false,ks,[],is⟩)∧PgH x s1 T h8∧h8.objs tid=some (trO x r)∧ct x h h8∧aq h h8∧h8.n=b.1.n∧(∀j,d j=false→j≠nid→h8.objs j=b.1.objs j):=by
 have hdn:d nid=false:=by
  cases e:d nid with
  |false=>rfl
  |true=>have:=hd _ e;omega
 have hdl:∀j,j<h.n→d j=false:=fun j hj=>by
  cases e:d j with
  |false=>rfl
  |true=>have:=hd _ e;omega
 have q:∀j,d j=false→j≠nid→(upd (b.1.drop d).objs nid (some (az ⟨false,ks,[],is⟩)):Nat→Option Av.Obj) j=b.1.objs j:=fun j h1 h2=>by
  simp only[upd];rw[if_neg h2];simp[H.drop,h1]
 refine ⟨{b.1.drop d with objs:=upd (b.1.drop d).objs nid (some (az ⟨false,ks,[],is⟩))},?_,by simp[upd],?_,(q tid (hdl _ ht) ab).trans o.ot,fun j hj a1 a2 a3 a4 a5 a6=>(q j (hdl j hj) ab).trans (o.sm j hj a1 a2 a3 a4 a5 a6),fun j hj=>?_,rfl,q⟩
 ·refine aK.trans (aK.tm hs) (aK.trans (aK.Hm _ _ d nid hdn o.ob) (aK.of ?_ ?_ (fun y hy=>hy) (Nat.le_refl _) (Nat.le_refl _)))
  ·exact bL hl
  ·refine OLe.upd (OLe.refl _) ?_
   simp only[ed,gP]
   exact au.cons (by simp only[unT];exact ay.refl _) (au.cons o.v1 (au.cons (by simp only[unT];exact ay.cap) (au.cons o.v2 au.nil)))
 ·refine o.pg.at (fun j hj=>?_) (Nat.le_refl _) (fun j hj=>?_) rfl (Nat.le_refl _)
  ·have lt:=g.lt
   have hj2:j<h.n:=by
    rcases Nat.lt_or_ge j h.n with e|e
    ·exact e
    ·exact absurd (ew g e) hj
   exact q j (hdl j hj2) ab
  ·have hj:b.1.n≤j:=hj
   have ln:=o.ln
   show (upd (b.1.drop d).objs nid (some (az ⟨false,ks,[],is⟩)):Nat→Option Av.Obj) j=none
   simp only[upd];rw[if_neg ab]
   simp only[H.drop]
   split
   ·rfl
   ·exact o.pg.fresh j hj
 ·have hj:((upd (b.1.drop d).objs nid (some (az ⟨false,ks,[],is⟩)):Nat→Option Av.Obj) j).isSome=true:=hj
  by_cases e:j=nid
  ·right;exact ⟨ab,by rw[e];exact o.ln⟩
  ·simp only[upd] at hj
   rw[if_neg e] at hj
   simp only[H.drop] at hj
   split at hj
   ·cases hj
   ·exact o.no j hj
end
theorem gr {L:Nat} {ks:List Bs} {us:List (Tr L)} {key:Bs} (h:right (av L ks us)=true):(∀k∈ks.take (place (av L ks us) key),Le k key)∧(∀k∈ks.drop (place (av L ks us) key),Lt key k)∧place (av L ks us) key≤ks.length:=by
 obtain ⟨r1,-⟩:=(cO (n:=av L ks us) rfl).1 h
 have r1:mW ks:=r1
 have hp:place (av L ks us) key=ks.findIdx (iH key):=ux rfl key
 rw[hp]
 refine ⟨fun k hk=>?_,fun k hk=>?_,List.findIdx_le_length⟩
 ·obtain ⟨j,h1,h2,rfl⟩:=kz hk
  rcases BW (jQ h1) with e|e
  ·exact lD e
  ·rw[e];exact le_rfl
 ·obtain ⟨j,h1,h2,rfl⟩:=iI hk
  exact zS (pT (pU ((gV ks).2 r1) key) h1 h2)
theorem rW {L:Nat} {lo:Bs} {hi:Option Bs} {R:Res L} (h:qq L lo hi R):bH (WF L) lo hi (rk R.2) (rt R):=by
 unfold qq at h
 unfold rk rt
 cases hR:R.2 with
 |none=>rw[hR] at h;exact h
 |some q=>rw[hR] at h;exact ⟨h.1,h.2.1⟩
theorem El {L:Nat} {α:Type} (f:Tr L→List α) (R:Res L):((rt R).map f).flatten=f R.1++more f R.2:=by
 unfold rt more
 cases R.2<;>simp
theorem uY {L:Nat} {α:Type} (f:Tr L→List α) (us:List (Tr L)) (j:Nat) (R:Res L):((nus us j R).map f).flatten=((us.take j).map f).flatten++((f R.1++more f R.2)++((us.drop (j+1)).map f).flatten):=by
 unfold nus
 rw[List.map_append,List.flatten_append,List.map_append,List.flatten_append,El]
theorem od {L:Nat} {lo:Bs} {hi:Option Bs} {ks:List Bs} {us:List (Tr L)} {j:Nat} {R:Res L} (hw:bH (WF L) lo hi ks us) (hr:right (av L ks us)=true) (hz:size (av L ks us)≤1024) (hj:j≤ks.length) (hR:qq L (dM lo ks j) (eR hi ks j) R) (hp:∀u∈us,u.pg<16384) (hp2:∀u∈rt R,u.pg<16384):
  bH (WF L) lo hi (nks ks j R) (nus us j R)∧right (av L (nks ks j R) (nus us j R))=true∧size (av L (nks ks j R) (nus us j R))≤1157∧(R.2=none→size (av L (nks ks j R) (nus us j R))≤1024):=by
 obtain ⟨u,-,-,hc⟩:=hw.at hj
 have c:=hc _ _ (rW hR)
 have hk128:∀q,R.2=some q→q.1.length≤128:=fun q hq=>by
  unfold qq at hR
  rw[hq] at hR
  exact hR.2.2.2.2
 obtain ⟨r1,-⟩:=(cO (n:=av L ks us) rfl).1 hr
 have r1:mW ks:=r1
 refine ⟨c,ig c (fun k hk=>?_) (fun v hv=>?_),?_,fun hn=>?_⟩
 ·unfold nks rk at hk
  simp only[List.mem_append] at hk
  rcases hk with hk|hk|hk
  ·exact r1.1 k (List.mem_of_mem_take hk)
  ·cases hq:R.2 with
   |none=>rw[hq] at hk;simp at hk
   |some q=>
    rw[hq] at hk
    simp only[List.mem_singleton] at hk
    subst hk
    exact hk128 q hq
  ·exact r1.1 k (List.mem_of_mem_drop hk)
 ·unfold nus at hv
  simp only[List.mem_append] at hv
  rcases hv with hv|hv|hv
  ·exact hp v (List.mem_of_mem_take hv)
  ·exact hp2 v hv
  ·exact hp v (List.mem_of_mem_drop hv)
 ·have e:size (av L (nks ks j R) (nus us j R))=7+5*(nks ks j R).length+tot (nks ks j R):=rfl
  have e0:size (av L ks us)=7+5*ks.length+tot ks:=rfl
  have e1:=fw ks j
  rw[e]
  unfold nks rk
  cases hq:R.2 with
  |none=>
   simp only[List.nil_append]
   rw[List.take_append_drop];omega
  |some q=>
   have:=hk128 q hq
   simp only[fm,List.length_append,List.length_take,List.length_drop,List.length_singleton]
   have e2:tot [q.1]=q.1.length:=by simp[tot]
   rw[e2]
   omega
 ·have e:size (av L (nks ks j R) (nus us j R))=7+5*(nks ks j R).length+tot (nks ks j R):=rfl
  have e0:size (av L ks us)=7+5*ks.length+tot ks:=rfl
  have e2:nks ks j R=ks:=by unfold nks rk;rw[hn];simp
  rw[e,e2,←e0];exact hz
theorem CG {α:Type} (f:α→Nat) {us:List α} {j:Nat} {u:α} (h:us[j]? =some u) (vs:List α):((us.take j++(vs++us.drop (j+1))).map f).sum+f u=(us.map f).sum+(vs.map f).sum:=by
 obtain ⟨hj,rfl⟩:=List.getElem?_eq_some_iff.1 h
 have e:us=us.take j++us[j]::us.drop (j+1):=by rw[←List.drop_eq_getElem_cons hj,List.take_append_drop]
 have e2:(us.map f).sum=((us.take j).map f).sum+(f us[j]+((us.drop (j+1)).map f).sum):=by
  conv=>lhs;rw[e]
  rw[List.map_append,List.sum_append,List.map_cons,List.sum_cons]
 rw[e2,List.map_append,List.sum_append,List.map_append,List.sum_append]
 omega
theorem FD {L:Nat} (f:Tr L→Nat) (R:Res L):((rt R).map f).sum=ik f R:=by
 unfold rt ik
 cases R.2<;>simp
theorem yj {L:Nat} (f:Tr L→Nat) {us:List (Tr L)} {j:Nat} {u:Tr L} (h:us[j]? =some u) (R:Res L):((nus us j R).map f).sum+f u=(us.map f).sum+ik f R:=by
 unfold nus
 rw[CG f h,FD]
theorem fj {L j:Nat} (t:Tr (L+1)):eS (L+1) j t=if j=L+1 then 1 else ((t.kids:List (Tr L)).map (eS L j)).sum:=rfl
theorem fY {L j:Nat} (t:Tr (L+1)):exT (L+1) j t=if j=L+1 then (t.kids:List (Tr L)).length - 5 else ((t.kids:List (Tr L)).map (exT L j)).sum:=rfl
theorem Em {α:Type} (a b:List α):(a++b).length=a.length+b.length:=by simp
theorem uZ {α:Type} (f:α→Nat) (a b:List α):((a++b).map f).sum=(a.map f).sum+(b.map f).sum:=by simp
theorem rX {L:Nat} (f:Tr L→Nat) {R2:Res (L+1)} {us:List (Tr L)} (h:R2.1.kids++more Nd.kids R2.2=us):ik (fun t:Tr (L+1)=>((t.kids:List (Tr L)).map f).sum) R2=(us.map f).sum:=by
 rw[←h]
 obtain ⟨t1,o⟩:=R2
 cases o with
 |none=>simp[ik,more]
 |some q=>
  exact (uZ f (α:=Tr L) t1.kids q.2.kids).symm
theorem CH {L:Nat} {ks:List Bs} {us:List (Tr L)} {i j:Nat} {u:Tr L} {R:Res L} {R2:Res (L+1)} (hu:us[j]? =some u) (hp:Pot L u R) (hk:R2.1.kids++more Nd.kids R2.2=nus us j R)
  (hc:∀q,R2.2=some q→R.2≠none∧2≤R2.1.kids.length∧2≤q.2.kids.length∧9≤R2.1.kids.length+q.2.kids.length):Pot (L+1) ⟨i,ks,us⟩ R2:=by
 obtain ⟨e,p0,p1,p2,p3,p4⟩:=hp
 have hju:j<us.length:=(List.getElem?_eq_some_iff.1 hu).1
 have hlen:(nus us j R).length=us.length+e L:=by
  unfold nus rt
  cases hR:R.2 with
  |none=>rw[p1 hR];simp;omega
  |some q=>rw[p2 q hR];simp;omega
 refine ⟨fun k=>if k=L+1 then (if R2.2.isSome then 1 else 0) else e k,fun k=>?_,fun hn=>?_,fun q hq=>?_,fun k hk'=>?_,fun k hk'=>?_⟩
 ·simp only
  split
  ·split<;>omega
  ·exact p0 k
 ·simp[hn]
 ·simp[hq]
 ·by_cases ek:k=L+1
  ·subst ek
   simp only[if_true]
   have:ik (eS (L+1) (L+1)) R2=1+(if R2.2.isSome then 1 else 0):=by
    obtain ⟨t1,o⟩:=R2
    cases o<;>simp[ik,fj]
   rw[this,fj]
   simp
  ·have e1:ik (eS (L+1) k) R2=ik (fun t:Tr (L+1)=>((t.kids:List (Tr L)).map (eS L k)).sum) R2:=by
    obtain ⟨t1,o⟩:=R2
    cases o<;>simp[ik,fj,ek]
   rw[e1,rX _ hk,fj]
   simp only[ek,if_false]
   have:=yj (eS L k) hu R
   have:=p3 k ab
   omega
 ·have h1:¬(k=L+1):=by omega
  simp only[h1,if_false]
  by_cases ek:k+1=L+1
  ·obtain rfl:k=L:=by omega
   simp only[if_true]
   have hl:R2.1.kids.length+(match R2.2 with|none=>0|some q=>q.2.kids.length)=us.length+e k:=by
    rw[←hlen,←hk]
    obtain ⟨t1,o⟩:=R2
    cases o with
    |none=>exact (congrArg (@List.length (Tr k)) (List.append_nil (α:=Tr k) t1.kids)).symm
    |some q=>exact (Em (α:=Tr k) t1.kids q.2.kids).symm
   have p0k:=p0 k
   rw[fY]
   simp only[if_true]
   obtain ⟨t1,o⟩:=R2
   cases o with
   |none=>
    simp only[ik,fY,if_true,Option.isSome_none,Bool.false_eq_true,if_false]
    have hl: @List.length (Kid (k+1)) t1.kids=us.length+e k:=hl
    show 2*0+(@List.length (Kid (k+1)) t1.kids - 5+0)≤us.length - 5+e k
    omega
   |some q=>
    obtain ⟨c1,c2,c3,c4⟩:=hc q rfl
    have ek1:e k=1:=by
     cases hR:R.2 with
     |none=>exact absurd hR c1
     |some q'=>exact p2 q' hR
    simp only[ik,fY,if_true,Option.isSome_some]
    have hl: @List.length (Kid (k+1)) t1.kids+ @List.length (Kid (k+1)) q.2.kids=us.length+e k:=hl
    have c2:2≤ @List.length (Kid (k+1)) t1.kids:=c2
    have c3:2≤ @List.length (Kid (k+1)) q.2.kids:=c3
    have c4:9≤ @List.length (Kid (k+1)) t1.kids+ @List.length (Kid (k+1)) q.2.kids:=c4
    show 2*1+(@List.length (Kid (k+1)) t1.kids - 5+(@List.length (Kid (k+1)) q.2.kids - 5))≤us.length - 5+e k
    omega
  ·have h2:¬(k+1=L+1):=ek
   have e1:ik (exT (L+1) (k+1)) R2=ik (fun t:Tr (L+1)=>((t.kids:List (Tr L)).map (exT L (k+1))).sum) R2:=by
    obtain ⟨t1,o⟩:=R2
    cases o<;>simp only[ik,fY,h2,if_false]
   rw[e1,rX _ hk,fY]
   simp only[h2,if_false]
   have:=yj (exT L (k+1)) hu R
   have:=p4 k ab
   omega
structure Live (s:PgS) (L:Nat) (lo:Bs) (hi:Option Bs) (t:Tr L):Prop where
 on:On s L t
 wf:WF L lo hi t
 nd:(bp L t).Nodup
 st:∀j∈bp L t,(stt s j=1∨stt s j=2)∧j<s.np
theorem CI {L:Nat} {R:Res L} {u:Tr L} (h:u∈rt R):u.pg∈cy L R:=by
 unfold rt at h
 unfold cy more
 obtain ⟨t1,o⟩:=R
 cases o with
 |none=>
  simp only[List.mem_singleton] at h
  subst h
  simp[bp]
 |some q=>
  simp only[List.mem_cons,List.not_mem_nil,or_false] at h
  rcases h with rfl|rfl
  ·simp[bp]
  ·simp[bp]
theorem FE {s:PgS} {L:Nat} {lo:Bs} {hi:Option Bs} {t:Tr L} {ps:List Pr} {R:Res L} (h:CD L lo hi t ps s R):∀u∈rt R,On s L u:=by
 intro u hu
 unfold rt at hu
 have h1:=h.on
 have h2:=h.on2
 obtain ⟨t1,o⟩:=R
 cases o with
 |none=>simp only[List.mem_singleton] at hu;subst hu;exact h1
 |some q=>
  simp only[List.mem_cons,List.not_mem_nil,or_false] at hu
  rcases hu with rfl|rfl
  ·exact h1
  ·exact h2 q rfl
def mkT (L:Nat) (i:Nat) (ks:List Bs) (us:List (Tr L)):Tr (L+1):=Nd.mk (α:=Kid (L+1)) i ks us
theorem gK {L:Nat} {i:Nat} {ks:List Bs} {us:List (Tr L)} {k:Nat} {u:Tr L} (hu:us[k]? =some u):bp (L+1) (mkT L i ks us)=i::(((us.take k).map (bp L)).flatten++(bp L u++((us.drop (k+1)).map (bp L)).flatten)):=by
 show i::bf (L+1) us=_
 rw[eJ,nz hu]
theorem En {L:Nat} {us:List (Tr L)} {k:Nat} {R:Res L}:bf (L+1) (nus us k R)=((us.take k).map (bp L)).flatten++(cy L R++((us.drop (k+1)).map (bp L)).flatten):=by
 rw[eJ,uY];rfl
theorem gu {L:Nat} {us:List (Tr L)} {u:Tr L} (h:u∈us):∀j∈bp L u,j∈(us.map (bp L)).flatten:=fun j hj=>List.mem_flatten.2 ⟨_,List.mem_map.2 ⟨u,h,rfl⟩,hj⟩
structure Mid (s s1:PgS) (i:Nat) (A C P P':List Nat):Prop where
 mv:Mv s s1 (fun j=>j∈i::(A++(P++C))) (fun j=>j∈i::(A++(P'++C)))
 nd:(i::(A++(P'++C))).Nodup
 bt:∀j,j=i∨j∈A∨j∈C→stt s1 j=stt s j∧bts s1 j=bts s j
 st:∀j∈i::(A++(P'++C)),(stt s1 j=1∨stt s1 j=2)∧j<s.np
theorem oe {s s1:PgS} {i:Nat} {A C P P':List Nat} (m:Mv s s1 (fun j=>j∈P) (fun j=>j∈P')) (hn:(i::(A++(P++C))).Nodup) (hr:P'.Nodup) (hs:∀j∈i::(A++(P++C)),(stt s j=1∨stt s j=2)∧j<s.np):Mid s s1 i A C P P':=by
 have hd:∀j,(j=i∨j∈A∨j∈C)→¬j∈P:=by
  intro j hj hp
  simp only[List.nodup_cons,List.nodup_append,List.mem_append,not_or] at hn
  rcases hj with rfl|hj|hj
  ·exact hn.1.2.1 hp
  ·exact hn.2.2.2 j hj j (.inl hp) rfl
  ·exact hn.2.2.1.2.2 j hp j hj rfl
 have hq:∀j,(j=i∨j∈A∨j∈C)→stt s j≠0:=by
  intro j hj
  have:=hs j (by simp only[List.mem_cons,List.mem_append];rcases hj with a|a|a<;>simp[a])
  omega
 have ap:=m.apart (Q:=fun j=>j=i∨j∈A∨j∈C) hd hq
 have mm:=m.ext (Q:=fun j=>j=i∨j∈A∨j∈C) hd hq
 refine ⟨mm.congr (fun j=>?_) (fun j=>?_),?_,fun j hj=>(ap j hj).2,fun j hj=>?_⟩
 ·simp only[List.mem_cons,List.mem_append]
  constructor
  ·rintro (a|a|a|a)<;>simp[a]
  ·rintro (a|a|a|a)<;>simp[a]
 ·simp only[List.mem_cons,List.mem_append]
  constructor
  ·rintro (a|a|a|a)<;>simp[a]
  ·rintro (a|a|a|a)<;>simp[a]
 ·simp only[List.nodup_cons,List.nodup_append,List.mem_append,not_or] at hn ⊢
  refine ⟨⟨hn.1.1,(ap i (.inl rfl)).1,hn.1.2.2⟩,hn.2.1,⟨hr,hn.2.2.1.2.1,fun a ha b hb e=>?_⟩,fun a ha b hb e=>?_⟩
  ·subst e;exact (ap a (.inr (.inr hb))).1 ha
  ·subst e
   rcases hb with hb|hb
   ·exact (ap a (.inr (.inl ha))).1 hb
   ·exact hn.2.2.2 a ha a (.inr hb) rfl
 ·simp only[List.mem_cons,List.mem_append] at hj
  have key:(j=i∨j∈A∨j∈C)∨j∈P':=by
   rcases hj with a|a|a|a<;>simp[a]
  rcases key with a|a
  ·have q:=(ap j a).2.1
   have:=hs j (by simp only[List.mem_cons,List.mem_append];rcases a with a|a|a<;>simp[a])
   omega
  ·by_cases b:j∈P
   ·have q:=m.stay j a b
    have:=hs j (by simp[b])
    omega
   ·have q:=m.new j a b
    omega
section
variable {x:PgI} {T:List Nat}
theorem u0 {L:Nat} {us:List (Tr L)} {k:Nat} {u:Tr L} {R:Res L} (hu:us[k]? =some u) (h1:R.1.pg=u.pg) (h2:R.2=none) (ks:List Bs):av L ks (nus us k R)=av L ks us:=by
 obtain ⟨hk,rfl⟩:=List.getElem?_eq_some_iff.1 hu
 have e:us=us.take k++us[k]::us.drop (k+1):=by rw[←List.drop_eq_getElem_cons hk,List.take_append_drop]
 unfold av
 congr 1
 unfold nus rt
 rw[h2]
 conv=>rhs;rw[e]
 rw[List.map_append,List.map_append,List.map_append,List.map_cons,List.map_cons,h1]
 rfl
end
def opg {L:Nat}:Option (Tr L)→Int
 |none=> -1
 |some t=>(t.pg:Nat)
def fb (L:Nat):Option (Tr L)→List Nat
 |none=>[]
 |some t=>bp L t
structure yk (L:Nat) (lo:Bs) (hi:Option Bs) (t:Tr L) (key:Bs) (s':PgS) (o:Option (Tr L)):Prop where
 on:∀t',o=some t'→On s' L t'
 wf:∀t',o=some t'→WF L lo hi t'
 ps:(match o with|none=>[]|some t'=>aN L t')=dS (aN L t) key
 nd:(fb L o).Nodup
 cnt:∀t',o=some t'→∀j,eS L j t'≤eS L j t∧exT L j t'≤exT L j t
section
variable {x:PgI} {s:PgS} {T:List Nat} {h:H}
theorem bP.old (ok:bP s) {i:Nat} (hi:i<s.np) (h:stt s i=1):bP {s with st:=s.st.set i 3}:=ok.set hi ah ah (by unfold stt at h;omega)
theorem CJ {i:Nat} (g:PgH x s T h) (ok:bP s) (hi:i<s.np) (hs:stt s i=1∨stt s i=2):
  aM Tryz.prog 48 [.ptr x.P 0,.int .i64 (i:Int)] h fun q h'=>q= .int .i64 0∧∃s',Stp x T s h (fun j=>j=i) (fun _=>False) 0 s' h':=by
 have si:i<s.st.length:=by rw[ok.st];exact hi
 rcases hs with hs|hs
 ·refine ⟨_,_,jX g ok hi hs,Nat.le_refl _,Nat.le_refl _,rfl,{s with st:=s.st.set i 3},g.nW af,ok.old hi hs,CC hs si,?_,Nat.le_refl _,ct.nW,aq.set g.oI,Nat.le_refl _⟩
  refine Nat.le_of_eq (Eq.symm (rV (s:=s) (s':={s with st:=s.st.set i 3}) rfl fun j=>?_))
  show stt s j=0↔(s.st.set i 3).getD j 0=0
  rw[ef si]
  by_cases e:j=i
  ·subst e;rw[if_pos rfl,hs];decide
  ·rw[if_neg e];rfl
 ·have g2:=g.sZ (ws:=setW s.ws i false) (by simp[setW])
  have g3:=g2.nW (st:=s.st.set i 0) af
  refine ⟨_,_,qK g ok hi hs,Nat.le_refl _,Nat.le_refl _,rfl,_,g3,ok.drop hi,Ei hs si,?_,Nat.le_refl _,ct.sZ.trans ct.nW (Nat.le_refl _),aq.trans (aq.set g.oU) (aq.set g2.oI) (Nat.le_refl _) (Nat.le_refl _),Nat.le_refl _⟩
  unfold free
  refine ye fun j hj a=>?_
  show decide ((s.st.set i 0).getD j 0=0)=true
  rw[ef si]
  have a:=of_decide_eq_true a
  by_cases e:j=i
  ·simp[e]
  ·rw[if_neg e];exact decide_eq_true a
end
def wo {α:Type} (l:List α) (j:Nat):List α:=l.take j++l.drop (j+1)
def dks {L:Nat} (ks:List Bs) (j:Nat):Option (Tr L)→List Bs
 |none=>wo ks (j - 1)
 |some _=>ks
def dus {L:Nat} (us:List (Tr L)) (j:Nat):Option (Tr L)→List (Tr L)
 |none=>wo us j
 |some t=>nus us j (t,none)
section
variable {x:PgI} {s:PgS} {T:List Nat} {h:H}
theorem dC.GV {h':H} {n0 c:Nat} {K:AV} {xs:List AV} (r:dC h n0 K xs c) (hn:h.n≤h'.n) (ho:∀a l c',K= .tsl 1 a 0 l c'→h'.objs a=h.objs a):dC h' n0 K xs c:=by
 rcases r with r|⟨a,r1,r2,r3,r4,r5,r6⟩
 ·exact .inl r
 ·exact .inr ⟨a,r1,(ho a _ _ r1).trans r2,r3,ab,r5,r6⟩
end
def ol {L:Nat}:Option (Tr L)→List (Tr L)
 |none=>[]
 |some t=>[t]
def xa (L:Nat):Option (Tr L)→List Pr
 |none=>[]
 |some t=>aN L t
theorem qt {L:Nat} (us:List (Tr L)) (j:Nat) (o:Option (Tr L)):dus us j o=us.take j++(ol o++us.drop (j+1)):=by cases o<;>rfl
theorem u6 {L:Nat} {α:Type} (f:Tr L→List α) (us:List (Tr L)) (j:Nat) (o:Option (Tr L)):((dus us j o).map f).flatten=((us.take j).map f).flatten++(((ol o).map f).flatten++((us.drop (j+1)).map f).flatten):=by
 rw[qt,List.map_append,List.flatten_append,List.map_append,List.flatten_append]
theorem CL {L:Nat} (o:Option (Tr L)):((ol o).map (bp L)).flatten=fb L o:=by cases o<;>simp[ol,fb]
theorem CM {L:Nat} (o:Option (Tr L)):((ol o).map (aN L)).flatten=xa L o:=by cases o<;>simp[ol,xa]
theorem xb {L:Nat} {lo:Bs} {hi:Option Bs} {ks:List Bs} {us:List (Tr L)} {j:Nat} {o:Option (Tr L)} (hw:bH (WF L) lo hi ks us) (hr:right (av L ks us)=true) (hz:size (av L ks us)≤1024) (hj:j≤ks.length) (ho:∀t,o=some t→WF L (dM lo ks j) (eR hi ks j) t) (hn:o=none→2≤us.length) (hp:∀u∈us,u.pg<16384) (hp2:∀u∈ol o,u.pg<16384):
  bH (WF L) lo hi (dks ks j o) (dus us j o)∧right (av L (dks ks j o) (dus us j o))=true∧size (av L (dks ks j o) (dus us j o))≤1024:=by
 have hul:=hw.len
 cases o with
 |some t=>
  obtain ⟨c1,c2,c3,c4⟩:=od (R:=(t,none)) hw hr hz hj (ho t rfl) hp (fun u hu=>hp2 u (by simpa [rt,ol] using hu))
  have e:nks ks j ((t,none):Res L)=ks:=by unfold nks rk;simp
  rw[e] at c1 c2 c4
  exact ⟨c1,c2,c4 rfl⟩
 |none=>
  have h2:=hn rfl
  have c:=hw.del (nice L) (j:=j) ab ab
  obtain ⟨r1,-⟩:=(cO (n:=av L ks us) rfl).1 hr
  have r1:mW ks:=r1
  refine ⟨c,ig c (fun k hk=>r1.1 k ((fH ks (j - 1)).subset hk)) (fun v hv=>hp v ((fH us j).subset hv)),?_⟩
  have e0:size (av L ks us)=7+5*ks.length+tot ks:=rfl
  have e1:size (av L (dks ks j (none:Option (Tr L))) (dus us j none))=7+5*(ks.take (j - 1)++ks.drop (j - 1+1)).length+tot (ks.take (j - 1)++ks.drop (j - 1+1)):=rfl
  rw[e1]
  have s1:=sW (fH ks (j - 1))
  have s2:=(fH ks (j - 1)).length_le
  omega
theorem Eo {α:Type} {us:List α} {u:α} (h:us.length=1) {j:Nat} (hu:us[j]? =some u):us.take j=[]∧us.drop (j+1)=[]:=by
 obtain ⟨hj,-⟩:=List.getElem?_eq_some_iff.1 hu
 obtain rfl:j=0:=by omega
 exact ⟨rfl,List.drop_eq_nil_of_le ab⟩
theorem u7 {L:Nat} {ks ks':List Bs} {us:List (Tr L)} {i k j:Nat} {u:Tr L} {o:Option (Tr L)} (hu:us[j]? =some u) (h:∀t,o=some t→∀j,eS L j t≤eS L j u∧exT L j t≤exT L j u) (jj:Nat):
  eS (L+1) jj (mkT L k ks' (dus us j o))≤eS (L+1) jj (mkT L i ks us)∧exT (L+1) jj (mkT L k ks' (dus us j o))≤exT (L+1) jj (mkT L i ks us):=by
 obtain ⟨hj,-⟩:=List.getElem?_eq_some_iff.1 hu
 have hlen:(dus us j o).length≤us.length:=by
  rw[qt]
  cases o<;>simp[ol] <;>omega
 have key:∀f:Tr L→Nat,(∀t,o=some t→f t≤f u)→((dus us j o).map f).sum≤(us.map f).sum:=by
  intro f hf
  have:=CG f hu (ol o)
  rw[qt]
  have h2:((ol o).map f).sum≤f u:=by
   cases o with
   |none=>simp[ol]
   |some t=>simpa [ol] using hf t rfl
  omega
 rw[fj,fj,fY,fY]
 constructor
 ·split
  ·exact Nat.le_refl _
  ·exact key _ fun t e=>(h t e jj).1
 ·split
  ·show (dus us j o).length - 5≤us.length - 5
   omega
  ·exact key _ fun t e=>(h t e jj).2
section
variable {x:PgI} {T:List Nat}
end
abbrev Rt:=Option ((L:Nat) × Tr L)
def rpg:Rt→Int
 |none=> -1
 |some ⟨_,t⟩=>(t.pg:Nat)
def cM:Rt→List Nat
 |none=>[]
 |some ⟨L,t⟩=>bp L t
def aJ:Rt→List Pr
 |none=>[]
 |some ⟨L,t⟩=>aN L t
def Bnd (L:Nat) (t:Tr L) (B:Nat):Prop:=∃c:Nat→Nat,c 0≤B∧(∀j,j≤L→eS L j t≤c j)∧(∀j,j<L→2*c (j+1)+exT L (j+1) t≤c j)
def ROk (s:PgS) (B:Nat):Rt→Prop
 |none=>True
 |some ⟨L,t⟩=>Live s L [] none t∧Bnd L t B
theorem pn:∀(L:Nat) (t:Tr L),eS L L t=1
 |0,_=>rfl
 |L+1,t=>by rw[fj];simp
theorem ym {L:Nat} {t:Tr L} {B:Nat} (h:Bnd L t B):2^L≤B:=by
 obtain ⟨c,h0,h1,h2⟩:=h
 have key:∀k,k≤L→2^k≤c (L - k):=by
  intro k hk
  induction k with
  |zero=>
   have:=h1 L (Nat.le_refl _)
   rw[pn] at this
   simpa using this
  |succ k ih=>
   have a:=ih ab
   have b:=h2 (L - (k+1)) ab
   rw[show L - (k+1)+1=L - k by omega] at b
   rw[Nat.pow_succ]
   omega
 have:=key L (Nat.le_refl _)
 rw[Nat.sub_self] at this
 omega
def gv (f:Nat→Nat):Nat→Nat
 |0=>0
 |n+1=>gv f n+f n
theorem u9 (f g:Nat→Nat):∀n,gv (fun j=>f j+g j) n=gv f n+gv g n
 |0=>rfl
 |n+1=>by simp only[gv,u9 f g n];omega
theorem qu {f g:Nat→Nat}:∀n,(∀j,j<n→f j=g j)→gv f n=gv g n
 |0,_=>rfl
 |n+1,h=>by rw[gv,gv,qu n fun j hj=>h j ab,h n ab]
theorem rY:∀n,gv (fun _=>0) n=0
 |0=>rfl
 |n+1=>by simp[gv,rY n]
theorem rZ {L:Nat} (n:Nat):∀us:List (Tr L),gv (fun j=>(us.map (eS L j)).sum) n=(us.map fun u=>gv (fun j=>eS L j u) n).sum
 |[]=>rY n
 |u::us=>by
  have:=rZ n us
  simp only[List.map_cons,List.sum_cons]
  rw[u9,this]
theorem CN {L:Nat} (ih:∀u:Tr L,(bp L u).length=gv (fun j=>eS L j u) (L+1)) (us:List (Tr L)):((us.map (bp L)).flatten).length=gv (fun j=>(us.map (eS L j)).sum) (L+1):=by
 rw[rZ]
 induction us with
 |nil=>rfl
 |cons u us iv=>simp only[List.map_cons,List.flatten_cons,List.length_append,List.sum_cons,iv,ih u]
theorem r7:∀(L:Nat) (t:Tr L),(bp L t).length=gv (fun j=>eS L j t) (L+1)
 |0,t=>by simp[bp,bf,gv,eS]
 |L+1,t=>by
  have e:=CN (r7 L) t.kids
  have e2:(bp (L+1) t).length=(bf (L+1) t.kids).length+1:=rfl
  have e3:(bf (L+1) t.kids).length=gv (fun j=>((t.kids:List (Tr L)).map (eS L j)).sum) (L+1):=e
  rw[e2,e3]
  show _=gv (fun j=>eS (L+1) j t) (L+1)+eS (L+1) (L+1) t
  rw[pn]
  congr 1
  refine qu _ fun j hj=>?_
  rw[fj,if_neg ab]
theorem yn {c:Nat→Nat}:∀L,(∀j,j<L→2*c (j+1)≤c j)→gv c (L+1)+c L≤2*c 0
 |0,_=>by simp[gv];omega
 |L+1,h=>by
  have:=yn L fun j hj=>h j ab
  have h2:=h L ab
  rw[gv]
  omega
theorem yo {f g:Nat→Nat}:∀{n:Nat},(∀j,j<n→f j≤g j)→gv f n≤gv g n
 |0,_=>Nat.le_refl _
 |n+1,h=>by
  rw[gv,gv]
  have:=yo (n:=n) fun j hj=>h j ab
  have:=h n ab
  omega
theorem AB {L:Nat} {t:Tr L} {B:Nat} (h:Bnd L t B):(bp L t).length≤2*B:=by
 obtain ⟨c,h0,h1,h2⟩:=h
 rw[r7]
 have a:=yo (f:=fun j=>eS L j t) (g:=c) (n:=L+1) fun j hj=>h1 j ab
 have b:=yn (c:=c) L fun j hj=>by have:=h2 j hj;omega
 omega
theorem Ep {L:Nat} {t:Tr L} {B:Nat} (h:Bnd L t B) (hB:B≤121):L≤6:=by
 have:=ym h
 rcases Nat.lt_or_ge L 7 with e|e
 ·omega
 ·have:=Nat.pow_le_pow_right (n:=2) ah e
  omega
section
variable {x:PgI} {s:PgS} {T:List Nat} {h:H}
theorem vb {id g:Nat} {fn:Func} {caps:List AV} {Q:AV→H→Prop} (ho:oJ h id) (hg:Tryz.prog.funcs[g]? =some fn) (hb:fn.body.isSome=true) (hn:fn.name≠ "runtime.NumGoroutine") (hc:aM Tryz.prog g caps h Q):
  aM Tryz.prog 34 [.ptr id 0,.clo (.func g) [] caps] h fun q h'=>q= .int .i64 0∧∃r,Q r h':=by
 obtain ⟨r,h',a,b,c,d⟩:=hc
 exact ⟨_,h',Ft (first:=[]) ho hg hb hn a,b,c,rfl,r,d⟩
theorem vc {id g:Nat} {fn:Func} {caps:List AV} {k:Int} {Q:H→Prop} (ho:oJ h id) (hg:Tryz.prog.funcs[g]? =some fn) (hb:fn.body.isSome=true) (hn:fn.name≠ "runtime.NumGoroutine") (hc:∃h',cV Tryz.prog g caps h (jo k) h'∧h.n≤h'.n∧h.m≤h'.m∧Q h'):
  aM Tryz.prog 34 [.ptr id 0,.clo (.func g) [] caps] h fun q h'=>q= .int .i64 k∧Q h':=by
 obtain ⟨h',a,b,c,d⟩:=hc
 exact ⟨_,h',D1 (first:=[]) ho hg hb hn a,b,c,rfl,d⟩
end
theorem CO {L:Nat} {t:Tr L} {R0:Res L} {B:Nat} (hp:Pot L t R0) (hb:Bnd L t B) (hn:R0.2=none):Bnd L R0.1 (B+1):=by
 obtain ⟨e,p0,p1,p2,p3,p4⟩:=hp
 obtain ⟨c,h0,h1,h2⟩:=hb
 have hs:∀f:Tr L→Nat,ik f R0=f R0.1:=fun f=>by unfold ik;rw[hn];rfl
 refine ⟨fun j=>c j+e j,by have:=p0 0;simp only;omega,fun j hj=>?_,fun j hj=>?_⟩
 ·have a:=p3 j hj
  have b:=h1 j hj
  rw[hs] at a
  simp only;omega
 ·have a:=p4 j hj
  have b:=h2 j hj
  rw[hs] at a
  simp only;omega
theorem CP {L:Nat} {t:Tr L} {R0:Res L} {B k:Nat} {q:Bs × Tr L} (hp:Pot L t R0) (hb:Bnd L t B) (hn:R0.2=some q):Bnd (L+1) (mkT L k [q.1] [R0.1,q.2]) (B+1):=by
 obtain ⟨e,p0,p1,p2,p3,p4⟩:=hp
 obtain ⟨c,h0,h1,h2⟩:=hb
 have hs:∀f:Tr L→Nat,ik f R0=(([R0.1,q.2]:List (Tr L)).map f).sum:=fun f=>by unfold ik;rw[hn];simp
 refine ⟨fun j=>if j=L+1 then 1 else c j+e j,by have:=p0 0;simp;omega,fun j hj=>?_,fun j hj=>?_⟩
 ·by_cases ej:j=L+1
  ·subst ej
   rw[pn];simp
  ·simp only[ej,if_false]
   have a:=p3 j ab
   have b:=h1 j ab
   rw[hs] at a
   have e2:eS (L+1) j (mkT L k [q.1] [R0.1,q.2])=(([R0.1,q.2]:List (Tr L)).map (eS L j)).sum:=by rw[fj,if_neg ej];rfl
   rw[e2];omega
 ·have n1:¬(j=L+1):=by omega
  simp only[n1,if_false]
  by_cases ej:j+1=L+1
  ·obtain rfl:j=L:=by omega
   simp only[if_true]
   have e2:exT (j+1) (j+1) (mkT j k [q.1] [R0.1,q.2])=0:=by rw[fY,if_pos rfl];rfl
   have b:=h1 j (Nat.le_refl _)
   rw[pn] at b
   have:=p2 q hn
   omega
  ·simp only[ej,if_false]
   have a:=p4 j ab
   have b:=h2 j ab
   rw[hs] at a
   have e2:exT (L+1) (j+1) (mkT L k [q.1] [R0.1,q.2])=(([R0.1,q.2]:List (Tr L)).map (exT L (j+1))).sum:=by rw[fY,if_neg ej];rfl
   rw[e2];omega
structure Ts (x:PgI) (T:List Nat) (tid:Nat) (s:PgS) (R:Rt) (B:Nat) (h:H):Prop where
 pg:PgH x s T h
 ok:bP s
 ot:h.objs tid=some (trO x (rpg R))
 tx:Tid x tid
 rk:ROk s B R
def eK (x:PgI) (tid:Nat) (h h':H):Prop:=∀j,j<h.n→Tid x j→j≠tid→h'.objs j=h.objs j
theorem eK.of {x:PgI} {tid:Nat} {h h':H} (a:ct x h h'):eK x tid h h':=fun j hj a1 _=>cH a hj a1
theorem eK.trans {x:PgI} {tid:Nat} {h h1 h':H} (a:eK x tid h h1) (b:eK x tid h1 h') (n:h.n≤h1.n):eK x tid h h':=fun j hj a1 a2=>(b j ab a1 a2).trans (a j hj a1 a2)
theorem eK.set {x:PgI} {tid:Nat} {h:H} {o:Option Av.Obj}:eK x tid h {h with objs:=upd h.objs tid o}:=fun j _ _ a2=>by simp only[upd];rw[if_neg a2]
theorem Ts.lt {x:PgI} {T:List Nat} {tid:Nat} {s:PgS} {R:Rt} {B:Nat} {h:H} (g:Ts x T tid s R B h):tid<h.n:=by
 rcases Nat.lt_or_ge tid h.n with q|q
 ·exact q
 ·have:=g.pg.fresh _ q;rw[g.ot] at this;cases this
theorem PgH.vd {x:PgI} {s:PgS} {T:List Nat} {h:H} (g:PgH x s T h) {tid:Nat} (tx:Tid x tid) (hl:tid<h.n) (o:Av.Obj):PgH x s T {h with objs:=upd h.objs tid (some o)}:=
 g.other hl (by simp only[Tid,ne_eq,eq_comm] at tx ⊢;exact tx)
theorem PgH.ltn {x:PgI} {s:PgS} {T:List Nat} {h:H} (g:PgH x s T h) {j:Nat} (hj:(h.objs j).isSome=true):j<h.n:=by
 rcases Nat.lt_or_ge j h.n with q|q
 ·exact q
 ·rw[g.fresh _ q] at hj;cases hj
structure eC (x:PgI) (T:List Nat) (tid:Nat) (s:PgS) (R:Rt) (h:H) (B:Nat) (s':PgS) (R':Rt) (h':H):Prop where
 ts:Ts x T tid s' R' B h'
 mv:Mv s s' (fun j=>j∈cM R) (fun j=>j∈cM R')
 pl:s'.p.length≤s.p.length+200
 sm:eK x tid h h'
 no:aq h h'
 ln:h.n≤h'.n
section
variable {x:PgI} {s:PgS} {T:List Nat} {h:H}
end
structure Lo (s s':PgS):Prop where
 np:s'.np=s.np
 k13:∀j,(stt s' j=1∨stt s' j=3)↔(stt s j=1∨stt s j=3)
 keep:∀j,stt s j=1∨stt s j=3→bts s' j=bts s j
 pend:∀w∈s'.p,w∈s.p∨(stt s (w.1/8)≠1∧stt s (w.1/8)≠3)
theorem Lo.refl (s:PgS):Lo s s:=⟨rfl,fun _=>Iff.rfl,fun _ _=>rfl,fun _ h=> .inl h⟩
theorem Lo.trans {s s1 s2:PgS} (a:Lo s s1) (b:Lo s1 s2):Lo s s2:=⟨b.np.trans a.np,fun j=>(b.k13 j).trans (a.k13 j),fun j h=>(b.keep j ((a.k13 j).2 h)).trans (a.keep j h),fun w hw=>by
 rcases b.pend w hw with c|c
 ·exact a.pend w c
 ·have:=a.k13 (w.1/8)
  exact .inr ab⟩
theorem Mv.lo {s s':PgS} {P P':Nat→Prop} (m:Mv s s' P P'):Lo s s':=⟨m.np,m.k13,m.keep,m.pend⟩
structure Lst (x:PgI) (T:List Nat) (s:PgS) (h:H) (c:Nat) (v:Value) (h':H):Prop where
 v:v=jo 10
 fe:8*free s≤c
 ex:∃s',PgH x s' T h'∧bP s'∧Lo s s'∧s'.p.length≤s.p.length+c
 sm:ct x h h'
 no:aq h h'
section
variable {x:PgI} {s:PgS} {T:List Nat} {h:H}
theorem Lst.more {c d:Nat} {v:Value} {h':H} (l:Lst x T s h c v h') (hd:c≤d):Lst x T s h d v h':=by
 obtain ⟨s',a,b,e,f⟩:=l.ex
 exact ⟨l.v,by have:=l.fe;omega,⟨s',a,b,e,ab⟩,l.sm,l.no⟩
theorem Lst.pre {s1:PgS} {h1 h':H} {c d e:Nat} {v:Value} (l:Lst x T s1 h1 c v h') (lo:Lo s s1) (pl:s1.p.length≤s.p.length+d) (fr:8*free s≤8*free s1+d) (sm:ct x h h1) (no:aq h h1) (n1:h.n≤h1.n) (n2:h1.n≤h'.n) (he:c+d≤e):Lst x T s h e v h':=by
 obtain ⟨s',a,b,f,g⟩:=l.ex
 exact ⟨l.v,by have:=l.fe;omega,⟨s',a,b,lo.trans f,ab⟩,sm.trans l.sm n1,aq.trans no l.no n1 n2⟩
theorem yp {f:Nat→Bool}:∀{n k:Nat},k<n→f k=true→0<dL f n
 |0,k,h,_=>absurd h (Nat.not_lt_zero _)
 |n+1,k,h,e=>by
  rw[dL]
  by_cases q:k=n
  ·subst q;rw[e];simp
  ·have:=yp (n:=n) (k:=k) ab e;omega
theorem AD (ok:bP s) (hf:free s=0):hM s.ws s.np=none:=by
 cases e:hM s.ws s.np with
 |none=>rfl
 |some k=>
  have q:=nj e
  have b:=ok.bit k
  rw[q.2,decide_eq_true q.1] at b
  have:0<free s:=yp q.1 (by simpa [stt] using b)
  omega
theorem r8 {tid:Nat} {r:Int} {n:Page.Node} (g:PgH x s T h) (ok:bP s) (ht:h.objs tid=some (trO x r)) (hn:Nb n) (hc:check n=0) (hl:(bj n).length=1024) (he:free s=0):
  ∃v h',cV Tryz.prog 55 [.ptr tid 0,aC n] h v h'∧(h.n≤h'.n∧h.m≤h'.m)∧Lst x T s h 0 v h':=by
 have hf:=AD ok he
 refine aW.mP f55 af ?_
 unfold c55 zz
 have hlt:tid<h.n:=g.ltn (by rw[ht];rfl)
 have b0:=mV n hn
 rw[hc] at b0
 have b:bc Tryz.prog 83 [aC n] (.tup [.sl 1 (ar (bj n)) .any,.int .i64 0]):=b0
 clear b0
 have c0:aI Tryz.prog 47 [.int .i64 0] (H.new h (az n)) (.tup []) (H.new h (az n)):=dN
 have ht1:=(aH (o:=az n) hlt).trans ht
 have g1:=g.new (az n)
 have sm:=bK (x:=x) (h:=h) (o:=az n)
 have no:=bC (h:=h) (o:=az n)
 unfold aC at b ⊢
 unfold H.new az at c0
 repeat (first
  |((first|apply Wp.aR|apply Wp.cB);(· simp only[go_sem,reduceIte,Nat.reduceEqDiff,Nat.reduceAdd,bx,ax,if_true,if_false,Nat.reduceMul,Nat.reduceLeDiff,and_self];exact rfl);(repeat ((first
    |(refine an.cd ?_ ?_ (b) ?_;(· simp only[go_sem,reduceIte,Nat.reduceEqDiff,Nat.reduceAdd,bx]);(· simp only[go_sem,reduceIte,Nat.reduceEqDiff,Nat.reduceAdd,bx,List.map,ax,if_true,if_false,Nat.reduceMul,Nat.reduceLeDiff,and_self];first|exact au.refl _|(repeat (first|exact au.nil|refine au.cons xA5 ?_))))
    |(refine an.cx ?_ ?_ (by constructor<;>first|exact Nat.le_refl _|assumption) (c0) ?_;(· simp only[go_sem,reduceIte,Nat.reduceEqDiff,Nat.reduceAdd,bx]);(· simp only[go_sem,reduceIte,Nat.reduceEqDiff,Nat.reduceAdd,bx,List.map,ax,if_true,if_false,Nat.reduceMul,Nat.reduceLeDiff,and_self];first|exact au.refl _|(repeat (first|exact au.nil|refine au.cons xA5 ?_)))));apply an.evF;(· simp only[go_sem,reduceIte,Nat.reduceEqDiff,Nat.reduceAdd,bx,ax,if_true,if_false,Nat.reduceMul,Nat.reduceLeDiff,and_self];exact rfl)));refine an.nil ?_)
  |(apply Wp.bu;(· simp only[go_sem,reduceIte,Nat.reduceEqDiff,Nat.reduceAdd,bx,ax,if_true,if_false,Nat.reduceMul,Nat.reduceLeDiff,and_self];exact rfl);(· rfl))
  |refine Wp.skip ?_
  |refine Wp.label ?_
  |refine Wp.block ?_
  |refine Wp.exit ?_
  |refine Wp.seq ?_)
 refine Wp.le (s':=⟨tm [(0,.ptr tid 0),(5,.sl 1 (ar (bj n)) .any)],H.new h (az n)⟩) (aK.tm ?_) ?_
 ·exact xSb
 clear c0
 generalize H.new h (az n)=h1 at*
 have cw:=uQ g1 ok hl hf
 unfold trO at ht1
 repeat (first
  |((first|apply Wp.aR|apply Wp.cB);(· simp only[go_sem,reduceIte,Nat.reduceEqDiff,Nat.reduceAdd,bx,ax,if_true,if_false,Nat.reduceMul,Nat.reduceLeDiff,ht1];exact rfl);(repeat ((first
    |(refine an.cx ?_ ?_ (by constructor<;>first|exact Nat.le_refl _|assumption) (cw) ?_;(· simp only[go_sem,reduceIte,Nat.reduceEqDiff,Nat.reduceAdd,bx]);(· simp only[go_sem,reduceIte,Nat.reduceEqDiff,Nat.reduceAdd,bx,List.map,ax,if_true,if_false,Nat.reduceMul,Nat.reduceLeDiff,ht1];first|exact au.refl _|(repeat (first|exact au.nil|refine au.cons xA5 ?_)))));apply an.evF;(· simp only[go_sem,reduceIte,Nat.reduceEqDiff,Nat.reduceAdd,bx,ax,if_true,if_false,Nat.reduceMul,Nat.reduceLeDiff,ht1];exact rfl)));refine an.nil ?_)
  |(apply Wp.bu;(· simp only[go_sem,reduceIte,Nat.reduceEqDiff,Nat.reduceAdd,bx,ax,if_true,if_false,Nat.reduceMul,Nat.reduceLeDiff,ht1];exact rfl);(· rfl))
  |refine Wp.skip ?_
  |refine Wp.label ?_
  |refine Wp.block ?_
  |refine Wp.exit ?_
  |refine Wp.seq ?_)
 refine Wp.dQ (vals:=[.int .i64 10]) xAc xAb (⟨Nat.le_refl _,Nat.le_refl _⟩) (GU ah) ?_
 exact ⟨_,rfl,rfl,ab,⟨s,g1,ok,.refl s,Nat.le_refl _⟩,sm,no⟩
end
section
variable {x:PgI} {s:PgS} {T:List Nat} {h:H}
theorem CQ {tid i:Nat} {r:Int} {n:Page.Node} (g:PgH x s T h) (ok:bP s) (ht:h.objs tid=some (trO x r)) (hn:Nb n) (hc:check n=0) (hl:(bj n).length=1024) (hi:i<s.np) (hs:s.st.getD i 0=1) (he:free s=0):
  ∃v h',cV Tryz.prog 78 [.ptr tid 0,.int .i64 (i:Int),aC n] h v h'∧(h.n≤h'.n∧h.m≤h'.m)∧Lst x T s h 0 v h':=by
 refine aW.mP f78 af ?_
 unfold c78 zz
 have hlt:tid<h.n:=g.ltn (by rw[ht];rfl)
 have b0:=mV n hn
 rw[hc] at b0
 have b:bc Tryz.prog 83 [aC n] (.tup [.sl 1 (ar (bj n)) .any,.int .i64 0]):=b0
 clear b0
 have c0:aI Tryz.prog 47 [.int .i64 0] (H.new h (az n)) (.tup []) (H.new h (az n)):=dN
 have ht1:=(aH (o:=az n) hlt).trans ht
 have hn1:=bV (h:=h) (o:=az n)
 have g1:=g.new (az n)
 have sm:=bK (x:=x) (h:=h) (o:=az n)
 have no:=bC (h:=h) (o:=az n)
 have ln:h.n≤(H.new h (az n)).n:=Nat.le_succ _
 have lm:h.m≤(H.new h (az n)).m:=Nat.le_refl _
 unfold aC at b
 unfold aC
 unfold H.new az at c0
 repeat (first
  |((first|apply Wp.aR|apply Wp.cB);(· simp only[go_sem,reduceIte,Nat.reduceEqDiff,Nat.reduceAdd,bx,ax,if_true,if_false,Nat.reduceMul,Nat.reduceLeDiff,and_self];exact rfl);(repeat ((first
    |(refine an.cd ?_ ?_ (b) ?_;(· simp only[go_sem,reduceIte,Nat.reduceEqDiff,Nat.reduceAdd,bx]);(· simp only[go_sem,reduceIte,Nat.reduceEqDiff,Nat.reduceAdd,bx,List.map,ax,if_true,if_false,Nat.reduceMul,Nat.reduceLeDiff,and_self];first|exact au.refl _|(repeat (first|exact au.nil|refine au.cons xA5 ?_))))
    |(refine an.cx ?_ ?_ (by constructor<;>first|exact Nat.le_refl _|assumption) (c0) ?_;(· simp only[go_sem,reduceIte,Nat.reduceEqDiff,Nat.reduceAdd,bx]);(· simp only[go_sem,reduceIte,Nat.reduceEqDiff,Nat.reduceAdd,bx,List.map,ax,if_true,if_false,Nat.reduceMul,Nat.reduceLeDiff,and_self];first|exact au.refl _|(repeat (first|exact au.nil|refine au.cons xA5 ?_)))));apply an.evF;(· simp only[go_sem,reduceIte,Nat.reduceEqDiff,Nat.reduceAdd,bx,ax,if_true,if_false,Nat.reduceMul,Nat.reduceLeDiff,and_self];exact rfl)));refine an.nil ?_)
  |(apply Wp.bu;(· simp only[go_sem,reduceIte,Nat.reduceEqDiff,Nat.reduceAdd,bx,ax,if_true,if_false,Nat.reduceMul,Nat.reduceLeDiff,and_self];exact rfl);(· rfl))
  |refine Wp.skip ?_
  |refine Wp.label ?_
  |refine Wp.block ?_
  |refine Wp.exit ?_
  |refine Wp.seq ?_)
 refine Wp.le (s':=⟨tm [(0,.ptr tid 0),(1,.int .i64 i),(5,.ptr h.n 0),(7,.sl 1 (ar (bj n)) .any)],H.new h (az n)⟩) (aK.tm ?_) ?_
 ·exact xSb
 clear c0
 generalize H.new h (az n)=h1 at*
 have ht2:=ht1
 unfold trO at ht1
 unfold az at hn1
 have cr:=nk g1 hl (by rw[ok.st];exact hi) ab
 obtain ⟨v,h',hp,hm,l⟩:=r8 g1 ok ht2 hn hc hl he
 have d0:decide ((7:Int)=0)=false:=by decide
 have d7:decide ((7:Int)=7)=true:=by decide
 repeat (first
  |((first|apply Wp.aR|apply Wp.cB);(· simp only[go_sem,reduceIte,Nat.reduceEqDiff,Nat.reduceAdd,bx,ax,if_true,if_false,Nat.reduceMul,Nat.reduceLeDiff,ht1,hn1,d0,d7,Bool.not_true];exact rfl);(repeat ((first
    |(refine an.cx ?_ ?_ (by constructor<;>first|exact Nat.le_refl _|assumption) (cr) ?_;(· simp only[go_sem,reduceIte,Nat.reduceEqDiff,Nat.reduceAdd,bx]);(· simp only[go_sem,reduceIte,Nat.reduceEqDiff,Nat.reduceAdd,bx,List.map,ax,if_true,if_false,Nat.reduceMul,Nat.reduceLeDiff,ht1,hn1,d0,d7,Bool.not_true];first|exact au.refl _|(repeat (first|exact au.nil|refine au.cons xA5 ?_)))));apply an.evF;(· simp only[go_sem,reduceIte,Nat.reduceEqDiff,Nat.reduceAdd,bx,ax,if_true,if_false,Nat.reduceMul,Nat.reduceLeDiff,ht1,hn1,d0,d7,Bool.not_true];exact rfl)));refine an.nil ?_)
  |(apply Wp.bu;(· simp only[go_sem,reduceIte,Nat.reduceEqDiff,Nat.reduceAdd,bx,ax,if_true,if_false,Nat.reduceMul,Nat.reduceLeDiff,ht1,hn1,d0,d7,Bool.not_true];exact rfl);(· rfl))
  |refine Wp.skip ?_
  |refine Wp.label ?_
  |refine Wp.block ?_
  |refine Wp.exit ?_
  |refine Wp.seq ?_)
 refine Wp.dQ (vals:=[.ptr tid 0,aC n]) (xAd (cj2 hn1 @aC.eq_1)) xAb (hm) (hp) ?_
 exact ⟨_,rfl,l.pre (d:=0) (.refl s) (Nat.le_refl _) (Nat.le_refl _) sm no ln hm.1 (Nat.le_refl _)⟩
theorem tq {tid:Nat} {r:Int} {n:Page.Node} (g:PgH x s T h) (ok:bP s) (ht:h.objs tid=some (trO x r)) (hn:Nb n) (hc:check n=0) (hp:s.p.length<900000):
  cG Tryz.prog 55 [.ptr tid 0,aC n] h (fun q h'=>∃s' k,q= .int .i64 (k:Nat)∧Stp x T s h (fun _=>False) (fun j=>j=k) 1 s' h'∧Has s' k n) (Lst x T s h 0):=by
 rcases Nat.eq_zero_or_pos (free s) with e|e
 ·exact .inr (r8 g ok ht hn hc (nC hc) e)
 ·exact .inl (yg g ok ht hn hc e hp)
theorem tr {tid i:Nat} {r:Int} {n:Page.Node} (g:PgH x s T h) (ok:bP s) (ht:h.objs tid=some (trO x r)) (htx:Tid x tid) (hn:Nb n) (hc:check n=0) (hi:i<s.np) (hs:stt s i=1∨stt s i=2) (hp:s.p.length<900000):
  cG Tryz.prog 78 [.ptr tid 0,.int .i64 (i:Int),aC n] h (fun q h'=>∃s' k,q= .int .i64 (k:Nat)∧Stp x T s h (fun j=>j=i) (fun j=>j=k) 1 s' h'∧Has s' k n) (Lst x T s h 0):=by
 rcases Nat.eq_zero_or_pos (free s) with e|e
 ·rcases hs with hs|hs
  ·exact .inr (CQ g ok ht hn hc (nC hc) hi hs e)
  ·have hl:=nC hc
   obtain ⟨q,h',ca,n1,m1,rfl,⟨tk,g2⟩,sm,no⟩:=ql g ok ht hn hc hl hi hs hp
   refine .inl ⟨_,h',ca,n1,m1,_,i,rfl,⟨g2,ok.more (qj hl hi),uW hs,Nat.le_succ_of_le (Nat.le_of_eq rfl),?_,sm,no,n1⟩,pf hc rfl⟩
   show (s.p++wrs i (bj n) 8).length≤_
   rw[List.length_append,ph];omega
 ·exact .inl (w8 g ok ht htx hn hc hi hs e hp)
end
section
variable {x:PgI} {s:PgS} {T:List Nat} {h:H}
theorem ve {tid i:Nat} {r:Int} {n:Page.Node} {Q:PgS→Nat→Prop} (g:PgH x s T h) (ht:h.objs tid=some (trO x r)) (hn:Nb n) (hz:Page.size n≤1024)
  (ov:∀h1,PgH x s T h1→h1.objs tid=some (trO x r)→cG Tryz.prog 78 [.ptr tid 0,.int .i64 (i:Int),aC n] h1 (fun q h2=>∃s' k,q= .int .i64 (k:Nat)∧PgH x s' T h2∧Q s' k∧ct x h1 h2∧aq h1 h2) (Lst x T s h1 0)):
  cG Tryz.prog 86 [.ptr tid 0,.int .i64 (i:Int),aC n] h (fun q h2=>∃s' k,q= .tup [.int .i64 (k:Nat),.agg [.str [],.int .i64 (-1)]]∧PgH x s' T h2∧Q s' k∧ct x h h2∧aq h h2) (Lst x T s h 0):=by
 refine f86.gD af ?_
 unfold c86 zz
 have hlt:tid<h.n:=by
  rcases Nat.lt_or_ge tid h.n with q|q
  ·exact q
  ·rw[g.fresh _ q] at ht;cases ht
 have b:=lW n hn
 have d1:decide ((Page.size n:Int)≤1024)=true:=decide_eq_true ab
 unfold aC at b
 unfold aC
 have g1:=(g.new (az n)).new (.cells [.str [],.int .i64 0])
 have ht1:(H.new (H.new h (az n)) (.cells [.str [],.int .i64 0])).objs tid=some (trO x r):=(aH (Nat.lt_succ_of_lt hlt)).trans ((aH hlt).trans ht)
 have hn1:(H.new (H.new h (az n)) (.cells [.str [],.int .i64 0])).objs (h.n+1)=some (.cells [.str [],.int .i64 0]):=bV (h:=H.new h (az n))
 have sm1:ct x h (H.new (H.new h (az n)) (.cells [.str [],.int .i64 0])):=bK.trans bK (Nat.le_succ _)
 have no1:aq h (H.new (H.new h (az n)) (.cells [.str [],.int .i64 0])):=aq.trans bC bC (Nat.le_succ _) (Nat.le_succ _)
 have ln1:(H.new (H.new h (az n)) (.cells [.str [],.int .i64 0])).n=h.n+1+1:=rfl
 have hn0:(H.new (H.new h (az n)) (.cells [.str [],.int .i64 0])).objs h.n=some (az n):=(aH (Nat.lt_succ_self _)).trans bV
 have lm1:h.m≤(H.new (H.new h (az n)) (.cells [.str [],.int .i64 0])).m:=Nat.le_refl _
 repeat (first
  |((first|apply Wp.aR|apply Wp.cB);(· simp only[go_sem,reduceIte,Nat.reduceEqDiff,Nat.reduceAdd,bx,ax,if_true,if_false,Nat.reduceMul,Nat.reduceLeDiff,d1];exact rfl);(repeat ((first
    |(refine an.cd ?_ ?_ (b) ?_;(· simp only[go_sem,reduceIte,Nat.reduceEqDiff,Nat.reduceAdd,bx]);(· simp only[go_sem,reduceIte,Nat.reduceEqDiff,Nat.reduceAdd,bx,List.map,ax,if_true,if_false,Nat.reduceMul,Nat.reduceLeDiff,d1];first|exact au.refl _|(repeat (first|exact au.nil|refine au.cons xA5 ?_)))));apply an.evF;(· simp only[go_sem,reduceIte,Nat.reduceEqDiff,Nat.reduceAdd,bx,ax,if_true,if_false,Nat.reduceMul,Nat.reduceLeDiff,d1];exact rfl)));refine an.nil ?_)
  |(apply Wp.bu;(· simp only[go_sem,reduceIte,Nat.reduceEqDiff,Nat.reduceAdd,bx,ax,if_true,if_false,Nat.reduceMul,Nat.reduceLeDiff,d1];exact rfl);(· rfl))
  |refine Wp.skip ?_
  |refine Wp.label ?_
  |refine Wp.block ?_
  |refine Wp.exit ?_
  |refine Wp.seq ?_)
 refine Wp.le (s':=⟨tm [(0,.ptr tid 0),(1,.int .i64 i),(5,.ptr h.n 0),(7,.ptr (h.n+1) 0)],H.new (H.new h (az n)) (.cells [.str [],.int .i64 0])⟩) (aK.tm ?_) ?_
 ·exact xSb
 generalize H.new (H.new h (az n)) (.cells [.str [],.int .i64 0])=h1 at*
 unfold az at hn0
 rcases ov h1 g1 ht1 with hov|⟨v,h',hp,hm,l⟩
 rotate_left
 ·refine Wp.dQ (vals:=[.ptr tid 0,.int .i64 (i:Int),aC n]) (xAd (cj2 hn0 @aC.eq_1)) xAb (hm) (hp) ?_
  exact .inr ⟨_,rfl,l.pre (d:=0) (.refl s) (Nat.le_refl _) (Nat.le_refl _) sm1 no1 ab hm.1 (Nat.le_refl _)⟩
 refine rf0 hn0 ?_
 refine an.aY (vals:=[.ptr tid 0,.int .i64 (i:Int),aC n]) ae xA4 hov fun q h2 ⟨s',k,hq,g2,hQ,sm2,no2⟩ n2 _=>?_
 subst hq
 refine an.aY (vals:=[]) ae xA4 wU fun q h3 ⟨hq,hh3⟩ n3 _=>?_
 subst hq
 have lt:=g.lt
 have g3:PgH x s' T h3:=by rw[hh3];exact g2.new _
 have sm3:ct x h2 h3:=by rw[hh3];exact bK
 have no3:aq h2 h3:=by rw[hh3];exact bC
 have hn3:h3.objs (h.n+1)=some (.cells [.str [],.int .i64 0]):=by
  rw[hh3]
  exact (aH ab).trans ((sm2 _ ab ab ab ab ab ab ab).trans hn1)
 clear hh3
 refine an.evF (xAd hn3) ?_
 refine an.nil ?_
 refine Wp.ret (.inl ⟨trivial,.tup [.int .i64 k,.agg [.str [],.int .i64 (-1)]],?_,s',k,rfl,g3.other (j0:=h.n+1) ab ab,hQ,?_,?_⟩)
 ·have e2:cJ [RV.tmp 6,RV.cell 7 (some 2)] (tm [(6,.int .i64 k),(7,.ptr (h.n+1) 0)]) ⟨upd h3.objs (h.n+1) (some (.cells [.str [],.int .i64 (-1)])),h3.n,h3.toks,h3.m⟩=some (.tup [.int .i64 k,.agg [.str [],.int .i64 (-1)]]):=by
   simp[cJ,rvs,rv,tm,upd,Av.part,shaped,aP]
  exact e2
 ·intro j hj a1 a2 a3 a4 a5 a6
  have e:(upd h3.objs (h.n+1) (some (.cells [.str [],.int .i64 (-1)])):Nat→Option Av.Obj) j=h3.objs j:=by simp only[upd];rw[if_neg ab]
  exact e.trans (((sm1.trans sm2 ab).trans sm3 ab) j hj a1 a2 a3 a4 a5 a6)
 ·exact aq.trans (aq.trans (aq.trans no1 no2 ab n2) no3 ab n3) (aq.set hn3) ab (Nat.le_refl _)
theorem qM {tid i:Nat} {r:Int} {n:Page.Node} {Q:PgS→Nat→Prop} {Q2:PgS→Nat→PgS→Nat→Prop} (g:PgH x s T h) (ht:h.objs tid=some (trO x r)) (htx:tid≠x.P∧tid≠x.A∧tid≠x.U∧tid≠x.D∧tid≠x.K∧tid≠x.I) (hn:Nb n) (hs:Ns n) (hz:¬Page.size n≤1024) (hb:Page.size n≤1000000000)
  (ov:∀h1,PgH x s T h1→h1.objs tid=some (trO x r)→cG Tryz.prog 78 [.ptr tid 0,.int .i64 (i:Int),aC (split n).l] h1 (fun q h2=>∃s' k,q= .int .i64 (k:Nat)∧PgH x s' T h2∧Q s' k∧ct x h1 h2∧aq h1 h2) (Lst x T s h1 0))
  (hlo:∀s1 k,Q s1 k→Lo s s1∧s1.p.length≤s.p.length+8∧free s≤free s1+1)
  (fr:∀s1 k h1,Q s1 k→PgH x s1 T h1→h1.objs tid=some (trO x r)→cG Tryz.prog 55 [.ptr tid 0,aC (split n).r] h1 (fun q h2=>∃s2 k2,q= .int .i64 (k2:Nat)∧PgH x s2 T h2∧Q2 s1 k s2 k2∧ct x h1 h2∧aq h1 h2) (Lst x T s1 h1 0)):
  cG Tryz.prog 86 [.ptr tid 0,.int .i64 (i:Int),aC n] h (fun q h2=>∃s1 k s2 k2,q= .tup [.int .i64 (k:Nat),.agg [.str (split n).k,.int .i64 (k2:Nat)]]∧Q s1 k∧PgH x s2 T h2∧Q2 s1 k s2 k2∧ct x h h2∧aq h h2) (Lst x T s h 8):=by
 refine f86.gD af ?_
 unfold c86 zz
 have hlt:tid<h.n:=by
  rcases Nat.lt_or_ge tid h.n with q|q
  ·exact q
  ·rw[g.fresh _ q] at ht;cases ht
 have b:=lW n hn
 have c:=xP n hn hs
 have d1:decide ((Page.size n:Int)≤1024)=false:=decide_eq_false ab
 generalize split n=sp at*
 unfold ky at c
 unfold aC at b c
 unfold aC
 have g1:=(((g.new (az n)).new (.cells [.str [],.int .i64 0])).new (az sp.l)).new (az sp.r)
 have ht1:(H.new (H.new (H.new (H.new h (az n)) (.cells [.str [],.int .i64 0])) (az sp.l)) (az sp.r)).objs tid=some (trO x r):=(aH (Nat.lt_succ_of_lt (Nat.lt_succ_of_lt (Nat.lt_succ_of_lt hlt)))).trans ((aH (Nat.lt_succ_of_lt (Nat.lt_succ_of_lt hlt))).trans ((aH (Nat.lt_succ_of_lt hlt)).trans ((aH hlt).trans ht)))
 have hn1:(H.new (H.new (H.new (H.new h (az n)) (.cells [.str [],.int .i64 0])) (az sp.l)) (az sp.r)).objs (h.n+1)=some (.cells [.str [],.int .i64 0]):=(aH (Nat.lt_succ_of_lt (Nat.lt_succ_self _))).trans ((aH (Nat.lt_succ_self _)).trans (bV (h:=H.new h (az n))))
 have hr1:(H.new (H.new (H.new (H.new h (az n)) (.cells [.str [],.int .i64 0])) (az sp.l)) (az sp.r)).objs (h.n+1+1+1)=some (az sp.r):=bV (h:=H.new (H.new (H.new h (az n)) (.cells [.str [],.int .i64 0])) (az sp.l))
 have sm1:ct x h (H.new (H.new (H.new (H.new h (az n)) (.cells [.str [],.int .i64 0])) (az sp.l)) (az sp.r)):=((bK.trans bK (Nat.le_succ _)).trans bK (Nat.le_add_right _ 2)).trans bK (Nat.le_add_right _ 3)
 have no1:aq h (H.new (H.new (H.new (H.new h (az n)) (.cells [.str [],.int .i64 0])) (az sp.l)) (az sp.r)):=aq.trans (aq.trans (aq.trans bC bC (Nat.le_succ _) (Nat.le_succ _)) bC (Nat.le_add_right _ 2) (Nat.le_succ _)) bC (Nat.le_add_right _ 3) (Nat.le_succ _)
 have ln1:(H.new (H.new (H.new (H.new h (az n)) (.cells [.str [],.int .i64 0])) (az sp.l)) (az sp.r)).n=h.n+1+1+1+1:=rfl
 have hl1:(H.new (H.new (H.new (H.new h (az n)) (.cells [.str [],.int .i64 0])) (az sp.l)) (az sp.r)).objs (h.n+1+1)=some (az sp.l):=(aH (Nat.lt_succ_self _)).trans (bV (h:=H.new (H.new h (az n)) (.cells [.str [],.int .i64 0])))
 have lm1:h.m≤(H.new (H.new (H.new (H.new h (az n)) (.cells [.str [],.int .i64 0])) (az sp.l)) (az sp.r)).m:=Nat.le_refl _
 repeat (first
  |((first|apply Wp.aR|apply Wp.cB);(· simp only[go_sem,reduceIte,Nat.reduceEqDiff,Nat.reduceAdd,bx,ax,if_true,if_false,Nat.reduceMul,Nat.reduceLeDiff,d1];exact rfl);(repeat ((first
    |(refine an.cd ?_ ?_ (b) ?_;(· simp only[go_sem,reduceIte,Nat.reduceEqDiff,Nat.reduceAdd,bx]);(· simp only[go_sem,reduceIte,Nat.reduceEqDiff,Nat.reduceAdd,bx,List.map,ax,if_true,if_false,Nat.reduceMul,Nat.reduceLeDiff,d1];first|exact au.refl _|(repeat (first|exact au.nil|refine au.cons xA5 ?_))))
    |(refine an.cd ?_ ?_ (c) ?_;(· simp only[go_sem,reduceIte,Nat.reduceEqDiff,Nat.reduceAdd,bx]);(· simp only[go_sem,reduceIte,Nat.reduceEqDiff,Nat.reduceAdd,bx,List.map,ax,if_true,if_false,Nat.reduceMul,Nat.reduceLeDiff,d1];first|exact au.refl _|(repeat (first|exact au.nil|refine au.cons xA5 ?_)))));apply an.evF;(· simp only[go_sem,reduceIte,Nat.reduceEqDiff,Nat.reduceAdd,bx,ax,if_true,if_false,Nat.reduceMul,Nat.reduceLeDiff,d1];exact rfl)));refine an.nil ?_)
  |(apply Wp.bu;(· simp only[go_sem,reduceIte,Nat.reduceEqDiff,Nat.reduceAdd,bx,ax,if_true,if_false,Nat.reduceMul,Nat.reduceLeDiff,d1];exact rfl);(· rfl))
  |refine Wp.skip ?_
  |refine Wp.label ?_
  |refine Wp.block ?_
  |refine Wp.exit ?_
  |refine Wp.seq ?_)
 rw[jg (i:=h.n+1+1+1) (k:=h.n+1+1) _ _ _ ab,bg,bg]
 refine Wp.le (s':=⟨tm [(0,.ptr tid 0),(1,.int .i64 i),(7,.ptr (h.n+1) 0),(8,.ptr (h.n+1+1) 0),(9,.str sp.k),(10,.ptr (h.n+1+1+1) 0)],(H.new (H.new (H.new (H.new h (az n)) (.cells [.str [],.int .i64 0])) (az sp.l)) (az sp.r))⟩) (aK.tm ?_) ?_
 ·exact xSb
 generalize H.new (H.new (H.new (H.new h (az n)) (.cells [.str [],.int .i64 0])) (az sp.l)) (az sp.r)=h1 at*
 unfold az at hl1
 rcases ov h1 g1 ht1 with hov|⟨v,h',hp,hm,l⟩
 rotate_left
 ·refine Wp.dQ (vals:=[.ptr tid 0,.int .i64 (i:Int),aC sp.l]) (xAd (cj2 hl1 @aC.eq_1)) xAb (hm) (hp) ?_
  exact .inr ⟨_,rfl,l.pre (d:=0) (.refl s) (Nat.le_refl _) (Nat.le_refl _) sm1 no1 ab hm.1 ab⟩
 refine rf0 hl1 ?_
 refine an.aY (vals:=[.ptr tid 0,.int .i64 (i:Int),aC sp.l]) ae xA4 hov fun q h2 ⟨s1,k,hq,g2,hQ,sm2,no2⟩ n2 _=>?_
 subst hq
 have lt:=g.lt
 have ht2:h2.objs tid=some (trO x r):=(sm2 tid ab htx.1 htx.2.1 htx.2.2.1 htx.2.2.2.1 htx.2.2.2.2.1 htx.2.2.2.2.2).trans ht1
 have hn2:h2.objs (h.n+1)=some (.cells [.str [],.int .i64 0]):=(sm2 _ ab ab ab ab ab ab ab).trans hn1
 have hr2:h2.objs (h.n+1+1+1)=some (az sp.r):=(sm2 _ ab ab ab ab ab ab ab).trans hr1
 unfold az at hr2
 refine an.evF xAc ?_
 refine an.nil ?_
 rcases fr s1 k h2 hQ g2 ht2 with hfr|⟨v,h',hp,hm,l⟩
 rotate_left
 ·repeat (first
   |((first|apply Wp.aR|apply Wp.cB);(· simp only[go_sem,reduceIte,Nat.reduceEqDiff,Nat.reduceAdd,bx,ax,if_true,if_false,Nat.reduceMul,Nat.reduceLeDiff,hr2];exact rfl);refine an.nil ?_)
   |(apply Wp.bu;(· simp only[go_sem,reduceIte,Nat.reduceEqDiff,Nat.reduceAdd,bx,ax,if_true,if_false,Nat.reduceMul,Nat.reduceLeDiff,hr2];exact rfl);(· rfl))
   |refine Wp.skip ?_
   |refine Wp.label ?_
   |refine Wp.block ?_
   |refine Wp.exit ?_
   |refine Wp.seq ?_)
  refine Wp.dQ (vals:=[.ptr tid 0,aC sp.r]) (xAd (cj2 hr2 @aC.eq_1)) xAb (hm) (hp) ?_
  exact .inr ⟨_,rfl,l.pre (d:=8) (hlo s1 k hQ).1 (hlo s1 k hQ).2.1 (by have:=(hlo s1 k hQ).2.2;omega) (sm1.trans sm2 ab) (aq.trans no1 no2 ab n2) ab hm.1 ab⟩
 refine rf0 hr2 ?_
 refine an.aY (vals:=[.ptr tid 0,aC sp.r]) ae xA4 hfr fun q h3 ⟨s2,k2,hq,g3,hQ2,sm3,no3⟩ n3 _=>?_
 subst hq
 have hn3:h3.objs (h.n+1)=some (.cells [.str [],.int .i64 0]):=(sm3 _ ab ab ab ab ab ab ab).trans hn2
 refine an.evF (xAd hn3) ?_
 refine an.nil ?_
 refine Wp.ret (.inl ⟨trivial,.tup [.int .i64 k,.agg [.str sp.k,.int .i64 k2]],?_,s1,k,s2,k2,rfl,hQ,g3.other (j0:=h.n+1) ab ab,hQ2,?_,?_⟩)
 ·have e2:cJ [RV.tmp 6,RV.cell 7 (some 2)] (tm [(6,.int .i64 k),(7,.ptr (h.n+1) 0)]) ⟨upd h3.objs (h.n+1) (some (.cells [.str sp.k,.int .i64 k2])),h3.n,h3.toks,h3.m⟩=some (.tup [.int .i64 k,.agg [.str sp.k,.int .i64 k2]]):=by
   simp[cJ,rvs,rv,tm,upd,Av.part,shaped,aP]
  exact e2
 ·intro j hj a1 a2 a3 a4 a5 a6
  have e:(upd h3.objs (h.n+1) (some (.cells [.str sp.k,.int .i64 k2])):Nat→Option Av.Obj) j=h3.objs j:=by simp only[upd];rw[if_neg ab]
  exact e.trans (((sm1.trans sm2 ab).trans sm3 ab) j hj a1 a2 a3 a4 a5 a6)
 ·exact aq.trans (aq.trans (aq.trans no1 no2 ab n2) no3 ab n3) (aq.set hn3) ab (Nat.le_refl _)
theorem yq {L tid i:Nat} {r:Int} {lo:Bs} {hi:Option Bs} {ks:List Bs} {kids:List (Kid L)} (g:PgH x s T h) (ok:bP s) (ht:h.objs tid=some (trO x r)) (htx:Tid x tid) (hi':i<s.np) (hs:stt s i=1∨stt s i=2) (hr:right (bn L ks kids)=true) (hz:size (bn L ks kids)≤lim L) (hw:WC L lo hi ks kids) (hp:s.p.length+16<900000):
  cG Tryz.prog 86 [.ptr tid 0,.int .i64 (i:Int),aC (bn L ks kids)] h (fun q h'=>∃s' R,q=js R∧Stp x T s h (fun j=>j=i) (top R) 2 s' h'∧Std L lo hi ks kids s' R) (Lst x T s h 8):=by
 have hsm:=bG hr (Nat.le_trans hz (tp L))
 by_cases hfit:size (bn L ks kids)≤1024
 ·rcases ve (Q:=fun s' k=>bP s'∧Mv s s' (fun j=>j=i) (fun j=>j=k)∧free s≤free s'+1∧s'.p.length≤s.p.length+8∧Has s' k (bn L ks kids)) g ht hsm.1 hfit fun h1 g1 ht1=>
   (tr g1 ok ht1 htx hsm.1 (iQ hr hfit) hi' hs ab).mono (fun q h2 ⟨s',k,e,st,hh⟩=>⟨s',k,e,st.pg,⟨st.ok,st.mv,st.fr,st.pl,hh⟩,st.sm,st.no⟩) (fun _ _ e=>e) with ⟨q,h',ca,n1,m1,s',k,rfl,g',⟨o1,o2,o3,o4,o5⟩,sm,no⟩|⟨v,h',hp1,hm1,l⟩
  rotate_left
  ·exact .inr ⟨v,h',hp1,hm1,l.more ab⟩
  refine .inl ⟨_,h',ca,n1,m1,s',(⟨k,ks,kids⟩,none),rfl,⟨g',o1,o2.congr (fun j=>Iff.rfl) (fun j=>by simp[top]),ab,ab,sm,no,n1⟩,⟨o5,fun q hq=>(by cases hq),⟨hr,hfit,hw⟩,by simp[jt,more,aN],by simp[more],fun _=>rfl,fun q hq=>(by cases hq),fun q hq=>(by cases hq)⟩⟩
 ·obtain ⟨ks1,kids1,key,ks2,kids2,S⟩:=yd hr hfit hz hw
  have q1:=bG S.r1 (by have:=S.z1;omega)
  have q2:=bG S.r2 (by have:=S.z2;omega)
  have el:(split (bn L ks kids)).l=bn L ks1 kids1:=by rw[S.eq]
  have er:(split (bn L ks kids)).r=bn L ks2 kids2:=by rw[S.eq]
  have ek:(split (bn L ks kids)).k=key:=by rw[S.eq]
  rcases qM (Q:=fun s' k=>bP s'∧Mv s s' (fun j=>j=i) (fun j=>j=k)∧free s≤free s'+1∧s'.p.length≤s.p.length+8∧Has s' k (bn L ks1 kids1))
   (Q2:=fun s1 k s2 k2=>bP s2∧Mv s1 s2 (fun _=>False) (fun j=>j=k2)∧free s1≤free s2+1∧s2.p.length≤s1.p.length+8∧Has s2 k2 (bn L ks2 kids2)) g ht htx hsm.1 hsm.2 hfit (by have:=tp L;omega) (fun h1 g1 ht1=>by
    rw[el]
    exact (tr g1 ok ht1 htx q1.1 (iQ S.r1 S.z1) hi' hs ab).mono (fun q h2 ⟨s',k,e,st,hh⟩=>⟨s',k,e,st.pg,⟨st.ok,st.mv,st.fr,st.pl,hh⟩,st.sm,st.no⟩) (fun _ _ e=>e)) (fun s1 k o=>⟨o.2.1.lo,o.2.2.2.1,o.2.2.1⟩)
   (fun s1 k h1 o g1 ht1=>by
    rw[er]
    obtain ⟨o1,o2,o3,o4,o5⟩:=o
    exact (tq g1 o1 ht1 q2.1 (iQ S.r2 S.z2) ab).mono (fun q h2 ⟨s',k,e,st,hh⟩=>⟨s',k,e,st.pg,⟨st.ok,st.mv,st.fr,st.pl,hh⟩,st.sm,st.no⟩) (fun _ _ e=>e)) with ⟨q,h',ca,n1,m1,s1,k,s2,k2,e,⟨o1,o2,o3,o4,o5⟩,g',⟨u1,u2,u3,u4,u5⟩,sm,no⟩|⟨v,h',hp1,hm1,l⟩
  rotate_left
  ·exact .inr ⟨v,h',hp1,hm1,l⟩
  rw[ek] at e
  subst e
  have hk0:stt s1 k≠0:=by
   by_cases c:k=i
   ·have:=o2.stay k rfl c;subst c;omega
   ·have:=(o2.new k rfl c).2.1;omega
  have hk2:k≠k2:=by
   rintro rfl
   exact hk0 (u2.new k rfl id).1
  have m2:=u2.ext (Q:=fun j=>j=k) (fun j _=>id) (fun j hj=>by subst hj;exact hk0)
  have ap:=u2.apart (Q:=fun j=>j=k) (fun j _=>id) (fun j hj=>by subst hj;exact hk0) k rfl
  have mm:=o2.trans (m2.congr (A:=fun j=>j=k) (A':=fun j=>j=k∨j=k2) (fun j=>by simp) (fun j=>Or.comm))
  refine .inl ⟨_,h',ca,n1,m1,s2,(⟨k,ks1,kids1⟩,some (key,⟨k2,ks2,kids2⟩)),rfl,⟨g',u1,mm.congr (fun j=>Iff.rfl) (fun j=>by simp[top]),ab,ab,sm,no,n1⟩,⟨o5.congr ap.2.2,fun q hq=>(by cases hq;exact ⟨u5,hk2⟩),⟨⟨S.r1,S.z1,S.w1⟩,⟨S.r2,S.z2,S.w2⟩,S.k1,S.k2,S.kl⟩,S.ps,S.kd,fun hq=>(by cases hq),fun q hq=>hfit,fun q hq h0=>(by cases hq;exact S.cn h0)⟩⟩
end
end Go.Proofs.YtbgmofhgfnmaiaaGreat.Tree
end
