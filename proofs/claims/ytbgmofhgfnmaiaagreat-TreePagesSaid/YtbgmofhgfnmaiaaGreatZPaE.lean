/- Parts of a proof: a layer of abstract values over the model, the functions' walks, plain laws. -/
import Derived.Deep.CondSized
import Derived.Defers
import Derived.IntWalk
import Derived.KernelRfl
import Derived.Laws.Append
import Derived.Laws.AppendOwn
import Derived.Laws.BytesArg
import Derived.Laws.ComplexArith
import Derived.Laws.Cover3
import Derived.Laws.Entries
import Derived.Laws.IdiomCopy
import Derived.Laws.IdiomStrings
import Derived.Laws.Pointers
import Derived.Laws.Small
import Derived.Laws.Strings
import Derived.Laws.StructEq
import Derived.MapKept
import Derived.OpenShut
import Derived.Orders
import Derived.OrdersIn
import Derived.ProofKit
import Derived.RangeFuncRecord
import Derived.RangeFuncSeq
import Derived.ReadAgain
import Derived.Recover
import Derived.Scope
import Derived.Shelf.Slices.Cells
import Derived.Shelf.Slices.Clone
import Derived.Shelf.Slices.Delete
import Derived.Shelf.Sort.Plain
import Derived.Shelf.Spec.SlicesInsertGrow
import Derived.SizedLaws
import Derived.Tactics
import Derived.Tactics2
import Derived.Test.YtbgmofhgfnmaiaaGreatProg
import Derived.Test.YtbgmofhgfnmaiaaGreatRows
import Derived.WalkSmall
import Derived.Test.YtbgmofhgfnmaiaaGreatZPaD
set_option linter.unusedSimpArgs false
set_option linter.unusedVariables false
section
set_option maxRecDepth 100000
namespace Go.Proofs.YtbgmofhgfnmaiaaGreat.Tree
open Go Go.Av Go.Proofs Go.Proofs.YtbgmofhgfnmaiaaGreat.C Go.Proofs.YtbgmofhgfnmaiaaGreat.Page
open Go.Proofs.YtbgmofhgfnmaiaaGreat.Batch (Bs Pr prs aZ)
theorem wR {x:Nat} (h:x<2^64):IntKind.u64.wrap (x:Int)=(x:Int):=by
 unfold IntKind.wrap
 simp[IntKind.bits,IntKind.signed]
 omega
theorem Cu {a b:Nat} (ha:a<2^64) (hb:b<2^64):oL .u64 (a:Int) (b:Int)=((a &&& b:Nat):Int):=by
 have h:=Cp (BitVec.ofNat 64 a) (BitVec.ofNat 64 b)
 rw[BitVec.toNat_and,BitVec.toNat_ofNat,BitVec.toNat_ofNat,Nat.mod_eq_of_lt ha,Nat.mod_eq_of_lt hb] at h
 exact h
theorem wS (a p:Nat):(a:Int).fdiv (p:Int)=((a/p:Nat):Int):=by
 rw[Int.fdiv_eq_ediv_of_nonneg _ ab]
 exact (Int.natCast_ediv a p).symm
theorem uX {x c p:Nat} (hx:x<2^64) (hc:c<2^63):IntKind.u64.wrap (oL .u64 ((x:Int).fdiv (p:Int)) (c:Int)+oL .u64 (x:Int) (c:Int))=(((x/p &&& c)+(x &&& c):Nat):Int):=by
 rw[wS,Cu (Nat.lt_of_le_of_lt (Nat.div_le_self _ _) hx) ab,Cu hx ab]
 have h1:x/p &&& c≤c:=Nat.and_le_right
 have h2:x &&& c≤c:=Nat.and_le_right
 rw[←Int.natCast_add]
 exact wR ab
theorem FV {y:Nat} (hy:y<2^63):oL .i64 (IntKind.i64.wrap (y:Int)) 127=((y%128:Nat):Int):=by
 have e0:IntKind.i64.wrap (y:Int)=y:=IntWalk.i64_in _ ab
 rw[e0]
 unfold oL
 have e1:BitVec.ofInt IntKind.i64.bits (y:Int)=BitVec.ofNat 64 y:=by
  show BitVec.ofInt 64 (y:Int)=_
  simp
 have e2:BitVec.ofInt IntKind.i64.bits 127=BitVec.ofNat 64 127:=rfl
 rw[e1,e2]
 have e3:(BitVec.ofNat 64 y &&& BitVec.ofNat 64 127).toNat=y%128:=by
  rw[BitVec.toNat_and,BitVec.toNat_ofNat,BitVec.toNat_ofNat,Nat.mod_eq_of_lt (show y<2^64 by omega)]
  exact Nat.and_two_pow_sub_one_eq_mod y 7
 show IntKind.i64.wrap (((BitVec.ofNat 64 y &&& BitVec.ofNat 64 127).toNat:Nat):Int)=_
 rw[e3]
 exact IntWalk.i64_in _ ab
theorem En {x p c:Nat} (hx:x/p+x<2^64) (hc:c<2^63:=by decide):oL .u64 (IntKind.u64.wrap ((x:Int).fdiv (p:Int)+(x:Int))) (c:Int)=((x/p+x &&& c:Nat):Int):=by
 rw[wS,←Int.natCast_add,wR hx,Cu hx ab]
theorem tA {x p:Nat} (hx:x+x/p<2^64):IntKind.u64.wrap ((x:Int)+(x:Int).fdiv (p:Int))=((x+x/p:Nat):Int):=by
 rw[wS,←Int.natCast_add,wR hx]
theorem Hd (x:Nat) (hx:x<2^64):bj Tryz.prog 98 [.int .u64 x] (.int .i64 ((pa 64 x:Nat):Int)):=by
 refine f98.cV af (by simp[aU,bn]) rfl ?_
 unfold c98 zz
 rw[←Em x hx]
 obtain ⟨X1,h1⟩:∃X1,X1=(x/2 &&& 6148914691236517205)+(x &&& 6148914691236517205):=⟨_,rfl⟩
 have b1:X1<2^64:=by
  have:x/2 &&& 6148914691236517205≤6148914691236517205:=Nat.and_le_right
  have:x &&& 6148914691236517205≤6148914691236517205:=Nat.and_le_right
  omega
 obtain ⟨X2,h2⟩:∃X2,X2=(X1/4 &&& 3689348814741910323)+(X1 &&& 3689348814741910323):=⟨_,rfl⟩
 have b2:X2≤3689348814741910323+3689348814741910323:=by
  have:X1/4 &&& 3689348814741910323≤3689348814741910323:=Nat.and_le_right
  have:X1 &&& 3689348814741910323≤3689348814741910323:=Nat.and_le_right
  omega
 obtain ⟨X3,h3⟩:∃X3,X3=(X2/16+X2) &&& 1085102592571150095:=⟨_,rfl⟩
 have b3:X3≤1085102592571150095:=by rw[h3];exact Nat.and_le_right
 obtain ⟨Y1,g1⟩:∃Y1,Y1=X3+X3/256:=⟨_,rfl⟩
 obtain ⟨Y2,g2⟩:∃Y2,Y2=Y1+Y1/65536:=⟨_,rfl⟩
 obtain ⟨Y3,g3⟩:∃Y3,Y3=Y2+Y2/4294967296:=⟨_,rfl⟩
 have eN:Ek (Ej x)=Y3%128:=by rw[g3,g2,g1,h3,h2,h1];rfl
 rw[eN]
 refine Wp.aI xA1 ag ?_
 refine Wp.aI xA1 ag ?_
 refine Wp.le (s':=⟨tm [(0,.int .u64 (X1:Int))],H0 0 0⟩) (aM.tm ?_) ?_
 ·simp only[bg,go_sem,reduceIte,Nat.reduceEqDiff,bx]
  refine ⟨av.int ?_,trivial⟩
  rw[h1]
  exact uX (p:=2) hx ah
 refine Wp.aI xA1 ag ?_
 refine Wp.le (s':=⟨tm [(0,.int .u64 (X2:Int))],H0 0 0⟩) (aM.tm ?_) ?_
 ·simp only[bg,go_sem,reduceIte,Nat.reduceEqDiff,bx]
  refine ⟨av.int ?_,trivial⟩
  rw[h2]
  exact uX (p:=4) b1 ah
 refine Wp.aI xA1 ag ?_
 refine Wp.le (s':=⟨tm [(0,.int .u64 (X3:Int))],H0 0 0⟩) (aM.tm ?_) ?_
 ·simp only[bg,go_sem,reduceIte,Nat.reduceEqDiff,bx]
  refine ⟨av.int ?_,trivial⟩
  rw[h3]
  exact En (p:=16) ab
 refine Wp.aI xA1 ag ?_
 refine Wp.le (s':=⟨tm [(0,.int .u64 (Y1:Int))],H0 0 0⟩) (aM.tm ?_) ?_
 ·simp only[bg,go_sem,reduceIte,Nat.reduceEqDiff,bx]
  refine ⟨av.int ?_,trivial⟩
  rw[g1]
  exact tA (p:=256) ab
 refine Wp.aI xA1 ag ?_
 refine Wp.le (s':=⟨tm [(0,.int .u64 (Y2:Int))],H0 0 0⟩) (aM.tm ?_) ?_
 ·simp only[bg,go_sem,reduceIte,Nat.reduceEqDiff,bx]
  refine ⟨av.int ?_,trivial⟩
  rw[g2]
  exact tA (p:=65536) ab
 refine Wp.aI xA1 ag ?_
 refine Wp.le (s':=⟨tm [(0,.int .u64 (Y3:Int))],H0 0 0⟩) (aM.tm ?_) ?_
 ·simp only[bg,go_sem,reduceIte,Nat.reduceEqDiff,bx]
  refine ⟨av.int ?_,trivial⟩
  rw[g3]
  exact tA (p:=4294967296) ab
 refine Wp.aI xA1 ag ?_
 refine Wp.ret ⟨trivial,.int .i64 (oL .i64 (IntKind.i64.wrap (Y3:Int)) 127),?_,?_⟩
 ·simp only[go_sem]
  exact rfl
 ·rw[FV ab]
  exact av.refl _
def lx (ws:List W) (j:Nat):Nat:=((ws.take j).map fun w=>pa 64 w.toNat).sum
theorem He (k x:Nat):pa k x≤k:=by
 induction k generalizing x with
 |zero=>exact Nat.le_refl _
 |succ k ih=>have:=ih (x/2);simp only[pa];omega
theorem nN {ws:List W} {j:Nat} (h:j<ws.length):lx ws (j+1)=lx ws j+pa 64 (ws.getD j 0).toNat:=by
 unfold lx
 rw[List.take_succ_eq_append_getElem h,List.map_append,List.sum_append]
 simp[List.getD,List.getElem?_eq_getElem h]
theorem ya (ws:List W):∀j,j≤ws.length→lx ws j≤64*j
 |0,_=>by simp[lx]
 |j+1,h=>by
  rw[nN ab]
  have:=ya ws j ab
  have:=He 64 (ws.getD j 0).toNat
  omega
theorem FW {h:H} {A U np:Nat} {ws:List W} (ho:h.objs A=some (alO np U ws.length)) (hu:h.objs U=some (.cells (du ws))) (h0:0<np) (hn:np<100000) (hl:ws.length<10000):
  aK Tryz.prog 66 [.ptr A 0] h (.int .i64 ((np:Int) - (lx ws ws.length:Nat))) h:=by
 refine f66.cd af ?_
 unfold c66 zz
 have c1:=wP ho h0
 unfold alO at ho
 have e0:(np:Int) - (lx ws 0:Nat)=np:=by simp[lx]
 refine rg1 (cj2 ho @Bool.not_true) c1 ?_
 refine Wp.eI [16,17] xA7 (fun j:Nat=>[(3,.int .i64 ((np:Int) - (lx ws j:Nat))),(18,.int .i64 j)]) (fun _=>h) (fun j=>j≤ws.length) (fun j=>ws.length - j) 0 (Nat.zero_le _) rfl ?_ ?_
 ·rw[e0]
  exact xSb
 intro j hj
 by_cases hjl:j<ws.length
 ·have d1:decide ((j:Int)<(ws.length:Int))=true:=decide_eq_true ab
  have g1:(0:Int)≤(j:Int):=by omega
  have g2:(j:Int)<(ws.length:Int):=by omega
  have g3:(du ws)[j]? =some (.int .u64 ((ws.getD j 0).toNat:Int)):=by simp[du,nM,List.getD,List.getElem?_eq_getElem hjl]
  have c2:=Hd (ws.getD j 0).toNat (ws.getD j 0).isLt
  have w1:IntKind.i64.wrap ((j:Int)+1)=((j+1:Nat):Int):=by rw[IntWalk.i64_in _ ab];rfl
  have b1:=ya ws (j+1) hjl
  have b2:=nN hjl
  have w2:IntKind.i64.wrap ((np:Int) - (lx ws j:Nat) - (pa 64 (ws.getD j 0).toNat:Nat))=(np:Int) - (lx ws (j+1):Nat):=by
   rw[IntWalk.i64_in _ ab];omega
  generalize (ws.getD j 0).toNat=x at g3 c2 w2
  refine rf1 (cL ho hu d1 g1 g2 g3 w1 w2 @and_self @Nat.zero_add @Nat.mul_one @Int.toNat_natCast) c2 ?_
  refine ⟨j+1,hjl,ab,?_⟩
  refine aM.tm ?_
  exact xSb
 ·obtain rfl:j=ws.length:=by omega
  have d1:decide ((ws.length:Int)<(ws.length:Int))=false:=decide_eq_false ab
  refine rf0 d1 ?_
  refine Wp.ret ⟨trivial,_,?_,av.refl _,rfl⟩
  simp only[go_sem]
  exact rfl
structure PgI where
 (P A U D K I:Nat)
structure PgS where
 (np:Nat) (ws:List W) (st:List Nat) (p d:List (Nat × List UInt8)) (tk:Option Nat)
def iy (l:List Nat):List AV:=l.map fun z:Nat=> .int .i64 (z:Int)
structure PgH (x:PgI) (s:PgS) (T:List Nat) (h:H):Prop where
 oP:h.objs x.P=some (.cells [.ptr x.A 0,.ptr x.D 0,.int .i64 0,.tsl 1 x.I 0 s.st.length none])
 oA:h.objs x.A=some (alO s.np x.U s.ws.length)
 oU:h.objs x.U=some (.cells (du s.ws))
 oD:h.objs x.D=some (dkO x.K (8*s.np) (cZ s.p s.tk))
 oK:h.objs x.K=some (.bk ⟨8*s.np,s.d⟩)
 oI:h.objs x.I=some (.cells (iy s.st))
 lt:x.P<h.n∧x.A<h.n∧x.U<h.n∧x.D<h.n∧x.K<h.n∧x.I<h.n
 ne:x.P≠x.A∧x.P≠x.U∧x.P≠x.D∧x.P≠x.K∧x.P≠x.I∧x.A≠x.U∧x.A≠x.D∧x.A≠x.K∧x.A≠x.I∧x.U≠x.D∧x.U≠x.K∧x.U≠x.I∧x.D≠x.K∧x.D≠x.I∧x.K≠x.I
 fresh:∀j,h.n≤j→h.objs j=none
 toks:h.toks=tkT s.tk T
 tm:∀t∈T,t<h.m
 tkm:∀t,s.tk=some t→t<h.m∧t∉T
 tk0:s.tk=none→s.p=[]
def cI (x:PgI) (h h':H):Prop:=∀j,j<h.n→j≠x.P→j≠x.A→j≠x.U→j≠x.D→j≠x.K→j≠x.I→h'.objs j=h.objs j
theorem PgH.keep {x:PgI} {s:PgS} {T:List Nat} {h h':H} (g:PgH x s T h) (q:∀j,j<h.n→h'.objs j=h.objs j) (hn:h.n≤h'.n) (hf:∀j,h'.n≤j→h'.objs j=none) (ht:h'.toks=h.toks) (hm:h.m≤h'.m):PgH x s T h' where
 oP:=(q _ g.lt.1).trans g.oP
 oA:=(q _ g.lt.2.1).trans g.oA
 oU:=(q _ g.lt.2.2.1).trans g.oU
 oD:=(q _ g.lt.2.2.2.1).trans g.oD
 oK:=(q _ g.lt.2.2.2.2.1).trans g.oK
 oI:=(q _ g.lt.2.2.2.2.2).trans g.oI
 lt:=by have:=g.lt;omega
 ne:=g.ne
 fresh:=hf
 toks:=ht.trans g.toks
 tm:=fun t h=>Nat.lt_of_lt_of_le (g.tm t h) hm
 tkm:=fun t h=>⟨Nat.lt_of_lt_of_le (g.tkm t h).1 hm,(g.tkm t h).2⟩
 tk0:=g.tk0
theorem PgH.tB {x:PgI} {s:PgS} {T:List Nat} {h:H} (g:PgH x s T h) {ws:List W} (hl:ws.length=s.ws.length):PgH x {s with ws:=ws} T {h with objs:=upd h.objs x.U (some (.cells (du ws)))}:=by
 have ne:=g.ne
 have lt:=g.lt
 have q:∀j,j≠x.U→upd h.objs x.U (some (Av.Obj.cells (du ws))) j=h.objs j:=fun j hj=>by simp only[upd];rw[if_neg hj]
 exact {
  oP:=(q _ ne.2.1).trans g.oP
  oA:=(q _ ne.2.2.2.2.2.1).trans (by rw[g.oA];simp only[hl])
  oU:=by simp only[upd,if_true]
  oD:=(q _ (Ne.symm ne.2.2.2.2.2.2.2.2.2.1)).trans g.oD
  oK:=(q _ (Ne.symm ne.2.2.2.2.2.2.2.2.2.2.1)).trans g.oK
  oI:=(q _ (Ne.symm ne.2.2.2.2.2.2.2.2.2.2.2.1)).trans g.oI
  lt:=lt
  ne:=ne
  fresh:=fun j hj=>(q j (by simp only at hj;omega)).trans (g.fresh j hj)
  toks:=g.toks
  tm:=g.tm
  tkm:=g.tkm
  tk0:=g.tk0}
theorem PgH.nP {x:PgI} {s:PgS} {T:List Nat} {h:H} (g:PgH x s T h) {st:List Nat} (hl:st.length=s.st.length):PgH x {s with st:=st} T {h with objs:=upd h.objs x.I (some (.cells (iy st)))}:=by
 have ne:=g.ne
 have lt:=g.lt
 have q:∀j,j≠x.I→upd h.objs x.I (some (Av.Obj.cells (iy st))) j=h.objs j:=fun j hj=>by simp only[upd];rw[if_neg hj]
 exact {
  oP:=(q _ ne.2.2.2.2.1).trans (by rw[g.oP];simp only[hl])
  oA:=(q _ ne.2.2.2.2.2.2.2.2.1).trans g.oA
  oU:=(q _ ne.2.2.2.2.2.2.2.2.2.2.2.1).trans g.oU
  oD:=(q _ ne.2.2.2.2.2.2.2.2.2.2.2.2.2.1).trans g.oD
  oK:=(q _ ne.2.2.2.2.2.2.2.2.2.2.2.2.2.2).trans g.oK
  oI:=by simp only[upd,if_true]
  lt:=lt
  ne:=ne
  fresh:=fun j hj=>(q j (by simp only at hj;omega)).trans (g.fresh j hj)
  toks:=g.toks
  tm:=g.tm
  tkm:=g.tkm
  tk0:=g.tk0}
theorem cI.trans {x:PgI} {h h1 h2:H} (a:cI x h h1) (b:cI x h1 h2) (hn:h.n≤h1.n):cI x h h2:=
 fun j hj a1 a2 a3 a4 a5 a6=>(b j ab a1 a2 a3 a4 a5 a6).trans (a j hj a1 a2 a3 a4 a5 a6)
theorem cI.refl (x:PgI) (h:H):cI x h h:=fun _ _ _ _ _ _ _ _=>rfl
theorem cI.tB {x:PgI} {h:H} {o:Option Av.Obj}:cI x h {h with objs:=upd h.objs x.U o}:=fun j _ _ _ a3 _ _ _=>by simp only[upd];rw[if_neg a3]
theorem cI.nP {x:PgI} {h:H} {o:Option Av.Obj}:cI x h {h with objs:=upd h.objs x.I o}:=fun j _ _ _ _ _ _ a6=>by simp only[upd];rw[if_neg a6]
theorem aq.trans {h h1 h2:H} (a:aq h h1) (b:aq h1 h2) (n1:h.n≤h1.n) (n2:h1.n≤h2.n):aq h h2:=fun j hj=>by
 rcases b j hj with c|c
 ·rcases a j c with d|d
  ·exact .inl d
  ·exact .inr ⟨d.1,ab⟩
 ·exact .inr ⟨ab,c.2⟩
theorem aq.refl (h:H):aq h h:=fun _ hj=> .inl hj
theorem aq.set {h:H} {i:Nat} {o:Option Av.Obj} {p:Av.Obj} (hp:h.objs i=some p):aq h {h with objs:=upd h.objs i o}:=fun j hj=> .inl (by
 simp only[upd] at hj
 by_cases e:j=i
 ·rw[e,hp];rfl
 ·rw[if_neg e] at hj;exact hj)
structure cu (s:PgS):Prop where
 np0:0<s.np
 np1:s.np≤500
 st:s.st.length=s.np
 st3:∀i,s.st.getD i 0≤3
 wl:s.ws.length=(s.np+63)/64
 bit:∀i,eU s.ws i=(decide (i<s.np)&& !decide (s.st.getD i 0=0))
 pl:∀x∈s.p,x.2.length=128∧x.1<8*s.np
 dl:∀x∈s.d,x.2.length=128
def wrs (i:Nat) (l:List UInt8) (k:Nat):List (Nat × List UInt8):=(List.range k).map fun j=>(i*8+j,(l.drop (j*128)).take 128)
theorem uY (i:Nat) (l:List UInt8) (k:Nat):wrs i l (k+1)=wrs i l k++[(i*8+k,(l.drop (k*128)).take 128)]:=by
 simp[wrs,List.range_succ]
structure OvI (x:PgI) (s:PgS) (T:List Nat) (i:Nat) (l:List UInt8) (h0:H) (k:Nat) (h:H):Prop where
 le:k≤8
 pg:∃tk,PgH x {s with p:=s.p++wrs i l k,tk:=tk} T h
 wh:h.objs h0.n=some (.cells (ar l))
 sm:cI x h0 h
 no:aq h0 h
 ln:h0.n+1≤h.n
 lm:h0.m≤h.m
theorem iX {x:PgI} {s:PgS} {T:List Nat} {h:H} (g:PgH x s T h):aK Tryz.prog 64 [.ptr x.P 0] h (.bool true) h:=by
 refine f64.cd af ?_
 unfold c64 zz
 have ho:=g.oP
 refine rf0 (cj2 ho @Bool.not_true) ?_
 refine Wp.ret ⟨trivial,_,?_,av.refl _,rfl⟩
 simp only[go_sem]
 exact rfl
theorem mZ {x:PgI} {s:PgS} {T:List Nat} {h:H} (g:PgH x s T h) {i:Nat} (hi:i<s.st.length):aK Tryz.prog 81 [.ptr x.P 0,.int .i64 i] h (.bool true) h:=by
 refine f81.cd af ?_
 unfold c81 zz
 have ho:=g.oP
 have d1:decide ((0:Int)≤(i:Int))=true:=decide_eq_true ab
 have d2:decide ((i:Int)<(s.st.length:Int))=true:=decide_eq_true ab
 refine rf0 (cj3 ho d1 d2) ?_
 refine Wp.ret ⟨trivial,_,?_,av.refl _,rfl⟩
 simp only[go_sem]
 exact rfl
theorem Eo {x:PgI} {s:PgS} {T:List Nat} {i k:Nat} {l:List UInt8} {h0 h:H} {cap:Option Nat} (hD0:x.D<h0.n) (o:OvI x s T i l h0 k h) (np1:s.np≤500) (hk:k<8) (hl:l.length=1024) (hi:i<s.np) (hp:s.p.length<900000):
  aJ Tryz.prog 146 [.ptr x.D 0,.int .i64 ((i*8+k:Nat):Int),.tsl 1 h0.n (k*128) 128 cap] h fun r h'=>r= .int .i64 0∧OvI x s T i l h0 (k+1) h'∧aq h h':=by
 obtain ⟨tk,g⟩:=o.pg
 have hb:((ar l).drop (k*128)).take 128=ar ((l.drop (k*128)).take 128):=by simp[ar,List.map_drop,List.map_take]
 have hw:=Ef (n:=h.n) (m:=h.m) (T:=T) (cap:=cap) (i:=i*8+k) (l:=(l.drop (k*128)).take 128) g.oD o.wh ak hb (by simp[ar];omega) (by simp only;omega) g.lt.2.2.2.1 (by have:=o.ln;omega) (g.fresh _ (Nat.le_refl _)) (fun t h=>(g.tkm t h).2) g.tk0 (by simp[wrs];omega)
 have hh:h=⟨h.objs,h.n,tkT tk T,h.m⟩:=by
  have:=g.toks
  cases h
  simp only at this
  rw[this]
 have ne:=g.ne
 have lt:=g.lt
 have ln:=o.ln
 have lm:=o.lm
 rw[←hh] at hw
 refine ⟨_,_,hw,Nat.le_succ _,Nat.le_succ _,rfl,?_⟩
 have q:∀j,j≠x.D→upd h.objs x.D (some (dkO x.K (8*s.np) (cZ (s.p++wrs i l k++[(i*8+k,(l.drop (k*128)).take 128)]) (some h.m)))) j=h.objs j:=fun j hj=>by simp only[upd];rw[if_neg hj]
 refine ⟨⟨ab,⟨some h.m,?_⟩,?_,fun j hj a1 a2 a3 a4 a5 a6=>(q j a4).trans (o.sm j hj a1 a2 a3 a4 a5 a6),fun j hj=>?_,?_,?_⟩,fun j hj=> .inl ?_⟩
 rotate_right
 ·simp only[upd] at hj
  by_cases e:j=x.D
  ·rw[e,g.oD];rfl
  ·rw[if_neg e] at hj;exact hj
 ·exact {
   oP:=(q _ ne.2.2.1).trans g.oP
   oA:=(q _ ne.2.2.2.2.2.2.1).trans g.oA
   oU:=(q _ ne.2.2.2.2.2.2.2.2.2.1).trans g.oU
   oD:=by
    simp only[upd,if_true]
    rw[uY,List.append_assoc]
   oK:=(q _ (Ne.symm ne.2.2.2.2.2.2.2.2.2.2.2.2.1)).trans g.oK
   oI:=(q _ (Ne.symm ne.2.2.2.2.2.2.2.2.2.2.2.2.2.1)).trans g.oI
   lt:=by simp only;omega
   ne:=ne
   fresh:=fun j hj=>(q j (by simp only at hj;omega)).trans (g.fresh j (by simp only at hj;omega))
   toks:=rfl
   tm:=fun t ht=>Nat.lt_succ_of_lt (g.tm t ht)
   tkm:=fun t ht=>by
    cases ht
    exact ⟨Nat.lt_succ_self _,fun e=>Nat.lt_irrefl _ (g.tm _ e)⟩
   tk0:=fun e=>by cases e}
 ·exact (q _ ab).trans o.wh
 ·simp only[upd] at hj
  by_cases e:j=x.D
  ·refine (o.no j ?_).imp id fun a=>⟨a.1,Nat.lt_succ_of_lt a.2⟩
   rw[e,g.oD];rfl
  ·rw[if_neg e] at hj
   exact (o.no j hj).imp id fun a=>⟨a.1,Nat.lt_succ_of_lt a.2⟩
 ·simp only;omega
 ·simp only;omega
set_option maxHeartbeats 1000000 in
theorem Cv {x:PgI} {s:PgS} {T:List Nat} {h0:H} (g:PgH x s T h0) (np1:s.np≤500) {i:Nat} {l:List UInt8} (hl:l.length=1024) (hi:i<s.np) (hp:s.p.length<900000):
  aJ Tryz.prog 115 [.ptr x.P 0,.int .i64 i,.sl 1 (ar l) .any] h0 fun r h=>r= .int .i64 0∧(∃tk,PgH x {s with p:=s.p++wrs i l 8,tk:=tk} T h)∧cI x h0 h∧aq h0 h:=by
 refine f115.bC af ?_
 unfold GA
 obtain ⟨Z,hZ⟩:∃Z,Z=List.replicate 1024 (AV.int .u8 0):=⟨_,rfl⟩
 rw[←hZ]
 have hZl:Z.length=1024:=by rw[hZ];simp
 have hZc:Z.all aR=true:=by rw[hZ];simp[aR]
 clear hZ
 have z3:List.drop 1024 Z=[]:=List.drop_eq_nil_of_le ab
 have y1:(ar l).length=1024:=by simp[ar,hl]
 refine rf0 (cj2 hZl hZc) ?_
 refine an.opA ae (by simp only[fK,jP,jO,go_sem,reduceIte,Nat.reduceEqDiff,Nat.reduceAdd,bx,ax,if_true,if_false,Nat.reduceMul,Nat.reduceLeDiff,hZl,y1,List.map,Nat.zero_add,Nat.one_mul,Nat.mul_one,Nat.reduceLeDiff,and_self,Int.toNat_zero,Nat.sub_zero,Nat.reduceMul];exact rfl) ?_
 simp only[bX]
 have y2:(ar l).all aR=true:=by simp[ar,byte,aR]
 have m3:Int.toNat 1024≤1024:=by decide
 have m1:min 1024 (Int.toNat 1024)=1024:=rfl
 have m2:List.take 1024 (ar l)=ar l:=List.take_of_length_le ab
 refine an.evF xAc ?_
 refine an.opA ae (by simp only[fK,jP,jO,go_sem,reduceIte,Nat.reduceEqDiff,Nat.reduceAdd,bx,ax,if_true,if_false,Nat.reduceMul,Nat.reduceLeDiff,m1,m2,m3,y2,hZl,y1,z3,Nat.min_self,List.append_nil,List.take_zero,List.nil_append,Nat.zero_add,Nat.reduceLeDiff,and_self,ne_eq,not_false_eq_true,not_true];exact rfl) ?_
 simp only[bX]
 refine an.nil ?_
 rw[bB]
 have j0:OvI x s T i l h0 0 {h0 with objs:=upd h0.objs h0.n (some (.cells (ar l))),n:=h0.n+1}:=by
  have lt:=g.lt
  have q:∀j,j<h0.n→upd h0.objs h0.n (some (Av.Obj.cells (ar l))) j=h0.objs j:=fun j hj=>by simp only[upd];rw[if_neg ab]
  refine ⟨ab,⟨s.tk,?_⟩,by simp[upd],fun j hj _ _ _ _ _ _=>q j hj,fun j hj=>?_,Nat.le_refl _,Nat.le_refl _⟩
  ·have e0:({s with p:=s.p++wrs i l 0,tk:=s.tk}:PgS)=s:=by cases s;simp[wrs]
   rw[e0]
   refine g.keep q (Nat.le_succ _) (fun j hj=>?_) rfl (Nat.le_refl _)
   simp only[upd]
   simp only at hj
   rw[if_neg ab]
   exact g.fresh j ab
  ·simp only[upd] at hj
   by_cases e:j=h0.n
   ·exact .inr ⟨ab,by simp only;omega⟩
   ·rw[if_neg e] at hj;exact .inl hj
 generalize hh1:(⟨upd h0.objs h0.n (some (.cells (ar l))),h0.n+1,h0.toks,h0.m⟩:H)=h1 at*
 refine Wp.le (s':=⟨tm [(0,.ptr x.P 0),(1,.int .i64 i),(7,.ptr h0.n 0)],h1⟩) (aM.tm ?_) ?_
 ·exact xSb
 refine rf0 @and_self ?_
 refine Wp.eI [0,1,7] xA7 (fun b:Nat × H=>[(14,.int .i64 (b.1:Int))]) (fun b=>b.2) (fun b=>OvI x s T i l h0 b.1 b.2) (fun b=>8 - b.1) (0,h1) j0 rfl ?_ ?_
 ·exact xSb
 clear hh1 j0 h1
 rintro ⟨k,h⟩ o
 simp only at o
 obtain ⟨tk,g2⟩:=o.pg
 by_cases hk:k<8
 ·have d1:decide ((k:Int)<8)=true:=decide_eq_true ab
  have w1:IntKind.i64.wrap ((k:Int)*128)=((k*128:Nat):Int):=by rw[IntWalk.i64_in _ ab];omega
  have w2:IntKind.i64.wrap ((k:Int)+1)=((k+1:Nat):Int):=by rw[IntWalk.i64_in _ ab];rfl
  have w3:IntKind.i64.wrap (((k+1:Nat):Int)*128)=(((k+1)*128:Nat):Int):=by rw[IntWalk.i64_in _ ab];omega
  have wh:=o.wh
  refine rf0 (cj4 d1 w1 w2 w3) ?_
  have s1:(0:Int)≤((k*128:Nat):Int):=by omega
  have s2:((k*128:Nat):Int)≤(((k+1)*128:Nat):Int):=by omega
  have s3:(((k+1)*128:Nat):Int)≤((1024:Nat):Int):=by omega
  have s4:(k+1)*128 - k*128=128:=by omega
  refine an.opA ae (by simp only[fK,jP,jO,go_sem,reduceIte,Nat.reduceEqDiff,Nat.reduceAdd,bx,ax,if_true,if_false,Nat.reduceMul,Nat.reduceLeDiff,wh,s1,s2,s3,s4,y1,Int.toNat_natCast,Nat.zero_add,Nat.mul_one,Nat.one_mul,Nat.reduceLeDiff,and_self];exact rfl) ?_
  simp only[bX]
  refine an.evF xAc ?_
  refine an.nil ?_
  have oP:=g2.oP
  have v1:IntKind.i64.wrap ((i:Int)*8)=((i*8:Nat):Int):=by rw[IntWalk.i64_in _ ab];omega
  have v2:IntKind.i64.wrap (0+((i*8:Nat):Int))=((i*8:Nat):Int):=by rw[IntWalk.i64_in _ ab];omega
  have v3:IntKind.i64.wrap (((i*8:Nat):Int)+(k:Int))=((i*8+k:Nat):Int):=by rw[IntWalk.i64_in _ ab];rfl
  refine Wp.seq (Wp.reg ?_)
  refine ao.part 14 (xAe (cj4 oP v1 v2 v3)) ?_
  simp only[List.drop_succ_cons,List.drop_zero,List.drop_nil]
  refine ao.ba ae xA4 (fun j hj=>?_) (Eo g.lt.2.2.2.1 o np1 hk hl hi hp) (fun r h' hq=>hq.2.2) fun r h' hq hn hm=>?_
  ·rcases Nat.lt_or_ge j h.n with h1|h1
   ·exact h1
   ·rw[g2.fresh j h1] at hj;cases hj
  obtain ⟨rfl,o2,-⟩:=hq
  refine ao.part 1 xA1 ?_
  simp only[List.drop_succ_cons,List.drop_zero,List.drop_nil]
  refine ao.nil ⟨by simp[bf,aQ,apart,aX],?_⟩
  refine rf0 w2 ?_
  refine ⟨(k+1,h'),o2,by simp only;omega,?_⟩
  refine aM.tm ?_
  exact xSb
 ·have e8:k=8:=by have:=o.le;omega
  subst e8
  have d1:decide (((8:Nat):Int)<8)=false:=by decide
  refine rf0 d1 ?_
  refine Wp.ret ⟨trivial,.int .i64 0,?_,rfl,⟨tk,g2⟩,o.sm,o.no⟩
  simp only[go_sem]
  exact rfl
theorem qi {ws:List W} {np i:Nat} (h:kC ws np=some i):i<np∧eU ws i=false:=by
 obtain ⟨h1,h2,-⟩:=List.find?_range_eq_some.1 h
 exact ⟨List.mem_range.1 h2,by simpa using h1⟩
theorem tC {st:List Nat} {i:Nat} (hi:i<st.length) (z:Nat) (zi:Int) (e:zi=(z:Int)):List.take i (iy st)++[.int .i64 zi]++List.drop (i+1) (iy st)=iy (st.set i z):=by
 unfold iy
 rw[List.map_set,List.set_eq_take_append_cons_drop,if_pos (by simpa using hi),e]
 simp
theorem mg {st:List Nat} {i:Nat} (hi:i<st.length):(iy st)[i]? =some (.int .i64 (st.getD i 0:Nat)):=by
 simp[iy,List.getD,List.getElem?_eq_getElem hi]
section
variable {x:PgI} {s:PgS} {T:List Nat} {h:H} {i:Nat} {l:List UInt8}
theorem uZ (g:PgH x s T h) (ok:cu s) (hl:l.length=1024) (hf:kC s.ws s.np=some i) (hp:s.p.length<900000):
  aJ Tryz.prog 84 [.ptr x.P 0,.sl 1 (ar l) .any] h fun r h'=>r= .tup [.int .i64 i,.int .i64 0]∧(∃tk,PgH x {s with ws:=setW s.ws i true,st:=s.st.set i 2,p:=s.p++wrs i l 8,tk:=tk} T h')∧cI x h h'∧aq h h':=by
 refine f84.bC af ?_
 unfold c84 zz
 have hi:=(qi hf).1
 have np1:=ok.np1
 have c1:=iX g
 have c2:=Ar (F:=h.objs) (n:=h.n) (T:=h.toks) (m:=h.m) g.oA g.oU g.ne.2.2.2.2.2.1 (by rw[ok.wl];omega) ab hf hi
 have oP:=g.oP
 have y1:(ar l).length=1024:=by simp[ar,hl]
 have d1:decide ((1024:Int)<((1024:Nat):Int))=false:=by decide
 have d2:decide ((0:Int)=0)=true:=by decide
 have g1:=g.tB (ju s.ws i true)
 refine rg2 (cj6 oP y1 d1 d2 @Bool.not_true @Bool.not_false) c1 c2 ?_
 refine an.ba ae xA4 (Cv g1 np1 hl hi hp) fun r h2 ⟨hr,⟨tk,g2⟩,sm,no⟩ hn2 _=>?_
 subst hr
 have si:i<s.st.length:=by rw[ok.st];exact hi
 have oP2:=g2.oP
 have oI2:=g2.oI
 have e1:(0:Int)≤(i:Int):=by omega
 have e2:(i:Int)<(s.st.length:Int):=by omega
 have e3:i+1≤(iy s.st).length:=by simp[iy];omega
 simp only at oP2 oI2
 refine an.evF xAc ?_
 refine an.nil ?_
 refine rf0 (sU oP2 oI2 e1 e2 e3 d2 @Bool.not_true @Int.toNat_natCast @and_self @Nat.zero_add @Nat.mul_one) ?_
 rw[tC si 2 2 rfl]
 refine Wp.ret ⟨trivial,.tup [.int .i64 i,.int .i64 0],?_,rfl,⟨tk,g2.nP af⟩,?_,?_⟩
 ·simp only[go_sem]
  exact rfl
 ·exact (cI.tB.trans sm (Nat.le_refl _)).trans cI.nP hn2
 ·exact aq.trans (aq.trans (aq.set g.oU) no (Nat.le_refl _) hn2) (aq.set g2.oI) hn2 (Nat.le_refl _)
theorem tD (g:PgH x s T h) (hl:l.length=1024) (hi:i<s.st.length) (hf:s.st.getD i 0≠2):
  aK Tryz.prog 109 [.ptr x.P 0,.int .i64 i,.sl 1 (ar l) .any] h (.int .i64 7) h:=by
 refine f109.cd af ?_
 unfold Fs zz
 have c1:=iX g
 have c2:=mZ g hi
 have oP:=g.oP
 have oI:=g.oI
 have y1:(ar l).length=1024:=by simp[ar,hl]
 have d1:decide ((1024:Int)<((1024:Nat):Int))=false:=by decide
 have d2:decide (((s.st.getD i 0:Nat):Int)=2)=false:=decide_eq_false ab
 have e1:(0:Int)≤(i:Int):=by omega
 have e2:(i:Int)<(s.st.length:Int):=by omega
 have e3:=mg hi
 refine rg2 (cL oP oI e1 e2 e3 y1 d1 d2 @Bool.not_true @Bool.not_false @Int.toNat_natCast (cj3 @and_self @Nat.zero_add @Nat.mul_one)) c1 c2 ?_
 refine Wp.ret ⟨trivial,_,?_,av.refl _,rfl⟩
 simp only[go_sem]
 exact rfl
theorem tE (g:PgH x s T h) (np1:s.np≤500) (hl:l.length=1024) (hn:i<s.np) (hi:i<s.st.length) (hf:s.st.getD i 0=2) (hp:s.p.length<900000):
  aJ Tryz.prog 109 [.ptr x.P 0,.int .i64 i,.sl 1 (ar l) .any] h fun r h'=>r= .int .i64 0∧(∃tk,PgH x {s with p:=s.p++wrs i l 8,tk:=tk} T h')∧cI x h h'∧aq h h':=by
 refine f109.bC af ?_
 unfold Fs zz
 have c1:=iX g
 have c2:=mZ g hi
 have oP:=g.oP
 have oI:=g.oI
 have y1:(ar l).length=1024:=by simp[ar,hl]
 have d1:decide ((1024:Int)<((1024:Nat):Int))=false:=by decide
 have d2:decide (((s.st.getD i 0:Nat):Int)=2)=true:=decide_eq_true ab
 have e1:(0:Int)≤(i:Int):=by omega
 have e2:(i:Int)<(s.st.length:Int):=by omega
 have e3:=mg hi
 refine rg2 (cL oP oI e1 e2 e3 y1 d1 d2 @Bool.not_true @Bool.not_false @Int.toNat_natCast (cj3 @and_self @Nat.zero_add @Nat.mul_one)) c1 c2 ?_
 refine an.ba ae xA4 (Cv g np1 hl hn hp) fun r h2 ⟨hr,g2,sm,no⟩ hn2 _=>?_
 subst hr
 refine an.evF xAc ?_
 refine an.nil ?_
 refine Wp.ret ⟨trivial,.int .i64 0,?_,rfl,g2,sm,no⟩
 simp only[go_sem]
 exact rfl
theorem yb (g:PgH x s T h) (ok:cu s) (hi:i<s.np) (hf:s.st.getD i 0≠0):
  aK Tryz.prog 82 [.ptr x.P 0,.int .i64 i] h (.tup []) {h with objs:=upd (upd h.objs x.U (some (.cells (du (setW s.ws i false))))) x.I (some (.cells (iy (s.st.set i 0))))}:=by
 refine f82.cd af ?_
 unfold c82 zz
 have np1:=ok.np1
 have c2:=FO (F:=h.objs) (n:=h.n) (T:=h.toks) (m:=h.m) g.oA g.oU g.ne.2.2.2.2.2.1 (by rw[ok.wl];omega) ab hi (by rw[ok.bit,decide_eq_true hi,decide_eq_false hf];rfl)
 have g1:=g.tB (ju s.ws i false)
 have si:i<s.st.length:=by rw[ok.st];exact hi
 have oP:=g.oP
 have oP2:=g1.oP
 have oI2:=g1.oI
 simp only at oP2 oI2
 have e1:(0:Int)≤(i:Int):=by omega
 have e2:(i:Int)<(s.st.length:Int):=by omega
 have e3:i+1≤(iy s.st).length:=by simp[iy];omega
 refine rg1 oP c2 ?_
 generalize upd h.objs x.U (some (Av.Obj.cells (du (setW s.ws i false))))=Y at oP2 oI2 ⊢
 refine rf0 (cj9 oP2 oI2 e1 e2 e3 @Int.toNat_natCast @and_self @Nat.zero_add @Nat.mul_one) ?_
 rw[tC si 0 0 rfl]
 exact ⟨trivial,.tup [],rfl,av.refl _,rfl⟩
theorem qM (g:PgH x s T h) (ok:cu s) (hi:i<s.np) (hf:s.st.getD i 0=2):
  aK Tryz.prog 48 [.ptr x.P 0,.int .i64 i] h (.int .i64 0) {h with objs:=upd (upd h.objs x.U (some (.cells (du (setW s.ws i false))))) x.I (some (.cells (iy (s.st.set i 0))))}:=by
 refine f48.cd af ?_
 unfold c48 zz
 have si:i<s.st.length:=by rw[ok.st];exact hi
 have c1:=iX g
 have c2:=mZ g si
 have c3:=yb g ok hi ab
 have oP:=g.oP
 have oI:=g.oI
 have d2:decide (((s.st.getD i 0:Nat):Int)=2)=true:=decide_eq_true ab
 have e1:(0:Int)≤(i:Int):=by omega
 have e2:(i:Int)<(s.st.length:Int):=by omega
 have e3:=mg si
 refine rg3 (cL oP oI e1 e2 e3 d2 @Bool.not_true @Bool.not_false @Int.toNat_natCast @and_self @Nat.zero_add @Nat.mul_one) c1 c2 c3 ?_
 refine Wp.ret ⟨trivial,_,?_,av.refl _,rfl⟩
 simp only[go_sem]
 exact rfl
theorem jY (g:PgH x s T h) (ok:cu s) (hi:i<s.np) (hf:s.st.getD i 0=1):
  aK Tryz.prog 48 [.ptr x.P 0,.int .i64 i] h (.int .i64 0) {h with objs:=upd h.objs x.I (some (.cells (iy (s.st.set i 3))))}:=by
 refine f48.cd af ?_
 unfold c48 zz
 have si:i<s.st.length:=by rw[ok.st];exact hi
 have c1:=iX g
 have c2:=mZ g si
 have oP:=g.oP
 have oI:=g.oI
 have d2:decide (((s.st.getD i 0:Nat):Int)=2)=false:=decide_eq_false ab
 have d3:decide (((s.st.getD i 0:Nat):Int)=1)=true:=decide_eq_true ab
 have e1:(0:Int)≤(i:Int):=by omega
 have e2:(i:Int)<(s.st.length:Int):=by omega
 have e3:=mg si
 have e4:i+1≤(iy s.st).length:=by simp[iy];omega
 refine rg2 (cL oP oI e1 e2 e3 e4 d2 d3 @Bool.not_true @Bool.not_false @Int.toNat_natCast (cj3 @and_self @Nat.zero_add @Nat.mul_one)) c1 c2 ?_
 rw[tC si 3 3 rfl]
 refine Wp.ret ⟨trivial,_,?_,av.refl _,rfl⟩
 simp only[go_sem]
 exact rfl
theorem cu.drop (ok:cu s) (hi:i<s.np):cu {s with ws:=setW s.ws i false,st:=s.st.set i 0} where
 np0:=ok.np0
 np1:=ok.np1
 st:=by simp[ok.st]
 st3:=fun j=>by
  have:=ok.st3 j
  simp only[List.getD_eq_getElem?_getD,List.getElem?_set] at this ⊢
  split
  ·split<;>simp
  ·exact this
 wl:=by simp only[ju];exact ok.wl
 bit:=fun j=>by
  have hw:i/64<s.ws.length:=by rw[ok.wl];omega
  simp only
  rw[rS hw]
  by_cases e:j=i
  ·rw[if_pos e,e]
   simp[List.getD_eq_getElem?_getD,ok.st,hi]
  ·rw[if_neg e,ok.bit]
   simp[List.getD_eq_getElem?_getD,List.getElem?_set,Ne.symm e]
 pl:=ok.pl
 dl:=ok.dl
theorem cu.set (ok:cu s) (hi:i<s.np) {z:Nat} (hz:z≤3) (h0:z≠0) (hs:s.st.getD i 0≠0):cu {s with st:=s.st.set i z} where
 np0:=ok.np0
 np1:=ok.np1
 st:=by simp[ok.st]
 st3:=fun j=>by
  have:=ok.st3 j
  simp only[List.getD_eq_getElem?_getD,List.getElem?_set] at this ⊢
  split
  ·split<;>simp[hz]
  ·exact this
 wl:=ok.wl
 bit:=fun j=>by
  simp only
  rw[ok.bit]
  by_cases e:j=i
  ·rw[e]
   have si:i<s.st.length:=by rw[ok.st];exact hi
   have hs':¬s.st[i]=0:=by simpa [List.getD_eq_getElem?_getD,List.getElem?_eq_getElem si] using hs
   simp[List.getD_eq_getElem?_getD,ok.st,hi,h0,hs']
  ·simp[List.getD_eq_getElem?_getD,List.getElem?_set,Ne.symm e]
 pl:=ok.pl
 dl:=ok.dl
theorem cu.more (ok:cu s) {p:List (Nat × List UInt8)} {tk:Option Nat} (hp:∀x∈p,x.2.length=128∧x.1<8*s.np):cu {s with p:=s.p++p,tk:=tk} where
 np0:=ok.np0
 np1:=ok.np1
 st:=ok.st
 st3:=ok.st3
 wl:=ok.wl
 bit:=ok.bit
 pl:=fun x hx=>(List.mem_append.1 hx).elim (ok.pl x) (hp x)
 dl:=ok.dl
theorem tF (hl:l.length=1024) (hi:i<s.np):∀x∈wrs i l 8,x.2.length=128∧x.1<8*s.np:=by
 intro x hx
 obtain ⟨k,hk,rfl⟩:=List.mem_map.1 hx
 have:=List.mem_range.1 hk
 exact ⟨by simp;omega,by simp only;omega⟩
theorem cu.take (ok:cu s) (hi:i<s.np) {z:Nat} (hz:z≤3) (h0:z≠0):cu {s with ws:=setW s.ws i true,st:=s.st.set i z} where
 np0:=ok.np0
 np1:=ok.np1
 st:=by simp[ok.st]
 st3:=fun j=>by
  have:=ok.st3 j
  simp only[List.getD_eq_getElem?_getD,List.getElem?_set] at this ⊢
  split
  ·split<;>simp[hz]
  ·exact this
 wl:=by simp only[ju];exact ok.wl
 bit:=fun j=>by
  have hw:i/64<s.ws.length:=by rw[ok.wl];omega
  simp only
  rw[rS hw]
  by_cases e:j=i
  ·rw[if_pos e,e]
   simp[List.getD_eq_getElem?_getD,ok.st,hi,h0]
  ·rw[if_neg e,ok.bit]
   simp[List.getD_eq_getElem?_getD,List.getElem?_set,Ne.symm e]
 pl:=ok.pl
 dl:=ok.dl
end
def gN (a b z:Nat):Nat:=if z=a then 0 else if z=b then 1 else z
def ff (a b:Nat) (l:List Nat) (j:Nat):List Nat:=(l.take j).map (gN a b)++l.drop j
theorem rU (a b:Nat) (l:List Nat) (j:Nat):(ff a b l j).length=l.length:=by simp[ff];omega
theorem rV {a b:Nat} {l:List Nat} {j:Nat} (h:j<l.length):(ff a b l j).getD j 0=l.getD j 0:=by
 simp[ff,List.getD_eq_getElem?_getD,List.getElem?_append,Nat.min_eq_left (Nat.le_of_lt h)]
theorem wT {a b:Nat} {l:List Nat} {j:Nat} (h:j<l.length):ff a b l (j+1)=(ff a b l j).set j (gN a b (l.getD j 0)):=by
 unfold ff
 have e1:l.drop j=l[j]::l.drop (j+1):=List.drop_eq_getElem_cons h
 have e2:((l.take j).map (gN a b)).length=j:=by simp;omega
 rw[e1,List.set_append_right _ _ ab,e2,Nat.sub_self,List.set_cons_zero,List.take_succ_eq_append_getElem h,List.map_append,List.append_assoc]
 simp[List.getD_eq_getElem?_getD,List.getElem?_eq_getElem h]
theorem Cw {l:List Nat} {j:Nat} (h:j<l.length):l.set j (l.getD j 0)=l:=by
 simp[List.getD_eq_getElem?_getD,List.getElem?_eq_getElem h]
structure TuI (x:PgI) (s:PgS) (T:List Nat) (a b:Nat) (h0:H) (k:Nat) (h:H):Prop where
 le:k≤s.np
 pg:∃ws,PgH x {s with ws:=ws,st:=ff a b s.st k} T h∧cu {s with ws:=ws,st:=ff a b s.st k}
 sm:cI x h0 h
 no:aq h0 h
 ln:h.n=h0.n
set_option maxHeartbeats 1000000 in
theorem Cx {x:PgI} {s:PgS} {T:List Nat} {h0:H} (g:PgH x s T h0) (ok:cu s) {a b:Nat} (ha:a≠0) (hb:b≠0) (hab:a≠b):
  aJ Tryz.prog 53 [.ptr x.P 0,.int .i64 (a:Int),.int .i64 (b:Int)] h0 fun r h=>r= .int .i64 0∧TuI x s T a b h0 s.np h:=by
 refine f53.bC af ?_
 unfold c53 zz
 have np1:=ok.np1
 have c1:=iX g
 have oP:=g.oP
 refine rg1 (cj2 oP @Bool.not_true) c1 ?_
 have j0:TuI x s T a b h0 0 h0:=by
  refine ⟨Nat.zero_le _,⟨s.ws,?_⟩,cI.refl _ _,aq.refl _,rfl⟩
  have e:({s with ws:=s.ws,st:=ff a b s.st 0}:PgS)=s:=by cases s;simp[ff]
  rw[e]
  exact ⟨g,ok⟩
 refine Wp.eI [0,1,2,15,16] xA7 (fun b:Nat × H=>[(17,.int .i64 (b.1:Int))]) (fun b=>b.2) (fun q=>TuI x s T a b h0 q.1 q.2) (fun b=>s.np - b.1) (0,h0) j0 rfl ?_ ?_
 ·exact xSb
 rintro ⟨k,h⟩ o
 simp only at o
 obtain ⟨ws,g2,ok2⟩:=o.pg
 by_cases hk:k<s.np
 ·have sk:k<s.st.length:=by rw[ok.st];exact hk
  have d1:decide ((k:Int)<(s.st.length:Int))=true:=decide_eq_true ab
  have e1:(0:Int)≤(k:Int):=by omega
  have e2:(k:Int)<(s.st.length:Int):=by omega
  have oI:=g2.oI
  have e3:=mg (st:=ff a b s.st k) (i:=k) (by rw[rU];exact sk)
  rw[rV sk] at e3
  have w1:IntKind.i64.wrap ((k:Int)+1)=((k+1:Nat):Int):=by rw[IntWalk.i64_in _ ab];rfl
  simp only at oI
  have fin:∀(h':H) (ws':List W) (z:Nat),z=gN a b (s.st.getD k 0)→PgH x {s with ws:=ws',st:=(ff a b s.st k).set k z} T h'→cu {s with ws:=ws',st:=(ff a b s.st k).set k z}→cI x h h'→aq h h'→h'.n=h.n→TuI x s T a b h0 (k+1) h':=by
   intro h' ws' z hz p1 p2 p3 p4 p5
   refine ⟨hk,⟨ws',?_⟩,o.sm.trans p3 (by rw[o.ln];exact Nat.le_refl _),aq.trans o.no p4 (by rw[o.ln];exact Nat.le_refl _) ab,p5.trans o.ln⟩
   rw[wT sk,←hz]
   exact ⟨p1,p2⟩
  refine rf0 (cj9 d1 oI e1 e2 e3 @Int.toNat_natCast @and_self @Nat.zero_add @Nat.mul_one) ?_
  have tg:=rV (a:=a) (b:=b) sk
  have tl:=rU a b s.st k
  by_cases za:s.st.getD k 0=a
  ·have d2:decide (((s.st.getD k 0:Nat):Int)=(a:Int))=true:=decide_eq_true ab
   have c3:=yb (i:=k) g2 ok2 hk (by simp only;rw[tg,za];exact ha)
   simp only at c3
   refine rg1 (cj2 d2 w1) c3 ?_
   refine ⟨(k+1,_),fin _ (setW ws k false) 0 (by rw[gN,if_pos za]) ((g2.tB (ju ws k false)).nP af) (ok2.drop hk) (cI.tB.trans cI.nP (Nat.le_refl _)) (aq.trans (aq.set g2.oU) (aq.set (g2.tB (ju ws k false)).oI) (Nat.le_refl _) (Nat.le_refl _)) rfl,by simp only;omega,?_⟩
   refine aM.tm ?_
   exact xSb
  ·have d2:decide (((s.st.getD k 0:Nat):Int)=(a:Int))=false:=decide_eq_false ab
   by_cases zb:s.st.getD k 0=b
   ·have d3:decide (((s.st.getD k 0:Nat):Int)=(b:Int))=true:=decide_eq_true ab
    have oP2:=g2.oP
    simp only at oP2
    have e2':(k:Int)<((ff a b s.st k).length:Int):=by rw[tl];exact e2
    have e4:k+1≤(iy (ff a b s.st k)).length:=by simp[iy,tl];omega
    refine rf0 (cL d2 d3 oP2 oI e1 e2' e4 @Int.toNat_natCast @and_self @Nat.zero_add @Nat.mul_one w1) ?_
    rw[tC (by rw[tl];exact sk) 1 1 rfl]
    refine ⟨(k+1,_),fin _ ws 1 (by rw[gN,if_neg za,if_pos zb]) (g2.nP af) (ok2.set hk ab ab (by simp only;rw[tg,zb];exact hb)) cI.nP (aq.set g2.oI) rfl,by simp only;omega,?_⟩
    refine aM.tm ?_
    exact xSb
   ·have d3:decide (((s.st.getD k 0:Nat):Int)=(b:Int))=false:=decide_eq_false ab
    have es:(ff a b s.st k).set k (s.st.getD k 0)=ff a b s.st k:=by
     rw[←tg];exact Cw (by rw[tl];exact sk)
    refine rf0 (cj3 d2 d3 w1) ?_
    refine ⟨(k+1,h),fin _ ws (s.st.getD k 0) (by rw[gN,if_neg za,if_neg zb]) (by rw[es];exact g2) (by rw[es];exact ok2) (cI.refl _ _) (aq.refl _) rfl,by simp only;omega,?_⟩
    refine aM.tm ?_
    exact xSb
 ·have e8:k=s.np:=by have:=o.le;omega
  subst e8
  have d1:decide ((s.np:Int)<(s.st.length:Int))=false:=decide_eq_false (by rw[ok.st];omega)
  refine rf0 d1 ?_
  refine Wp.ret ⟨trivial,.int .i64 0,?_,rfl,o⟩
  simp only[go_sem]
  exact rfl
theorem Cy {x:PgI} {s:PgS} {T:List Nat} {h0:H} (g:PgH x s T h0) (ok:cu s):
  aJ Tryz.prog 22 [.ptr x.P 0] h0 fun r h=>r= .int .i64 0∧TuI x s T 3 2 h0 s.np h:=by
 refine f22.bC af ?_
 unfold c22 zz
 have c:=Cx g ok (a:=3) (b:=2) ah ah ah
 refine rf0 @and_self ?_
 refine an.ba ae xA4 c fun r h2 ⟨hr,o⟩ _ _=>?_
 subst hr
 refine an.evF xAc ?_
 refine an.nil ?_
 refine Wp.ret ⟨trivial,.int .i64 0,?_,rfl,o⟩
 simp only[go_sem]
 exact rfl
theorem FX {x:PgI} {s:PgS} {T:List Nat} {h0:H} (g:PgH x s T h0) (ok:cu s):
  aJ Tryz.prog 25 [.ptr x.P 0] h0 fun r h=>r= .int .i64 0∧TuI x s T 2 3 h0 s.np h:=by
 refine f25.bC af ?_
 unfold c25 zz
 have c:=Cx g ok (a:=2) (b:=3) ah ah ah
 refine rf0 @and_self ?_
 refine an.ba ae xA4 c fun r h2 ⟨hr,o⟩ _ _=>?_
 subst hr
 refine an.evF xAc ?_
 refine an.nil ?_
 refine Wp.ret ⟨trivial,.int .i64 0,?_,rfl,o⟩
 simp only[go_sem]
 exact rfl
def pgB (p d:List (Nat × List UInt8)) (i:Nat):Nat→List UInt8
 |0=>[]
 |k+1=>pgB p d i k++rdP p d (i*8+k)
theorem tG {p d:List (Nat × List UInt8)} (hd:∀x∈d,x.2.length=128) (hl:∀x∈p,x.2.length=128) (i:Nat):(rdP p d i).length=128:=by
 refine jt (M:=fun p=>(∀x∈p,x.2.length=128)→(rdP p d i).length=128) (fun _=>jo hd i) (fun p x ih h=>?_) p hl
 rw[iw]
 split
 ·exact h x af
 ·exact ih fun y hy=>h y (by simp[hy])
theorem yd {p d:List (Nat × List UInt8)} (hd:∀x∈d,x.2.length=128) (hl:∀x∈p,x.2.length=128) (i:Nat):∀k,(pgB p d i k).length=k*128
 |0=>rfl
 |k+1=>by rw[pgB,List.length_append,yd hd hl i k,tG hd hl];omega
def RdT (L:List Nat) (m0:Nat) (k:Nat) (c:Cap) (toks:List Nat):Prop:=(k=0∧c= .exact 0∧toks=L)∨∃t,m0≤t∧c= .own t∧toks=t::L
set_option maxHeartbeats 1000000 in
theorem ye {x:PgI} {s:PgS} {T:List Nat} {h:H} (g:PgH x s T h) (ok:cu s) {i:Nat} (hi:i<s.np) (hs:s.st.getD i 0≠0) (hp:s.p.length<900000):
  aJ Tryz.prog 71 [.ptr x.P 0,.int .i64 i] h fun r h'=>r= .tup [.sl 1 (ar (pgB s.p s.d i 8)) .any,.int .i64 0]∧PgH x s T h'∧h'.objs=h.objs:=by
 refine f71.bC af ?_
 unfold c71 zz
 have np1:=ok.np1
 have si:i<s.st.length:=by rw[ok.st];exact hi
 have c1:=iX g
 have c2:=mZ g si
 have oP:=g.oP
 have oI:=g.oI
 have e1:(0:Int)≤(i:Int):=by omega
 have e2:(i:Int)<(s.st.length:Int):=by omega
 have e3:=mg si
 have d0:decide (((s.st.getD i 0:Nat):Int)=0)=false:=decide_eq_false ab
 have c3:aK Tryz.prog 92 [.int .i64 ((s.st.getD i 0:Nat):Int)] h (.bool true) h:=by
  refine f92.cd af ?_
  unfold c92 zz
  refine rf0 (cj2 d0 @Bool.not_false) ?_
  refine Wp.ret ⟨trivial,_,?_,av.refl _,rfl⟩
  simp only[go_sem]
  exact rfl
 refine rg3 (sU oP oI e1 e2 e3 @Bool.not_true @Bool.not_false @Int.toNat_natCast @and_self @Nat.zero_add @Nat.mul_one) c1 c2 c3 ?_
 refine Wp.loop (fun b:Nat × Nat × Nat × List Nat × Cap=>⟨tm [(0,.ptr x.P 0),(1,.int .i64 i),(6,.sl 1 (ar (pgB s.p s.d i b.1)) b.2.2.2.2),(29,.int .i64 (b.1:Int))],⟨h.objs,b.2.1,b.2.2.2.1,b.2.2.1⟩⟩) (fun b=>b.1≤8∧h.n≤b.2.1∧h.m≤b.2.2.1∧(∀t,b.2.2.2.2= .own t→t<b.2.2.1)∧RdT h.toks h.m b.1 b.2.2.2.2 b.2.2.2.1) (fun b=>8 - b.1) (0,h.n,h.m,h.toks,.exact 0) ⟨ab,Nat.le_refl _,Nat.le_refl _,(fun t e=>by cases e),.inl ⟨rfl,rfl,rfl⟩⟩ ?_ ?_
 ·refine aM.tm ?_
  exact xSb
 rintro ⟨k,n',m',toks,c⟩ ⟨hk,hn,hm,hc,ht⟩
 simp only at hk hn hm hc ht
 by_cases hk8:k<8
 ·have d1:decide ((k:Int)<8)=true:=decide_eq_true ab
  have v1:IntKind.i64.wrap ((i:Int)*8)=((i*8:Nat):Int):=by rw[IntWalk.i64_in _ ab];omega
  have v2:IntKind.i64.wrap (0+((i*8:Nat):Int))=((i*8:Nat):Int):=by rw[IntWalk.i64_in _ ab];omega
  have v3:IntKind.i64.wrap (((i*8:Nat):Int)+(k:Int))=((i*8+k:Nat):Int):=by rw[IntWalk.i64_in _ ab];rfl
  have w2:IntKind.i64.wrap ((k:Int)+1)=((k+1:Nat):Int):=by rw[IntWalk.i64_in _ ab];rfl
  have d2:decide ((0:Int)=0)=true:=by decide
  have lt:=g.lt
  obtain ⟨n2,hn2,rd⟩:=FI (n:=n') (m:=m') (T:=toks) (i:=i*8+k) g.oD g.oK ok.dl (fun y hy=>(ok.pl y hy).1) ab ab ab (fun j hj=>g.fresh j ab) ab
  refine rf0 d1 ?_
  refine Wp.reg ?_
  refine ao.part 13 (xAe (cj4 oP v1 v2 v3)) ?_
  simp only[List.drop_succ_cons,List.drop_zero,List.drop_nil]
  refine ao.ba (Q:=fun r h'=>r= .tup [.sl 1 (ar (rdP s.p s.d (i*8+k))) .any,.int .i64 0]∧h'=⟨h.objs,n2,toks,m'⟩) ae xA4 (fun j hj=>?_) ⟨_,_,rd,hn2,Nat.le_refl _,⟨rfl,rfl⟩⟩ (fun r h' hq=>?_) fun r h' hq hn3 hm3=>?_
  ·rcases Nat.lt_or_ge j h.n with h1|h1
   ·simp only;omega
   ·simp only at hj;rw[g.fresh j h1] at hj;cases hj
  ·obtain ⟨-,rfl⟩:=hq
   exact fun j hj=> .inl hj
  obtain ⟨rfl,rfl⟩:=hq
  refine ao.part 5 xA1 ?_
  simp only[List.drop_succ_cons,List.drop_zero,List.drop_nil]
  refine ao.nil ⟨by simp[bf,aQ,apart,aX],?_⟩
  refine rf0 (cj2 d2 @Bool.not_true) ?_
  have y1:(ar (pgB s.p s.d i k)).length=k*128:=by
   simp only[ar,List.length_map]
   exact yd ok.dl (fun y hy=>(ok.pl y hy).1) i k
  have y2:(ar (rdP s.p s.d (i*8+k))).length=128:=by
   simp only[ar,List.length_map]
   exact tG ok.dl (fun y hy=>(ok.pl y hy).1) _
  have ey:ar (pgB s.p s.d i k)++ar (rdP s.p s.d (i*8+k))=ar (pgB s.p s.d i (k+1)):=by simp[ar,pgB]
  have r1:k*128+128≤140737488355328:=by omega
  have r2:k*128+128<4611686018427387904:=by omega
  show Wp _ _ _ _ _
  rcases ht with ⟨rfl,rfl,rfl⟩|⟨t,ht,rfl,rfl⟩
  ·have b0:ar (pgB s.p s.d i 0)=[]:=rfl
   rw[b0]
   rw[b0,List.nil_append] at ey
   have r3:(128:Nat)≤140737488355328:=by decide
   have r4:(128:Nat)<4611686018427387904:=by decide
   have y6:(rdP s.p s.d (i*8)).length=128:=tG ok.dl (fun y hy=>(ok.pl y hy).1) _
   refine rf0 (cL y2 y6 r3 r4 w2 @List.nil_append.{0} @List.length_nil.{0} @Nat.zero_add @Nat.mul_one @true_or @or_true @and_self) ?_
   refine ⟨(0+1,n2,m'+1,m'::h.toks,.own m'),⟨by simp only;omega,by simp only;omega,by simp only;omega,fun t e=>by cases e;exact Nat.lt_succ_self _,.inr ⟨m',hm,rfl,rfl⟩⟩,by simp only;omega,?_⟩
   simp only
   rw[←ey]
   refine aM.tm ?_
   exact xSb
  ·have y5:List.filter (fun x=> !decide (x=t)) h.toks=h.toks:=List.filter_eq_self.2 fun y hy=>by
    have:y≠t:=by
     rw[g.toks] at hy
     have:y<h.m:=by
      cases htk:s.tk with
      |none=>rw[htk] at hy;exact g.tm y hy
      |some t2=>
       rw[htk] at hy
       rcases List.mem_cons.1 hy with rfl|e
       ·exact (g.tkm _ htk).1
       ·exact g.tm y e
     omega
    simp[this]
   refine rf0 (cL y1 y2 y5 r1 r2 ey w2 @Nat.mul_one @List.mem_cons.{0} @true_or @or_true @and_self) ?_
   refine ⟨(k+1,n2,m'+1,m'::h.toks,.own m'),⟨by simp only;omega,by simp only;omega,by simp only;omega,fun t e=>by cases e;exact Nat.lt_succ_self _,.inr ⟨m',hm,rfl,rfl⟩⟩,by simp only;omega,?_⟩
   refine aM.of (bA ?_) (OLe.refl _) (fun y hy=>?_) (Nat.le_refl _) (Nat.le_refl _)
   ·exact xSb
   ·simpa [y5] using hy
 ·have e8:k=8:=by omega
  subst e8
  have d1:decide (((8:Nat):Int)<8)=false:=by decide
  refine rf0 d1 ?_
  have sub:∀y,y∈h.toks→y∈toks:=fun y hy=>by
   rcases ht with ⟨-,-,rfl⟩|⟨t,-,-,rfl⟩
   ·exact hy
   ·exact List.mem_cons_of_mem _ hy
  refine Wp.le (s':=⟨tm [(4,.sl 1 (ar (pgB s.p s.d i 8)) .any),(5,.int .i64 0)],⟨h.objs,n',h.toks,m'⟩⟩) (aM.of (bA ?_) (OLe.refl _) sub (Nat.le_refl _) (Nat.le_refl _)) ?_
  ·simp only[bg,go_sem,reduceIte,Nat.reduceEqDiff,bx]
   exact ⟨av.cap,av.refl _,trivial⟩
  refine Wp.ret ⟨trivial,.tup [.sl 1 (ar (pgB s.p s.d i 8)) .any,.int .i64 0],?_,rfl,?_,rfl⟩
  ·simp only[go_sem]
   exact rfl
  ·exact g.keep (fun _ _=>rfl) hn (fun j hj=>g.fresh j (by simp only at hj;omega)) rfl hm
def cB (st:List Nat) (z:Nat) (k:Nat):List Int:=((List.range k).filter fun j=>decide (st.getD j 0=z)).map fun (j:Nat)=>(j:Int)
theorem oG (st:List Nat) (z k:Nat):cB st z (k+1)=if st.getD k 0=z then cB st z k++[(k:Int)] else cB st z k:=by
 unfold cB
 rw[List.range_succ,List.filter_append,List.map_append]
 by_cases e:st.getD k 0=z
 ·rw[if_pos e,List.filter_cons_of_pos (by simpa using e)];rfl
 ·rw[if_neg e,List.filter_cons_of_neg (by simpa using e)];simp
theorem jT (st:List Nat) (z k:Nat):(cB st z k).length≤k:=by
 unfold cB
 rw[List.length_map]
 exact Nat.le_trans (List.length_filter_le _ _) af
theorem Ep {x:PgI} {s:PgS} {T:List Nat} {h:H} (g:PgH x s T h):∀y∈h.toks,y<h.m:=fun y hy=>by
 rw[g.toks] at hy
 cases htk:s.tk with
 |none=>rw[htk] at hy;exact g.tm y hy
 |some t2=>
  rw[htk] at hy
  rcases List.mem_cons.1 hy with rfl|e
  ·exact (g.tkm _ htk).1
  ·exact g.tm y e
theorem HO {L:List Nat} {t m:Nat} (h:∀y∈L,y<m) (ht:m≤t):List.filter (fun x=> !decide (x=t)) L=L:=List.filter_eq_self.2 fun y hy=>by
 have:=h y hy
 have:y≠t:=by omega
 simp[this]
set_option maxHeartbeats 1000000 in
theorem tH {x:PgI} {s:PgS} {T:List Nat} {h:H} (g:PgH x s T h) (ok:cu s) (z:Nat):
  aJ Tryz.prog 65 [.ptr x.P 0,.int .i64 (z:Int)] h fun r h'=>r= .sl 1 (ints (cB s.st z s.np)) .any∧PgH x s T h'∧h'.objs=h.objs:=by
 refine f65.bC af ?_
 unfold c65 zz
 have np1:=ok.np1
 have oP:=g.oP
 have oI:=g.oI
 refine rf0 oP ?_
 refine Wp.loop (fun b:Nat × Nat × List Nat × Cap=>⟨tm [(0,.ptr x.P 0),(1,.int .i64 (z:Int)),(5,.sl 1 (ints (cB s.st z b.1)) b.2.2.2),(11,.tsl 1 x.I 0 s.st.length none),(12,.int .i64 (s.st.length:Int)),(13,.int .i64 (b.1:Int))],⟨h.objs,h.n,b.2.2.1,b.2.1⟩⟩) (fun b=>b.1≤s.np∧h.m≤b.2.1∧RdT h.toks h.m (cB s.st z b.1).length b.2.2.2 b.2.2.1) (fun b=>s.np - b.1) (0,h.m,h.toks,.exact 0) ⟨ab,Nat.le_refl _,.inl ⟨rfl,rfl,rfl⟩⟩ ?_ ?_
 ·refine aM.tm ?_
  exact xSb
 rintro ⟨k,m',toks,c⟩ ⟨hk,hm,ht⟩
 simp only at hk hm ht
 by_cases hk8:k<s.np
 ·have sk:k<s.st.length:=by rw[ok.st];exact hk8
  have d1:decide ((k:Int)<(s.st.length:Int))=true:=decide_eq_true ab
  have e1:(0:Int)≤(k:Int):=by omega
  have e2:(k:Int)<(s.st.length:Int):=by omega
  have e3:=mg sk
  have w2:IntKind.i64.wrap ((k:Int)+1)=((k+1:Nat):Int):=by rw[IntWalk.i64_in _ ab];rfl
  have el:=jT s.st z k
  have es:=oG s.st z k
  by_cases e:s.st.getD k 0=z
  ·have d2:decide (((s.st.getD k 0:Nat):Int)=(z:Int))=true:=decide_eq_true ab
   rw[if_pos e] at es
   generalize cB s.st z k=L at el es ht
   have ea:ints L++[AV.int .i64 (k:Int)]=ints (cB s.st z (k+1)):=by rw[es];simp[ints]
   rcases ht with ⟨h0,rfl,rfl⟩|⟨t,ht,rfl,rfl⟩
   ·have h0:L=[]:=List.length_eq_zero_iff.1 h0
    subst h0
    have ea2:[AV.int .i64 (k:Int)]=ints (cB s.st z (k+1)):=ea
    have r3:(8:Nat)≤140737488355328:=by decide
    have r4:(1:Nat)<4611686018427387904:=by decide
    have b0:ints []=[]:=rfl
    rw[b0]
    refine rf0 (cL d1 oI e1 e2 e3 @Int.toNat_natCast @and_self @Nat.zero_add @Nat.mul_one d2 w2 (cj8 r3 r4 @List.nil_append.{0} @List.length_nil.{0} @List.length_cons.{0} @Nat.one_mul @true_or @or_true)) ?_
    refine ⟨(k+1,m'+1,m'::h.toks,.own m'),⟨by simp only;omega,by simp only;omega,.inr ⟨m',hm,rfl,rfl⟩⟩,by simp only;omega,?_⟩
    simp only
    rw[←ea2]
    refine aM.tm ?_
    exact xSb
   ·have y5:=HO (Ep g) ht
    have y1:(ints L).length=L.length:=by simp[ints]
    have r1:(L.length+1)*8≤140737488355328:=by omega
    have r2:L.length+1<4611686018427387904:=by omega
    refine rf0 (cL d1 oI e1 e2 e3 @Int.toNat_natCast @and_self @Nat.zero_add @Nat.mul_one d2 w2 (qI y1 y5 r1 r2 ea @List.length_nil.{0} @List.length_cons.{0} @List.mem_cons.{0} @true_or @or_true)) ?_
    refine ⟨(k+1,m'+1,m'::h.toks,.own m'),⟨by simp only;omega,by simp only;omega,.inr ⟨m',hm,rfl,rfl⟩⟩,by simp only;omega,?_⟩
    refine aM.of (bA ?_) (OLe.refl _) (fun y hy=>?_) (Nat.le_refl _) (Nat.le_refl _)
    ·exact xSb
    ·simpa [y5] using hy
  ·have d2:decide (((s.st.getD k 0:Nat):Int)=(z:Int))=false:=decide_eq_false ab
   rw[if_neg e] at es
   rw[←es] at ht ⊢
   refine rf0 (sU d1 oI e1 e2 e3 @Int.toNat_natCast @and_self @Nat.zero_add @Nat.mul_one d2 w2) ?_
   refine ⟨(k+1,m',toks,c),⟨by simp only;omega,by simp only;omega,ht⟩,by simp only;omega,?_⟩
   refine aM.tm ?_
   exact xSb
 ·have e8:k=s.np:=by omega
  subst e8
  have d1:decide ((s.np:Int)<(s.st.length:Int))=false:=decide_eq_false (by rw[ok.st];omega)
  refine rf0 d1 ?_
  have sub:∀y,y∈h.toks→y∈toks:=fun y hy=>by
   rcases ht with ⟨-,-,rfl⟩|⟨t,-,-,rfl⟩
   ·exact hy
   ·exact List.mem_cons_of_mem _ hy
  refine Wp.le (s':=⟨tm [(4,.sl 1 (ints (cB s.st z s.np)) .any)],⟨h.objs,h.n,h.toks,m'⟩⟩) (aM.of (bA ?_) (OLe.refl _) sub (Nat.le_refl _) (Nat.le_refl _)) ?_
  ·simp only[bg,go_sem,reduceIte,Nat.reduceEqDiff,bx]
   exact ⟨av.cap,trivial⟩
  refine Wp.ret ⟨trivial,.sl 1 (ints (cB s.st z s.np)) .any,?_,rfl,?_,rfl⟩
  ·simp only[go_sem]
   exact rfl
  ·exact g.keep (fun _ _=>rfl) (Nat.le_refl _) (fun j hj=>g.fresh j hj) rfl hm
theorem yg {x:PgI} {s:PgS} {T:List Nat} {h:H} (g:PgH x s T h) (ok:cu s):
  aJ Tryz.prog 30 [.ptr x.P 0] h fun r h'=>r= .tup [.sl 1 (ints (cB s.st 1 s.np)) .any,.sl 1 (ints (cB s.st 2 s.np)) .any,.sl 1 (ints (cB s.st 3 s.np)) .any]∧PgH x s T h'∧h'.objs=h.objs:=by
 refine f30.bC af ?_
 unfold c30 zz
 have c1:=iX g
 refine rg1 @Bool.not_true c1 ?_
 refine an.ba ae xA4 (tH g ok 1) fun r h1 ⟨hr,g1,o1⟩ _ _=>?_
 subst hr
 refine an.evF xAc ?_
 refine an.ba ae xA4 (tH g1 ok 2) fun r h2 ⟨hr,g2,o2⟩ _ _=>?_
 subst hr
 refine an.evF xAc ?_
 refine an.ba ae xA4 (tH g2 ok 3) fun r h3 ⟨hr,g3,o3⟩ _ _=>?_
 subst hr
 refine an.evF xAc ?_
 refine an.nil ?_
 refine Wp.ret ⟨trivial,.tup [.sl 1 (ints (cB s.st 1 s.np)) .any,.sl 1 (ints (cB s.st 2 s.np)) .any,.sl 1 (ints (cB s.st 3 s.np)) .any],?_,rfl,g3,o3.trans (o2.trans o1)⟩
 simp only[go_sem]
 exact rfl
theorem yh {x:PgI} {s:PgS} {T:List Nat} {h:H} (g:PgH x s T h) (ok:cu s):aK Tryz.prog 31 [.ptr x.P 0] h (.int .i64 ((s.np:Int) - (lx s.ws s.ws.length:Nat))) h:=by
 refine f31.cd af ?_
 unfold c31 zz
 have np1:=ok.np1
 have c1:=iX g
 have c2:=FW g.oA g.oU ok.np0 ab (by rw[ok.wl];omega)
 have oP:=g.oP
 refine rg2 (cj2 oP @Bool.not_true) c1 c2 ?_
 refine Wp.ret ⟨trivial,_,?_,av.refl _,rfl⟩
 simp only[go_sem]
 exact rfl
theorem wU {h:H} {c:Cap} {f:AV}:aK Tryz.prog 124 [.sl 1 [] c,f] h (.int .i64 (-1)) h:=by
 refine f124.cd af ?_
 unfold GF zz
 have d1:decide ((0:Int)<((0:Nat):Int))=false:=by decide
 refine rf0 @List.length_nil.{0} ?_
 refine Wp.eI [] rfl (fun _:Unit=>[(7,.int .i64 ((0:Nat):Int)),(8,.int .i64 0)]) (fun _=>h) (fun _=>True) (fun _=>0) () trivial rfl ?_ ?_
 ·exact xSb
 rintro - -
 refine rf0 d1 ?_
 refine Wp.ret ⟨trivial,_,?_,av.refl _,rfl⟩
 simp only[go_sem]
 exact rfl
theorem qN {h:H} {c:Cap} {f:AV}:aK Tryz.prog 90 [.sl 1 [] c,f] h (.bool false) h:=by
 refine f90.cd af ?_
 unfold c90 zz
 have c1:=wU (h:=h) (c:=c) (f:=f)
 have d1:decide ((0:Int)≤ -1)=false:=by decide
 refine rg1 d1 c1 ?_
 refine Wp.ret ⟨trivial,_,?_,av.refl _,rfl⟩
 simp only[go_sem]
 exact rfl
theorem As {x:PgI} {s:PgS} {T:List Nat} {h:H} (g:PgH x s T h) {c:Cap}:aJ Tryz.prog 57 [.ptr x.P 0,.sl 1 [] c] h fun r h'=>r= .int .i64 0∧PgH x s T h'∧h'.objs=h.objs:=by
 refine f57.bC af ?_
 unfold c57 zz
 have lt:=g.lt
 have g1:PgH x s T ⟨upd h.objs h.n (some (.cells [.ptr x.P 0])),h.n+1,h.toks,h.m⟩:=g.keep (fun j hj=>by simp only[upd];rw[if_neg ab]) (Nat.le_succ _) (fun j hj=>by
  simp only at hj
  simp only[upd]
  rw[if_neg ab]
  exact g.fresh j ab) rfl (Nat.le_refl _)
 have c1:=iX g1
 have d1:decide ((0:Int)<((0:Nat):Int))=false:=by decide
 refine rg1 (cj3 @Bool.not_true d1 @List.length_nil.{0}) c1 ?_
 obtain ⟨h1,e1⟩:∃h1:H,h1=⟨upd h.objs h.n (some (.cells [.ptr x.P 0])),h.n+1,h.toks,h.m⟩:=⟨_,rfl⟩
 rw[←e1]
 refine Wp.eI [1,2] xA7 (fun _:Unit=>[(13,.int .i64 ((0:Nat):Int)),(14,.int .i64 0)]) (fun _=>h1) (fun _=>True) (fun _=>0) () trivial rfl ?_ ?_
 ·exact xSb
 rintro - -
 have c2:=qN (h:=h1) (c:=c) (f:= .clo (.func 91) [] [.ptr h.n 0])
 refine rg1 (cj2 d1 @List.length_nil.{0}) c2 ?_
 refine Wp.eI [] rfl (fun _:Unit=>[(35,.int .i64 ((0:Nat):Int)),(36,.int .i64 0)]) (fun _=>h1) (fun _=>True) (fun _=>0) () trivial rfl ?_ ?_
 ·exact xSb
 rintro - -
 refine rf0 d1 ?_
 refine Wp.le (s':=⟨tm [(4,.int .i64 0)],⟨h.objs,h.n+1,h.toks,h.m⟩⟩) (aM.of (bA ?_) ?_ (fun y hy=>by rw[e1];exact hy) (by rw[e1];exact Nat.le_refl _) (by rw[e1];exact Nat.le_refl _)) ?_
 ·exact xSb
 ·rw[e1]
  exact OLe.skip (g.fresh _ (Nat.le_refl _))
 refine Wp.ret ⟨trivial,.int .i64 0,?_,rfl,?_,rfl⟩
 ·simp only[go_sem]
  exact rfl
 ·exact g.keep (fun _ _=>rfl) (Nat.le_succ _) (fun j hj=>g.fresh j (by simp only at hj;omega)) rfl (Nat.le_refl _)
theorem At:sS (List.replicate 128 (AV.int .u8 0))=some (List.replicate 128 0):=by
 have h:=mf (List.replicate 128 0)
 have e:ar (List.replicate 128 0)=List.replicate 128 (AV.int .u8 0):=by simp[ar,byte]
 rw[e] at h
 exact h
theorem Au {F:Nat→Option Av.Obj} {n m:Nat} {T:List Nat} {k:Nat} (h0:0<k) (h1:k≤16384):
  aK Tryz.prog 32 [.int .i64 (k:Int)] ⟨F,n,T,m⟩ (.tup [.ptr (n+1) 0,.int .i64 0]) ⟨upd (upd F n (some (.bk ⟨k,[]⟩))) (n+1) (some (dkO n k (cZ [] none))),n+1+1,T,m⟩:=by
 refine f32.cd af ?_
 unfold c32
 have d1:decide ((k:Int)<1)=false:=decide_eq_false ab
 have d2:decide ((16384:Int)<(k:Int))=false:=decide_eq_false ab
 have z:=At
 obtain ⟨Z,hZ⟩:∃Z,Z=List.replicate 128 (AV.int .u8 0):=⟨_,rfl⟩
 rw[←hZ] at z ⊢
 clear hZ
 refine rf0 (cj2 d1 d2) ?_
 have s1:(0:Int)≤(k:Int):=by omega
 have s2:(k:Int)*((128:Nat):Int)≤140737488355328:=by omega
 have s3:(k:Int)<9223372036854775808:=by omega
 refine Wp.reg ?_
 refine ao.part 1 xA1 ?_
 simp only[List.drop_succ_cons,List.drop_zero,List.drop_nil]
 refine ao.opA xA2 (by simp only[fK,jP,jO,go_sem,reduceIte,Nat.reduceEqDiff,Nat.reduceAdd,bx,ax,if_true,if_false,Nat.reduceMul,Nat.reduceLeDiff,z,s1,s2,s3,Int.le_refl,Int.toNat_natCast,and_self];exact rfl) ?_
 refine ao.part 4 xA1 ?_
 simp only[List.drop_succ_cons,List.drop_zero,List.drop_nil]
 refine ao.nil ⟨trivial,?_⟩
 refine Wp.ret ⟨trivial,_,?_,av.refl _,?_⟩
 ·simp only[go_sem]
  exact rfl
 ·rfl
theorem wV {F:Nat→Option Av.Obj} {n m:Nat} {T:List Nat} {k:Nat} (h0:0<k) (h1:k≤16384):
  aK Tryz.prog 68 [.int .i64 (k:Int)] ⟨F,n,T,m⟩ (.tup [.ptr (n+1) 0,.int .i64 0]) ⟨upd (upd F n (some (.cells (du (List.replicate ((k+63)/64) 0))))) (n+1) (some (alO k n ((k+63)/64))),n+1+1,T,m⟩:=by
 refine f68.cd af ?_
 unfold c68 zz
 have d1:decide ((k:Int)<1)=false:=decide_eq_false ab
 have d2:decide ((16384:Int)<(k:Int))=false:=decide_eq_false ab
 have w1:IntKind.i64.wrap ((k:Int)+64)=(k:Int)+64:=IntWalk.i64_in _ ab
 have w2:IntKind.i64.wrap ((k:Int)+64 - 1)=((k+63:Nat):Int):=by rw[IntWalk.i64_in _ ab];omega
 have w3:IntKind.i64.wrap (((k+63:Nat):Int).tdiv 64)=(((k+63)/64:Nat):Int):=by
  rw[Int.tdiv_eq_ediv_of_nonneg ab,IntWalk.i64_in _ ab];omega
 have h64:¬((64:Int)=0):=by decide
 obtain ⟨q,hq⟩:∃q,q=(k+63)/64:=⟨_,rfl⟩
 rw[←hq] at w3 ⊢
 have s1:(0:Int)≤(q:Int):=by omega
 have s2:(q:Int)*((8:Nat):Int)≤140737488355328:=by omega
 have s3:(q:Int)<9223372036854775808:=by omega
 have ez:(List.replicate q (AV.int .u64 0)).flatMap cellsOf=du (List.replicate q 0):=by
  clear w3 s1 s2 s3 hq
  induction q with
  |zero=>rfl
  |succ q ih=>simp only[List.replicate_succ,List.flatMap_cons,ih];rfl
 obtain ⟨zz,hz⟩:∃zz:AV,zz= .int .u64 0:=⟨_,rfl⟩
 rw[←hz] at ez ⊢
 have hs:shaped zz=true:=by rw[hz];rfl
 have hx:∀c,zz≠ .agg c:=fun c=>by rw[hz];intro h;cases h
 refine rf0 (cj2 d1 d2) ?_
 refine Wp.reg ?_
 refine ao.part 5 (xAe (cj4 w1 w2 w3 h64)) ?_
 simp only[List.drop_succ_cons,List.drop_zero,List.drop_nil]
 subst hz
 refine ao.opA xA2 (by simp only[fK,jP,jO,go_sem,reduceIte,Nat.reduceEqDiff,Nat.reduceAdd,bx,ax,if_true,if_false,Nat.reduceMul,Nat.reduceLeDiff,s1,s2,s3,ez,Int.le_refl,Int.toNat_natCast,and_self];exact rfl) ?_
 refine ao.part 4 xA1 ?_
 simp only[List.drop_succ_cons,List.drop_zero,List.drop_nil]
 refine ao.nil ⟨trivial,?_⟩
 refine Wp.ret ⟨trivial,_,?_,av.refl _,?_⟩
 ·simp only[go_sem]
  exact rfl
 ·rfl
def m4 (F:Nat→Option Av.Obj) (n D k:Nat):Nat→Option Av.Obj:=upd (upd (upd (upd F n (some (.cells (du (List.replicate ((k+63)/64) 0))))) (n+1) (some (alO k n ((k+63)/64)))) (n+1+1) (some (.cells (iy (List.replicate k 0))))) (n+1+1+1) (some (.cells [.ptr (n+1) 0,.ptr D 0,.int .i64 0,.tsl 1 (n+1+1) 0 k none]))
theorem wW {F:Nat→Option Av.Obj} {n m D K:Nat} {T:List Nat} {k:Nat} {pa:AV} (hD:F D=some (dkO K (8*k) pa)) (h0:0<k) (h1:k≤500):
  aK Tryz.prog 33 [.ptr D 0,.int .i64 0,.int .i64 (k:Int)] ⟨F,n,T,m⟩ (.tup [.ptr (n+1+1+1) 0,.int .i64 0]) ⟨m4 F n D k,n+1+1+1+1,T,m⟩:=by
 refine f33.cd af ?_
 unfold c33 zz
 have c1:=FG (h:=⟨F,n,T,m⟩) hD ab
 have c2:=wV (F:=F) (n:=n) (m:=m) (T:=T) h0 ab
 obtain ⟨z,hz⟩:∃z:Int,z=0:=⟨_,rfl⟩
 have d0:decide (((8*k:Nat):Int)=0)=false:=decide_eq_false ab
 have d1:decide ((0:Int)<0)=false:=by decide
 have d2:decide ((k:Int)<1)=false:=decide_eq_false ab
 have w1:IntKind.i64.wrap (((8*k:Nat):Int).tdiv 8)=(k:Int):=by
  rw[Int.tdiv_eq_ediv_of_nonneg ab,IntWalk.i64_in _ ab];omega
 have d3:decide ((k:Int)<(k:Int))=false:=decide_eq_false ab
 have w2:IntKind.i64.wrap ((k:Int)*8)=((8*k:Nat):Int):=by rw[IntWalk.i64_in _ ab];omega
 have w3:IntKind.i64.wrap (((8*k:Nat):Int) - ((8*k:Nat):Int))=0:=by rw[Int.sub_self];decide
 have h8:¬((8:Int)=0):=by decide
 have s1:(0:Int)≤(k:Int):=by omega
 have s2:(k:Int)*((8:Nat):Int)≤140737488355328:=by omega
 have s3:(k:Int)<9223372036854775808:=by omega
 have ez:(List.replicate k (AV.int .i64 0)).flatMap cellsOf=iy (List.replicate k 0):=by
  clear w3 w2 w1 d0 d1 d2 d3 s1 s2 s3 c1 c2 hD h0 h1
  induction k with
  |zero=>rfl
  |succ k ih=>simp only[List.replicate_succ,List.flatMap_cons,ih];rfl
 refine rg1 (cj8 d0 d1 d2 d3 w1 w2 w3 h8) c1 ?_
 refine an.cJ xA2 xAb (by exact ⟨Nat.le_trans (Nat.le_succ _) (Nat.le_succ _),Nat.le_refl _⟩) (c2) ?_
 refine an.evF xAc ?_
 refine an.nil ?_
 generalize hG:upd (upd F n (some (.cells (du (List.replicate ((k+63)/64) 0))))) (n+1) (some (alO k n ((k+63)/64)))=G at*
 refine Wp.seq (Wp.reg ?_)
 refine ao.part 4 xA1 ?_
 simp only[List.drop_succ_cons,List.drop_zero,List.drop_nil]
 refine ao.opA xA2 (by simp only[fK,jP,jO,go_sem,reduceIte,Nat.reduceEqDiff,Nat.reduceAdd,bx,ax,if_true,if_false,Nat.reduceMul,Nat.reduceLeDiff,s1,s2,s3,ez,Int.le_refl,Int.toNat_natCast,and_self];exact rfl) ?_
 refine ao.part 4 xA1 ?_
 simp only[List.drop_succ_cons,List.drop_zero,List.drop_nil]
 refine ao.nil ⟨trivial,?_⟩
 refine Wp.ret ⟨trivial,_,?_,av.refl _,?_⟩
 ·simp only[go_sem]
  exact rfl
 ·unfold m4
  rw[hG]
def pg0 (k:Nat):PgS:=⟨k,List.replicate ((k+63)/64) 0,List.replicate k 0,[],[],none⟩
theorem wX {k:Nat} (h0:0<k) (h1:k≤500):cu (pg0 k) where
 np0:=h0
 np1:=h1
 st:=by simp[pg0]
 st3:=fun i=>by
  simp only[pg0,List.getD_eq_getElem?_getD,List.getElem?_replicate]
  split<;>simp
 wl:=by simp[pg0]
 bit:=fun i=>by
  have e1:(List.replicate k 0).getD i 0=0:=by
   simp only[List.getD_eq_getElem?_getD,List.getElem?_replicate]
   split<;>simp
  have e2:(List.replicate ((k+63)/64) (0:W)).getD (i/64) 0=0:=by
   simp only[List.getD_eq_getElem?_getD,List.getElem?_replicate]
   split<;>simp
  simp only[pg0,eU,e1,e2]
  simp
 pl:=fun x hx=>by simp[pg0] at hx
 dl:=fun x hx=>by simp[pg0] at hx
theorem Hf {F:Nat→Option Av.Obj} {n m:Nat} {T:List Nat} {k:Nat} (hf:∀j,n≤j→F j=none) (hT:∀t∈T,t<m):
  PgH ⟨n+1+1+1+1+1,n+1+1+1,n+1+1,n+1,n,n+1+1+1+1⟩ (pg0 k) T ⟨m4 (upd (upd F n (some (.bk ⟨8*k,[]⟩))) (n+1) (some (dkO n (8*k) (cZ [] none)))) (n+1+1) (n+1) k,n+1+1+1+1+1+1,T,m⟩:=by
 have u:∀(f:Nat→Option Av.Obj) (i:Nat) (a:Option Av.Obj),upd f i a i=a:=fun f i a=>by simp[upd]
 have v:∀(f:Nat→Option Av.Obj) (i j:Nat) (a:Option Av.Obj),j≠i→upd f i a j=f j:=fun f i j a h=>by simp[upd,h]
 refine ⟨?_,?_,?_,?_,?_,?_,?_,?_,?_,rfl,hT,(fun t e=>by cases e),fun _=>rfl⟩
 ·simp only[m4,pg0]
  rw[u];simp
 ·simp only[m4,pg0]
  rw[v _ _ _ _ ab,v _ _ _ _ ab,u];simp
 ·simp only[m4,pg0]
  rw[v _ _ _ _ ab,v _ _ _ _ ab,v _ _ _ _ ab,u]
 ·simp only[m4,pg0]
  rw[v _ _ _ _ ab,v _ _ _ _ ab,v _ _ _ _ ab,v _ _ _ _ ab,u]
 ·simp only[m4,pg0]
  rw[v _ _ _ _ ab,v _ _ _ _ ab,v _ _ _ _ ab,v _ _ _ _ ab,v _ _ _ _ ab,u]
 ·simp only[m4,pg0]
  rw[v _ _ _ _ ab,u]
 ·simp only;omega
 ·simp only;omega
 ·intro j hj
  simp only at hj
  simp only[m4]
  rw[v _ _ _ _ ab,v _ _ _ _ ab,v _ _ _ _ ab,v _ _ _ _ ab,v _ _ _ _ ab,v _ _ _ _ ab]
  exact hf j ab
section
variable {x:PgI} {s:PgS} {T:List Nat} {h:H}
theorem PgH.kept (g:PgH x s T h) {d:List (Nat × List UInt8)} {n':Nat} (hn:h.n≤n'):PgH x {s with p:=[],d:=d,tk:=none} T ⟨upd (upd h.objs x.K (some (.bk ⟨8*s.np,d⟩))) x.D (some (dkO x.K (8*s.np) (cZ [] none))),n',T,h.m⟩:=by
 have ne:=g.ne
 have lt:=g.lt
 have q:∀j,j≠x.D→j≠x.K→upd (upd h.objs x.K (some (.bk ⟨8*s.np,d⟩))) x.D (some (dkO x.K (8*s.np) (cZ [] none))) j=h.objs j:=fun j a b=>by simp only[upd];rw[if_neg a,if_neg b]
 exact {
  oP:=(q _ ne.2.2.1 ne.2.2.2.1).trans g.oP
  oA:=(q _ ne.2.2.2.2.2.2.1 ne.2.2.2.2.2.2.2.1).trans g.oA
  oU:=(q _ ne.2.2.2.2.2.2.2.2.2.1 ne.2.2.2.2.2.2.2.2.2.2.1).trans g.oU
  oD:=by simp only[upd,if_true]
  oK:=by
   simp only[upd]
   rw[if_neg (Ne.symm ne.2.2.2.2.2.2.2.2.2.2.2.2.1)]
   simp
  oI:=(q _ (Ne.symm ne.2.2.2.2.2.2.2.2.2.2.2.2.2.1) (Ne.symm ne.2.2.2.2.2.2.2.2.2.2.2.2.2.2)).trans g.oI
  lt:=by simp only;omega
  ne:=ne
  fresh:=fun j hj=>(q j (by simp only at hj;omega) (by simp only at hj;omega)).trans (g.fresh j (by simp only at hj;omega))
  toks:=rfl
  tm:=g.tm
  tkm:=fun t e=>by cases e
  tk0:=fun _=>rfl}
theorem Aw (g:PgH x s T h) {d:List (Nat × List UInt8)} {n':Nat}:cI x h ⟨upd (upd h.objs x.K (some (.bk ⟨8*s.np,d⟩))) x.D (some (dkO x.K (8*s.np) (cZ [] none))),n',T,h.m⟩:=fun j _ _ _ _ a4 a5 _=>by simp only[upd];rw[if_neg a4,if_neg a5]
theorem Er (g:PgH x s T h) {d:List (Nat × List UInt8)} {n':Nat}:aq h ⟨upd (upd h.objs x.K (some (.bk ⟨8*s.np,d⟩))) x.D (some (dkO x.K (8*s.np) (cZ [] none))),n',T,h.m⟩:=fun j hj=> .inl (by
 simp only[upd] at hj
 by_cases e:j=x.D
 ·rw[e,g.oD];rfl
 ·rw[if_neg e] at hj
  by_cases e2:j=x.K
  ·rw[e2,g.oK];rfl
  ·rw[if_neg e2] at hj;exact hj)
theorem Hg (g:PgH x s T h):(⟨h.objs,h.n,tkT s.tk T,h.m⟩:H)=h:=by
 have:=g.toks
 cases h
 simp only at this
 rw[this]
theorem Es (g:PgH x s T h) (ok:cu s) (hp:s.p.length<1000000):aJ Tryz.prog 21 [.ptr x.D 0] h fun r h'=>r= .int .i64 0∧PgH x {s with p:=[],d:=kd (fun _=>true) s.p s.d s.p.length,tk:=none} T h'∧cI x h h'∧aq h h':=by
 have c:=Eg (n:=h.n) (m:=h.m) (T:=T) g.oD g.oK ok.pl g.lt.2.2.2.1 g.lt.2.2.2.2.1 g.ne.2.2.2.2.2.2.2.2.2.2.2.2.1 g.fresh hp (by have:=ok.np0;omega)
 rw[Hg g] at c
 refine c.mono ?_
 rintro r h' ⟨rfl,n',hn,rfl⟩
 exact ⟨rfl,g.kept hn,Aw g,Er g⟩
theorem cu.kept (ok:cu s) {pick:Nat→Bool}:cu {s with p:=[],d:=kd pick s.p s.d s.p.length,tk:=none} where
 np0:=ok.np0
 np1:=ok.np1
 st:=ok.st
 st3:=ok.st3
 wl:=ok.wl
 bit:=ok.bit
 pl:=fun x hx=>by simp at hx
 dl:=wO ok.dl (fun x hx=>(ok.pl x hx).1) _ (Nat.le_refl _)
end
theorem nQ {p d p' d':List (Nat × List UInt8)} {i:Nat}:∀k,(∀j,j<k→rdP p d (i*8+j)=rdP p' d' (i*8+j))→pgB p d i k=pgB p' d' i k
 |0,_=>rfl
 |k+1,h=>by rw[pgB,pgB,nQ k fun j hj=>h j ab,h k ab]
theorem Et (p q d:List (Nat × List UInt8)) (j:Nat):rdP (p++q) d j=q.foldl (fun a x=>if x.1=j then x.2 else a) (rdP p d j):=by
 simp[rdP,List.foldl_append]
theorem rW:∀(q:List (Nat × List UInt8)) (j:Nat) (a:List UInt8),(∀x∈q,x.1≠j)→q.foldl (fun a x=>if x.1=j then x.2 else a) a=a
 |[],_,_,_=>rfl
 |x::q,j,a,h=>by
  rw[List.foldl_cons,if_neg (h x af)]
  exact rW q j a fun y hy=>h y (by simp[hy])
theorem Ax {p d:List (Nat × List UInt8)} {i j:Nat} {l:List UInt8} {k:Nat} (h:j<i*8∨i*8+k≤j):rdP (p++wrs i l k) d j=rdP p d j:=by
 rw[Et]
 refine rW _ _ _ fun x hx=>?_
 obtain ⟨q,hq,rfl⟩:=List.mem_map.1 hx
 have:=List.mem_range.1 hq
 simp only
 omega
theorem yi {p d:List (Nat × List UInt8)} {i:Nat} {l:List UInt8}:∀(k j:Nat),j<k→rdP (p++wrs i l k) d (i*8+j)=(l.drop (j*128)).take 128
 |0,_,h=>absurd h (Nat.not_lt_zero _)
 |k+1,j,h=>by
  rw[uY,←List.append_assoc,iw]
  by_cases e:j=k
  ·subst e;rw[if_pos rfl]
  ·rw[if_neg (by simp only;omega)]
   exact yi k j ab
theorem Cz {p d:List (Nat × List UInt8)} {i:Nat} {l:List UInt8} (hl:l.length=1024):pgB (p++wrs i l 8) d i 8=l:=by
 have key:∀k,k≤8→pgB (p++wrs i l 8) d i k=l.take (k*128):=by
  intro k hk
  induction k with
  |zero=>simp[pgB]
  |succ k ih=>
   rw[pgB,ih ab,yi 8 k ab,Nat.succ_mul,List.take_add]
 rw[key 8 (Nat.le_refl _)]
 exact List.take_of_length_le ab
theorem jU {p d:List (Nat × List UInt8)} {i k:Nat} {l:List UInt8} (h:k≠i):pgB (p++wrs i l 8) d k 8=pgB p d k 8:=
 nQ 8 fun j hj=>Ax ab
theorem wY {p d:List (Nat × List UInt8)} (k:Nat):pgB [] (kd (fun _=>true) p d p.length) k 8=pgB p d k 8:=
 nQ 8 fun j hj=>by
  show eM _ _=_
  exact FJ _
def dV (f:Nat→Bool):Nat→Nat
 |0=>0
 |n+1=>dV f n+(f n).toNat
theorem m8 (f:Nat→Bool) (a:Nat):∀b,dV f (a+b)=dV f a+dV (fun i=>f (a+i)) b
 |0=>rfl
 |b+1=>by
  show dV f (a+b)+(f (a+b)).toNat=dV f a+(dV (fun i=>f (a+i)) b+(f (a+b)).toNat)
  rw[m8 f a b];omega
theorem gd {f g:Nat→Bool}:∀n,(∀i,i<n→f i=g i)→dV f n=dV g n
 |0,_=>rfl
 |n+1,h=>by rw[dV,dV,gd n fun i hi=>h i ab,h n ab]
theorem nR {f:Nat→Bool}:∀n,(∀i,i<n→f i=false)→dV f n=0
 |0,_=>rfl
 |n+1,h=>by rw[dV,nR n fun i hi=>h i ab,h n ab];rfl
theorem CA:∀(k x:Nat),pa k x=dV (fun i=>x.testBit i) k
 |0,_=>rfl
 |k+1,x=>by
  rw[pa,CA k (x/2),show k+1=1+k from Nat.add_comm _ _,m8]
  have e1:dV (fun i=>x.testBit i) 1=x%2:=by
   show 0+(x.testBit 0).toNat=_
   rw[Nat.testBit_zero]
   rcases Nat.mod_two_eq_zero_or_one x with h|h<;>simp[h]
  have e2:dV (fun i=>x.testBit (1+i)) k=dV (fun i=>(x/2).testBit i) k:=gd k fun i _=>by
   show x.testBit (1+i)=(x/2).testBit i
   rw[Nat.add_comm,Nat.testBit_succ]
  rw[e1,e2]
theorem u0 (ws:List W):∀j,j≤ws.length→lx ws j=dV (eU ws) (64*j)
 |0,_=>by simp[lx,dV]
 |j+1,h=>by
  rw[nN ab,u0 ws j ab,Nat.mul_succ,m8,CA]
  congr 1
  refine gd 64 fun i hi=>?_
  have e1:(64*j+i)/64=j:=by omega
  have e2:(64*j+i)%64=i:=by omega
  unfold eU
  rw[e1,e2]
  rfl
theorem lg (st:List Nat) (z:Nat):∀n,(cB st z n).length=dV (fun i=>decide (st.getD i 0=z)) n
 |0=>rfl
 |n+1=>by
  rw[oG,dV,←lg st z n]
  by_cases e:st.getD n 0=z
  ·rw[if_pos e,List.length_append,decide_eq_true e];rfl
  ·rw[if_neg e,decide_eq_false e];rfl
theorem Hi (st:List Nat) (h3:∀i,st.getD i 0≤3):∀n,dV (fun i=> !decide (st.getD i 0=0)) n=dV (fun i=>decide (st.getD i 0=1)) n+dV (fun i=>decide (st.getD i 0=2)) n+dV (fun i=>decide (st.getD i 0=3)) n
 |0=>rfl
 |n+1=>by
  simp only[dV]
  rw[Hi st h3 n]
  have:=h3 n
  generalize st.getD n 0=z at this
  have:z=0∨z=1∨z=2∨z=3:=by omega
  rcases this with rfl|rfl|rfl|rfl<;>simp<;>omega
theorem rX {s:PgS} (ok:cu s):lx s.ws s.ws.length=(cB s.st 1 s.np).length+(cB s.st 2 s.np).length+(cB s.st 3 s.np).length:=by
 rw[u0 s.ws _ (Nat.le_refl _),lg,lg,lg,←Hi s.st ok.st3]
 have hw:=ok.wl
 obtain ⟨r,hr⟩:∃r,64*s.ws.length=s.np+r:=⟨64*s.ws.length - s.np,ab⟩
 rw[hr,m8]
 have e1:dV (fun i=>eU s.ws (s.np+i)) r=0:=nR r fun i hi=>by
  show eU s.ws (s.np+i)=false
  rw[ok.bit,decide_eq_false ab];rfl
 rw[e1,Nat.add_zero]
 exact gd _ fun i hi=>by rw[ok.bit,decide_eq_true hi];rfl
def trO (x:PgI) (r:Int):Av.Obj:= .cells [.ptr x.P 0,.int .i64 r]
def Kept (h h':H):Prop:=∀j,j<h.n→h'.objs j=h.objs j
theorem kE (l:List Int):(ints l).length=l.length:=by simp[ints]
theorem wZ {x:PgI} {s:PgS} {T:List Nat} {h:H} (g:PgH x s T h) (ok:cu s) {r:Int} (h1: -1≤r) (h2:r<s.np):
  aJ Tryz.prog 26 [.ptr x.P 0,.int .i64 r] h fun q h'=>∃t,q= .tup [.ptr t 0,.int .i64 0]∧h.n≤t∧t<h'.n∧h'.objs t=some (trO x r)∧PgH x s T h'∧Kept h h'∧aq h h':=by
 refine f26.bC af ?_
 unfold c26 zz
 have np1:=ok.np1
 refine rf0 @and_self ?_
 refine an.ba ae xA4 (As (c:= .exact 0) g) fun r1 h1' ⟨hr,g1,o1⟩ n1 _=>?_
 subst hr
 refine an.evF xAc ?_
 refine an.nil ?_
 have d0:decide ((0:Int)=0)=true:=by decide
 refine rf0 (cj2 d0 @Bool.not_true) ?_
 refine an.ba ae xA4 (yg g1 ok) fun r2 h2' ⟨hr,g2,o2⟩ n2 _=>?_
 subst hr
 refine an.evF xAc ?_
 refine an.nil ?_
 have c1:=yh g2 ok
 have tk:=rX ok
 rw[tk] at c1
 have a1:=jT s.st 1 s.np
 have a2:=jT s.st 2 s.np
 have a3:=jT s.st 3 s.np
 have l1:=kE (cB s.st 1 s.np)
 have l2:=kE (cB s.st 2 s.np)
 have l3:=kE (cB s.st 3 s.np)
 generalize (cB s.st 1 s.np).length=n1 at*
 generalize (cB s.st 2 s.np).length=n2 at*
 generalize (cB s.st 3 s.np).length=n3 at*
 generalize ints (cB s.st 1 s.np)=L1 at*
 generalize ints (cB s.st 2 s.np)=L2 at*
 generalize ints (cB s.st 3 s.np)=L3 at*
 have w1:IntKind.i64.wrap ((n1:Int)+(n2:Int))=((n1+n2:Nat):Int):=by rw[IntWalk.i64_in _ ab];rfl
 have w2:IntKind.i64.wrap (((n1+n2:Nat):Int)+(n3:Int))=((n1+n2+n3:Nat):Int):=by rw[IntWalk.i64_in _ ab];rfl
 have w3:IntKind.i64.wrap (((n1+n2+n3:Nat):Int)+((s.np:Int) - ((n1+n2+n3:Nat):Int)))=(s.np:Int):=by rw[IntWalk.i64_in _ ab];omega
 have d1:decide (r< -1)=false:=decide_eq_false ab
 have d2:decide ((s.np:Int)≤r)=false:=decide_eq_false ab
 refine rg1 (cj8 l1 l2 l3 w1 w2 w3 d1 d2) c1 ?_
 have q:∀j,j<h2'.n→(upd h2'.objs h2'.n (some (trO x r)):Nat→Option Av.Obj) j=h2'.objs j:=fun j hj=>by simp only[upd];rw[if_neg ab]
 have oo:h2'.objs=h.objs:=o2.trans o1
 have nn:h.n≤h2'.n:=Nat.le_trans ‹h.n≤h1'.n› ‹h1'.n≤h2'.n›
 refine Wp.ret ⟨trivial,.tup [.ptr h2'.n 0,.int .i64 0],?_,h2'.n,rfl,nn,Nat.lt_succ_self _,?_,?_,?_,?_⟩
 ·simp only[go_sem]
  exact rfl
 ·exact if_pos rfl
 ·refine g2.keep q (Nat.le_succ _) (fun j hj=>?_) rfl (Nat.le_refl _)
  simp only at hj
  show (upd h2'.objs h2'.n (some (trO x r)):Nat→Option Av.Obj) j=none
  simp only[upd]
  rw[if_neg ab]
  exact g2.fresh j ab
 ·intro j hj
  exact (q j ab).trans (by rw[oo])
 ·intro j hj
  have hj:((upd h2'.objs h2'.n (some (trO x r)):Nat→Option Av.Obj) j).isSome=true:=hj
  by_cases e:j=h2'.n
  ·exact .inr ⟨ab,by rw[e];exact Nat.lt_succ_self _⟩
  ·simp only[upd] at hj
   rw[if_neg e,oo] at hj
   exact .inl hj
theorem fc {h:H}:aK Tryz.prog 47 [.int .i64 0] h (.tup []) h:=by
 refine f47.cd af ?_
 unfold c47 zz
 have d0:decide ((0:Int)=0)=true:=by decide
 refine rf0 (cj2 d0 @Bool.not_true) ?_
 exact ⟨trivial,.tup [],rfl,av.refl _,rfl⟩
section
variable {x:PgI} {s:PgS} {T:List Nat} {h:H}
def H.new (h:H) (o:Av.Obj):H:=⟨upd h.objs h.n (some o),h.n+1,h.toks,h.m⟩
theorem aO {o:Av.Obj} {j:Nat} (hj:j<h.n):(H.new h o).objs j=h.objs j:=by simp only[H.new,upd];rw[if_neg ab]
theorem bZ {o:Av.Obj}:(H.new h o).objs h.n=some o:=by simp[H.new,upd]
theorem PgH.new (g:PgH x s T h) (o:Av.Obj):PgH x s T (H.new h o):=
 g.keep (fun j hj=>aO hj) (Nat.le_succ _) (fun j hj=>by
  have hj:h.n+1≤j:=hj
  simp only[H.new,upd]
  rw[if_neg ab]
  exact g.fresh j ab) rfl (Nat.le_refl _)
theorem cS {o:Av.Obj}:cI x h (H.new h o):=fun j hj _ _ _ _ _ _=>aO hj
theorem bP {o:Av.Obj}:aq h (H.new h o):=fun j hj=>by
 by_cases e:j=h.n
 ·exact .inr ⟨ab,by rw[e];exact Nat.lt_succ_self _⟩
 ·simp only[H.new,upd] at hj
  rw[if_neg e] at hj
  exact .inl hj
theorem yj {tid:Nat} {r:Int} {n:Page.Node} {i:Nat} (g:PgH x s T h) (ok:cu s) (ht:h.objs tid=some (trO x r)) (hn:Nb n) (hc:check n=0) (hl:(bH n).length=1024) (hf:kC s.ws s.np=some i) (hp:s.p.length<900000):
  aJ Tryz.prog 55 [.ptr tid 0,aD n] h fun q h'=>q= .int .i64 i∧(∃tk,PgH x {s with ws:=setW s.ws i true,st:=s.st.set i 2,p:=s.p++wrs i (bH n) 8,tk:=tk} T h')∧cI x h h'∧aq h h':=by
 refine f55.bC af ?_
 unfold c55 zz
 have hlt:tid<h.n:=by
  rcases Nat.lt_or_ge tid h.n with q|q
  ·exact q
  ·rw[g.fresh _ q] at ht;cases ht
 have b0:=te n hn
 rw[hc] at b0
 have b:bj Tryz.prog 83 [aD n] (.tup [.sl 1 (ar (bH n)) .any,.int .i64 0]):=b0
 clear b0
 have c0:aK Tryz.prog 47 [.int .i64 0] (H.new h (.cells [.bool n.leaf,.sl 1 (strs n.keys) .any,.sl 1 (strs n.vals) .any,.sl 1 (ints n.kids) .any])) (.tup []) (H.new h (.cells [.bool n.leaf,.sl 1 (strs n.keys) .any,.sl 1 (strs n.vals) .any,.sl 1 (ints n.kids) .any])):=fc
 have ht1:=(aO (o:= .cells [.bool n.leaf,.sl 1 (strs n.keys) .any,.sl 1 (strs n.vals) .any,.sl 1 (ints n.kids) .any]) hlt).trans ht
 have g1:=g.new (.cells [.bool n.leaf,.sl 1 (strs n.keys) .any,.sl 1 (strs n.vals) .any,.sl 1 (ints n.kids) .any])
 have sm:=cS (x:=x) (h:=h) (o:= .cells [.bool n.leaf,.sl 1 (strs n.keys) .any,.sl 1 (strs n.vals) .any,.sl 1 (ints n.kids) .any])
 have no:=bP (h:=h) (o:= .cells [.bool n.leaf,.sl 1 (strs n.keys) .any,.sl 1 (strs n.vals) .any,.sl 1 (ints n.kids) .any])
 have ln:h.n≤(H.new h (.cells [.bool n.leaf,.sl 1 (strs n.keys) .any,.sl 1 (strs n.vals) .any,.sl 1 (ints n.kids) .any])).n:=Nat.le_succ _
 unfold aD at b ⊢
 unfold H.new at c0
 refine rg2 @and_self b c0 ?_
 refine Wp.le (s':=⟨tm [(0,.ptr tid 0),(5,.sl 1 (ar (bH n)) .any)],H.new h (.cells [.bool n.leaf,.sl 1 (strs n.keys) .any,.sl 1 (strs n.vals) .any,.sl 1 (ints n.kids) .any])⟩) (aM.tm ?_) ?_
 ·exact xSb
 clear c0
 generalize H.new h (.cells [.bool n.leaf,.sl 1 (strs n.keys) .any,.sl 1 (strs n.vals) .any,.sl 1 (ints n.kids) .any])=h1 at*
 unfold trO at ht1
 refine rf0 ht1 ?_
 refine an.ba ae xA4 (uZ g1 ok hl hf hp) fun r h2 ⟨hr,g2,sm2,no2⟩ n2 _=>?_
 subst hr
 have c2:aK Tryz.prog 47 [.int .i64 0] h2 (.tup []) h2:=fc
 refine an.evF xAc ?_
 refine an.nil ?_
 refine rg1 @and_self c2 ?_
 refine Wp.ret ⟨trivial,.int .i64 i,?_,rfl,g2,sm.trans sm2 ln,aq.trans no no2 ln n2⟩
 simp only[go_sem]
 exact rfl
def aC (n:Page.Node):Av.Obj:= .cells [.bool n.leaf,.sl 1 (strs n.keys) .any,.sl 1 (strs n.vals) .any,.sl 1 (ints n.kids) .any]
theorem w5 {tid:Nat} {r:Int} {n:Page.Node} {i:Nat} (g:PgH x s T h) (ok:cu s) (ht:h.objs tid=some (trO x r)) (hn:Nb n) (hc:check n=0) (hl:(bH n).length=1024) (hi:i<s.np) (hs:s.st.getD i 0=2) (hp:s.p.length<900000):
  aJ Tryz.prog 78 [.ptr tid 0,.int .i64 (i:Int),aD n] h fun q h'=>q= .int .i64 i∧(∃tk,PgH x {s with p:=s.p++wrs i (bH n) 8,tk:=tk} T h')∧cI x h h'∧aq h h':=by
 refine f78.bC af ?_
 unfold c78 zz
 have hlt:tid<h.n:=by
  rcases Nat.lt_or_ge tid h.n with q|q
  ·exact q
  ·rw[g.fresh _ q] at ht;cases ht
 have b0:=te n hn
 rw[hc] at b0
 have b:bj Tryz.prog 83 [aD n] (.tup [.sl 1 (ar (bH n)) .any,.int .i64 0]):=b0
 clear b0
 have c0:aK Tryz.prog 47 [.int .i64 0] (H.new h (aC n)) (.tup []) (H.new h (aC n)):=fc
 have ht1:=(aO (o:=aC n) hlt).trans ht
 have hn1:=bZ (h:=h) (o:=aC n)
 have g1:=g.new (aC n)
 have sm:=cS (x:=x) (h:=h) (o:=aC n)
 have no:=bP (h:=h) (o:=aC n)
 have ln:h.n≤(H.new h (aC n)).n:=Nat.le_succ _
 unfold aD at b
 unfold aD
 unfold H.new aC at c0
 refine rg2 @and_self b c0 ?_
 refine Wp.le (s':=⟨tm [(0,.ptr tid 0),(1,.int .i64 i),(5,.ptr h.n 0),(7,.sl 1 (ar (bH n)) .any)],H.new h (aC n)⟩) (aM.tm ?_) ?_
 ·exact xSb
 clear c0
 generalize H.new h (aC n)=h1 at*
 have ht2:=ht1
 unfold trO at ht1
 unfold aC at hn1
 have np1:=ok.np1
 refine rf0 ht1 ?_
 refine an.ba ae xA4 (tE g1 np1 hl hi (by rw[ok.st];exact hi) hs hp) fun r h2 ⟨hr,g2,sm2,no2⟩ n2 _=>?_
 subst hr
 have d0:decide ((0:Int)=0)=true:=by decide
 refine an.evF xAc ?_
 refine an.nil ?_
 refine rf0 d0 ?_
 refine Wp.ret ⟨trivial,.int .i64 i,?_,rfl,g2,sm.trans sm2 ln,aq.trans no no2 ln n2⟩
 simp only[go_sem]
 exact rfl
theorem tI {tid:Nat} {r:Int} {n:Page.Node} {i k:Nat} (g:PgH x s T h) (ok:cu s) (ht:h.objs tid=some (trO x r)) (htx:tid≠x.P∧tid≠x.A∧tid≠x.U∧tid≠x.D∧tid≠x.K∧tid≠x.I) (hn:Nb n) (hc:check n=0) (hl:(bH n).length=1024) (hi:i<s.np) (hs:s.st.getD i 0=1) (hf:kC s.ws s.np=some k) (hp:s.p.length<900000):
  aJ Tryz.prog 78 [.ptr tid 0,.int .i64 (i:Int),aD n] h fun q h'=>q= .int .i64 k∧(∃tk,PgH x {s with ws:=setW s.ws k true,st:=(s.st.set k 2).set i 3,p:=s.p++wrs k (bH n) 8,tk:=tk} T h')∧cI x h h'∧aq h h':=by
 refine f78.bC af ?_
 unfold c78 zz
 have hlt:tid<h.n:=by
  rcases Nat.lt_or_ge tid h.n with q|q
  ·exact q
  ·rw[g.fresh _ q] at ht;cases ht
 have b0:=te n hn
 rw[hc] at b0
 have b:bj Tryz.prog 83 [aD n] (.tup [.sl 1 (ar (bH n)) .any,.int .i64 0]):=b0
 clear b0
 have c0:aK Tryz.prog 47 [.int .i64 0] (H.new h (aC n)) (.tup []) (H.new h (aC n)):=fc
 have ht1:=(aO (o:=aC n) hlt).trans ht
 have hn1:=bZ (h:=h) (o:=aC n)
 have g1:=g.new (aC n)
 have sm:=cS (x:=x) (h:=h) (o:=aC n)
 have no:=bP (h:=h) (o:=aC n)
 have ln:h.n≤(H.new h (aC n)).n:=Nat.le_succ _
 unfold aD at b
 unfold aD
 unfold H.new aC at c0
 refine rg2 @and_self b c0 ?_
 refine Wp.le (s':=⟨tm [(0,.ptr tid 0),(1,.int .i64 i),(5,.ptr h.n 0),(7,.sl 1 (ar (bH n)) .any)],H.new h (aC n)⟩) (aM.tm ?_) ?_
 ·exact xSb
 clear c0
 generalize H.new h (aC n)=h1 at*
 have ht2:=ht1
 unfold trO at ht1
 unfold aC at hn1
 have np1:=ok.np1
 have hlt1:tid<h1.n:=by
  rcases Nat.lt_or_ge tid h1.n with q|q
  ·exact q
  ·rw[g1.fresh _ q] at ht2;cases ht2
 have c3:=tD (l:=bH n) g1 hl (i:=i) (by rw[ok.st];exact hi) ab
 have d0:decide ((7:Int)=0)=false:=by decide
 have d7:decide ((7:Int)=7)=true:=by decide
 refine rg1 (cj5 ht1 hn1 d0 d7 @Bool.not_true) c3 ?_
 refine an.ba (vals:=[.ptr tid 0,aD n]) ae xA4 (yj g1 ok ht2 hn hc hl hf hp) fun r h2 ⟨hr,⟨tk,g2⟩,sm2,no2⟩ n2 _=>?_
 subst hr
 have hk:=qi hf
 have ki:k≠i:=by
  intro e
  have:=ok.bit k
  rw[hk.2,decide_eq_true hk.1,e,hs] at this
  simp at this
 have ok2:=(ok.take hk.1 (z:=2) ah ah).more (p:=wrs k (bH n) 8) (tk:=tk) (tF hl hk.1)
 have hs2:(s.st.set k 2).getD i 0=1:=by
  rw[List.getD_eq_getElem?_getD,List.getElem?_set_ne ki,←List.getD_eq_getElem?_getD]
  exact hs
 have ht3:h2.objs tid=some (trO x r):=(sm2 tid hlt1 htx.1 htx.2.1 htx.2.2.1 htx.2.2.2.1 htx.2.2.2.2.1 htx.2.2.2.2.2).trans ht2
 unfold trO at ht3
 have c5:=jY g2 ok2 hi hs2
 have g3:=g2.nP (st:=(s.st.set k 2).set i 3) af
 have o3:=g2.oI
 simp only at c5 g3 o3
 generalize hh3:({h2 with objs:=upd h2.objs x.I (some (Av.Obj.cells (iy ((s.st.set k 2).set i 3))))}:H)=h3 at*
 have e3:h3.n=h2.n:=by rw[←hh3]
 have sm3:cI x h2 h3:=by rw[←hh3];exact cI.nP
 have no3:aq h2 h3:=by rw[←hh3];exact aq.set o3
 have c6:aK Tryz.prog 47 [.int .i64 0] h3 (.tup []) h3:=fc
 refine an.evF xAc ?_
 refine an.nil ?_
 have e4:h3.m=h2.m:=by rw[←hh3]
 refine rf0 ht3 ?_
 refine an.cJ xA2 xAb (by exact ⟨Nat.le_of_eq e3.symm,Nat.le_of_eq e4.symm⟩) (c5) ?_
 refine an.evF xAc ?_
 refine an.cJ xA2 xAb (by exact ⟨Nat.le_refl _,Nat.le_refl _⟩) (c6) ?_
 refine an.evF xAc ?_
 refine an.nil ?_
 refine rf0 @and_self ?_
 refine Wp.ret ⟨trivial,.int .i64 k,?_,rfl,⟨tk,g3⟩,(sm.trans sm2 ln).trans sm3 (Nat.le_trans ln n2),aq.trans (aq.trans no no2 ln n2) no3 (Nat.le_trans ln n2) (Nat.le_of_eq e3.symm)⟩
 simp only[go_sem]
 exact rfl
end
section
variable {x:PgI} {s:PgS} {T:List Nat} {h:H}
theorem eB {h':H} (k:Kept h h'):cI x h h':=fun j hj _ _ _ _ _ _=>k j hj
theorem iY {tid i d:Nat} {r:Int} (g:PgH x s T h) (ok:cu s) (ht:h.objs tid=some (trO x r)) (hi:i<s.np) (hs:s.st.getD i 0≠0) (hp:s.p.length<900000) (hd:d≤20) (hr:lE (pgB s.p s.d i 8)=0):
  aJ Tryz.prog 41 [.ptr tid 0,.int .i64 (i:Int),.int .i64 (d:Int)] h fun q h'=>q=aD (fL (pgB s.p s.d i 8))∧PgH x s T h'∧Kept h h'∧aq h h':=by
 refine f41.bC af ?_
 unfold c41 zz
 have hlt:tid<h.n:=by
  rcases Nat.lt_or_ge tid h.n with q|q
  ·exact q
  ·rw[g.fresh _ q] at ht;cases ht
 have d1:decide ((20:Int)<(d:Int))=false:=decide_eq_false ab
 obtain ⟨o0,ho0⟩:∃o0:Av.Obj,o0= .cells [.bool false,.sl 1 [] (.exact 0),.sl 1 [] (.exact 0),.sl 1 [] (.exact 0)]:=⟨_,rfl⟩
 have ht1:=(aO (o:=o0) hlt).trans ht
 have hn1:=bZ (h:=h) (o:=o0)
 have g1:=g.new o0
 have k1:Kept h (H.new h o0):=fun j hj=>aO hj
 have no1:=bP (h:=h) (o:=o0)
 have ln:h.n+1≤(H.new h o0).n:=Nat.le_refl _
 have lm:(H.new h o0).m=h.m:=rfl
 refine rf0 d1 ?_
 refine Wp.le (s':=⟨tm [(0,.ptr tid 0),(1,.int .i64 i),(6,.ptr h.n 0)],H.new h o0⟩) (aM.of (bA ?_) ?_ (fun y hy=>hy) (Nat.le_refl _) (Nat.le_refl _)) ?_
 ·exact xSb
 ·rw[ho0];exact OLe.refl _
 generalize H.new h o0=h1 at*
 unfold trO at ht1
 refine rf0 ht1 ?_
 refine an.ba ae xA4 (ye g1 ok hi hs hp) fun q h2 ⟨hq,g2,o2⟩ n2 m2=>?_
 subst hq
 have c2:aK Tryz.prog 47 [.int .i64 0] h2 (.tup []) h2:=fc
 refine an.evF xAc ?_
 refine an.nil ?_
 have b0:=FD (pgB s.p s.d i 8)
 rw[hr] at b0
 have b:bj Tryz.prog 72 [.sl 1 (ar (pgB s.p s.d i 8)) .any] (.tup [aD (fL (pgB s.p s.d i 8)),.int .i64 0]):=b0
 clear b0
 generalize fL (pgB s.p s.d i 8)=nd at*
 have g3:=g2.new (aC nd)
 have k3:Kept h2 (H.new h2 (aC nd)):=fun j hj=>aO hj
 have no3:=bP (h:=h2) (o:=aC nd)
 have hn3:=bZ (h:=h2) (o:=aC nd)
 have hn4:(H.new h2 (aC nd)).objs h.n=some o0:=(aO ab).trans ((by rw[o2]:h2.objs h.n=h1.objs h.n).trans hn1)
 have ln3:(H.new h2 (aC nd)).n=h2.n+1:=rfl
 have c3:aK Tryz.prog 47 [.int .i64 0] (H.new h2 (aC nd)) (.tup []) (H.new h2 (aC nd)):=fc
 unfold aD at b
 have c4:=c3
 unfold H.new aC at c4
 refine rg2 @and_self c2 b ?_
 rw[bB]
 refine an.cJ xA2 xAb (by exact ⟨Nat.le_refl _,Nat.le_refl _⟩) (c4) ?_
 refine an.nil ?_
 refine Wp.le (s':=⟨tm [(6,.ptr h.n 0),(9,.ptr h2.n 0)],H.new h2 (aC nd)⟩) (aM.tm ?_) ?_
 ·exact xSb
 clear c3 c4
 have lm3:(H.new h2 (aC nd)).m=h2.m:=rfl
 have lt3:(H.new h2 (aC nd)).toks=h2.toks:=rfl
 generalize H.new h2 (aC nd)=h3 at*
 have hne:¬(h.n=h2.n):=by omega
 unfold aC at hn3
 rw[ho0] at hn4
 refine rf0 (cj3 hn3 hn4 hne) ?_
 have q:∀j,j<h.n→(upd h3.objs h.n (some (aC nd)):Nat→Option Av.Obj) j=h.objs j:=fun j hj=>by
  simp only[upd]
  rw[if_neg ab,k3 j ab,o2,k1 j hj]
 refine Wp.ret ⟨trivial,aD nd,?_,rfl,?_,q,?_⟩
 ·have e:(upd h3.objs h.n (some (aC nd)):Nat→Option Av.Obj) h.n=some (aC nd):=by simp[upd]
  unfold aC at e
  have e2:dg [RV.cell 6 (some 4)] (tm [(6,.ptr h.n 0)]) ⟨upd h3.objs h.n (some (aC nd)),h3.n,h3.toks,h3.m⟩=some (aD nd):=by
   unfold aC
   simp only[dg,rvs,rv,tm,upd,reduceIte,e]
   simp[upd,Av.part,shaped,aR,aD]
  exact e2
 ·refine g.keep q (show h.n≤h3.n by omega) (fun j hj=>?_) (show h3.toks=h.toks by rw[lt3,g2.toks,g.toks]) (show h.m≤h3.m by omega)
  have hj:h3.n≤j:=hj
  show (upd h3.objs h.n (some (aC nd)):Nat→Option Av.Obj) j=none
  simp only[upd]
  rw[if_neg ab]
  exact g3.fresh j hj
 ·intro j hj
  have hj:((upd h3.objs h.n (some (aC nd)):Nat→Option Av.Obj) j).isSome=true:=hj
  by_cases e:j=h.n
  ·exact .inr ⟨ab,by rw[e];show h.n<h3.n;omega⟩
  ·simp only[upd] at hj
   rw[if_neg e] at hj
   rcases no3 j hj with a|a
   ·rw[o2] at a
    rcases no1 j a with b|b
    ·exact .inl b
    ·exact .inr ⟨b.1,by show j<h3.n;omega⟩
   ·exact .inr ⟨ab,a.2⟩
end
section
variable {x:PgI} {s:PgS} {T:List Nat} {h:H}
theorem CB {h:H}:aJ Tryz.prog 87 [] h fun q h'=>q= .agg [.str [],.int .i64 (-1)]∧h'=H.new h (.cells [.str [],.int .i64 (-1)]):=by
 refine f87.bC af ?_
 unfold c87 zz
 refine rf0 @and_self ?_
 rw[bB]
 refine Wp.ret ⟨trivial,.agg [.str [],.int .i64 (-1)],?_,rfl,rfl⟩
 have e2:dg [RV.cell 0 (some 2)] (tm [(0,.ptr h.n 0)]) ⟨upd h.objs h.n (some (.cells [.str [],.int .i64 (-1)])),h.n+1,h.toks,h.m⟩=some (.agg [.str [],.int .i64 (-1)]):=by
  simp[dg,rvs,rv,tm,upd,Av.part,shaped,aR]
 exact e2
theorem PgH.other (g:PgH x s T h) {j0:Nat} {o:Av.Obj} (h0:j0<h.n) (a:x.P≠j0∧x.A≠j0∧x.U≠j0∧x.D≠j0∧x.K≠j0∧x.I≠j0):PgH x s T {h with objs:=upd h.objs j0 (some o)}:=by
 have q:∀j,j≠j0→upd h.objs j0 (some o) j=h.objs j:=fun j hj=>by simp only[upd];rw[if_neg hj]
 exact {
  oP:=(q _ a.1).trans g.oP
  oA:=(q _ a.2.1).trans g.oA
  oU:=(q _ a.2.2.1).trans g.oU
  oD:=(q _ a.2.2.2.1).trans g.oD
  oK:=(q _ a.2.2.2.2.1).trans g.oK
  oI:=(q _ a.2.2.2.2.2).trans g.oI
  lt:=g.lt
  ne:=g.ne
  fresh:=fun j hj=>(q j (by simp only at hj;omega)).trans (g.fresh j hj)
  toks:=g.toks
  tm:=g.tm
  tkm:=g.tkm
  tk0:=g.tk0}
theorem w6 {tid i:Nat} {r:Int} {n:Page.Node} {Q:PgS→Nat→Prop} (g:PgH x s T h) (ht:h.objs tid=some (trO x r)) (hn:Nb n) (hz:Page.size n≤1024)
  (ov:∀h1,PgH x s T h1→h1.objs tid=some (trO x r)→aJ Tryz.prog 78 [.ptr tid 0,.int .i64 (i:Int),aD n] h1 fun q h2=>∃s' k,q= .int .i64 (k:Nat)∧PgH x s' T h2∧Q s' k∧cI x h1 h2∧aq h1 h2):
  aJ Tryz.prog 86 [.ptr tid 0,.int .i64 (i:Int),aD n] h fun q h2=>∃s' k,q= .tup [.int .i64 (k:Nat),.agg [.str [],.int .i64 (-1)]]∧PgH x s' T h2∧Q s' k∧cI x h h2∧aq h h2:=by
 refine f86.bC af ?_
 unfold c86 zz
 have hlt:tid<h.n:=by
  rcases Nat.lt_or_ge tid h.n with q|q
  ·exact q
  ·rw[g.fresh _ q] at ht;cases ht
 have b:=pP n hn
 have d1:decide ((Page.size n:Int)≤1024)=true:=decide_eq_true ab
 unfold aD at b
 unfold aD
 have g1:=(g.new (aC n)).new (.cells [.str [],.int .i64 0])
 have ht1:(H.new (H.new h (aC n)) (.cells [.str [],.int .i64 0])).objs tid=some (trO x r):=(aO (Nat.lt_succ_of_lt hlt)).trans ((aO hlt).trans ht)
 have hn1:(H.new (H.new h (aC n)) (.cells [.str [],.int .i64 0])).objs (h.n+1)=some (.cells [.str [],.int .i64 0]):=bZ (h:=H.new h (aC n))
 have sm1:cI x h (H.new (H.new h (aC n)) (.cells [.str [],.int .i64 0])):=cS.trans cS (Nat.le_succ _)
 have no1:aq h (H.new (H.new h (aC n)) (.cells [.str [],.int .i64 0])):=aq.trans bP bP (Nat.le_succ _) (Nat.le_succ _)
 have ln1:(H.new (H.new h (aC n)) (.cells [.str [],.int .i64 0])).n=h.n+1+1:=rfl
 refine rf1 d1 b ?_
 change an _ _ _ _ (H.new (H.new h (aC n)) (.cells [.str [],.int .i64 0])) _
 generalize H.new (H.new h (aC n)) (.cells [.str [],.int .i64 0])=h1 at*
 refine an.ba (vals:=[.ptr tid 0,.int .i64 (i:Int),aD n]) ae xA4 (ov h1 g1 ht1) fun q h2 ⟨s',k,hq,g2,hQ,sm2,no2⟩ n2 _=>?_
 subst hq
 refine an.ba (vals:=[]) ae xA4 CB fun q h3 ⟨hq,hh3⟩ n3 _=>?_
 subst hq
 have lt:=g.lt
 have g3:PgH x s' T h3:=by rw[hh3];exact g2.new _
 have sm3:cI x h2 h3:=by rw[hh3];exact cS
 have no3:aq h2 h3:=by rw[hh3];exact bP
 have hn3:h3.objs (h.n+1)=some (.cells [.str [],.int .i64 0]):=by
  rw[hh3]
  exact (aO ab).trans ((sm2 _ ab ab ab ab ab ab ab).trans hn1)
 clear hh3
 refine an.evF (xAd hn3) ?_
 refine an.nil ?_
 refine Wp.ret ⟨trivial,.tup [.int .i64 k,.agg [.str [],.int .i64 (-1)]],?_,s',k,rfl,g3.other (j0:=h.n+1) ab ab,hQ,?_,?_⟩
 ·have e2:dg [RV.tmp 6,RV.cell 7 (some 2)] (tm [(6,.int .i64 k),(7,.ptr (h.n+1) 0)]) ⟨upd h3.objs (h.n+1) (some (.cells [.str [],.int .i64 (-1)])),h3.n,h3.toks,h3.m⟩=some (.tup [.int .i64 k,.agg [.str [],.int .i64 (-1)]]):=by
   simp[dg,rvs,rv,tm,upd,Av.part,shaped,aR]
  exact e2
 ·intro j hj a1 a2 a3 a4 a5 a6
  have e:(upd h3.objs (h.n+1) (some (.cells [.str [],.int .i64 (-1)])):Nat→Option Av.Obj) j=h3.objs j:=by simp only[upd];rw[if_neg ab]
  exact e.trans (((sm1.trans sm2 ab).trans sm3 ab) j hj a1 a2 a3 a4 a5 a6)
 ·exact aq.trans (aq.trans (aq.trans no1 no2 ab n2) no3 ab n3) (aq.set hn3) ab (Nat.le_refl _)
end
section
variable {x:PgI} {s:PgS} {T:List Nat} {h:H}
theorem tJ {tid i:Nat} {r:Int} {n:Page.Node} {Q:PgS→Nat→Prop} {Q2:PgS→Nat→PgS→Nat→Prop} (g:PgH x s T h) (ht:h.objs tid=some (trO x r)) (htx:tid≠x.P∧tid≠x.A∧tid≠x.U∧tid≠x.D∧tid≠x.K∧tid≠x.I) (hn:Nb n) (hs:Ns n) (hz:¬Page.size n≤1024) (hb:Page.size n≤1000000000)
  (ov:∀h1,PgH x s T h1→h1.objs tid=some (trO x r)→aJ Tryz.prog 78 [.ptr tid 0,.int .i64 (i:Int),aD (split n).l] h1 fun q h2=>∃s' k,q= .int .i64 (k:Nat)∧PgH x s' T h2∧Q s' k∧cI x h1 h2∧aq h1 h2)
  (fr:∀s1 k h1,Q s1 k→PgH x s1 T h1→h1.objs tid=some (trO x r)→aJ Tryz.prog 55 [.ptr tid 0,aD (split n).r] h1 fun q h2=>∃s2 k2,q= .int .i64 (k2:Nat)∧PgH x s2 T h2∧Q2 s1 k s2 k2∧cI x h1 h2∧aq h1 h2):
  aJ Tryz.prog 86 [.ptr tid 0,.int .i64 (i:Int),aD n] h fun q h2=>∃s1 k s2 k2,q= .tup [.int .i64 (k:Nat),.agg [.str (split n).k,.int .i64 (k2:Nat)]]∧Q s1 k∧PgH x s2 T h2∧Q2 s1 k s2 k2∧cI x h h2∧aq h h2:=by
 refine f86.bC af ?_
 unfold c86 zz
 have hlt:tid<h.n:=by
  rcases Nat.lt_or_ge tid h.n with q|q
  ·exact q
  ·rw[g.fresh _ q] at ht;cases ht
 have b:=pP n hn
 have c:=D8 n hn hs
 have d1:decide ((Page.size n:Int)≤1024)=false:=decide_eq_false ab
 generalize split n=sp at*
 unfold mP at c
 unfold aD at b c
 unfold aD
 have g1:=(((g.new (aC n)).new (.cells [.str [],.int .i64 0])).new (aC sp.l)).new (aC sp.r)
 have ht1:(H.new (H.new (H.new (H.new h (aC n)) (.cells [.str [],.int .i64 0])) (aC sp.l)) (aC sp.r)).objs tid=some (trO x r):=(aO (Nat.lt_succ_of_lt (Nat.lt_succ_of_lt (Nat.lt_succ_of_lt hlt)))).trans ((aO (Nat.lt_succ_of_lt (Nat.lt_succ_of_lt hlt))).trans ((aO (Nat.lt_succ_of_lt hlt)).trans ((aO hlt).trans ht)))
 have hn1:(H.new (H.new (H.new (H.new h (aC n)) (.cells [.str [],.int .i64 0])) (aC sp.l)) (aC sp.r)).objs (h.n+1)=some (.cells [.str [],.int .i64 0]):=(aO (Nat.lt_succ_of_lt (Nat.lt_succ_self _))).trans ((aO (Nat.lt_succ_self _)).trans (bZ (h:=H.new h (aC n))))
 have hr1:(H.new (H.new (H.new (H.new h (aC n)) (.cells [.str [],.int .i64 0])) (aC sp.l)) (aC sp.r)).objs (h.n+1+1+1)=some (aC sp.r):=bZ (h:=H.new (H.new (H.new h (aC n)) (.cells [.str [],.int .i64 0])) (aC sp.l))
 have sm1:cI x h (H.new (H.new (H.new (H.new h (aC n)) (.cells [.str [],.int .i64 0])) (aC sp.l)) (aC sp.r)):=((cS.trans cS (Nat.le_succ _)).trans cS (Nat.le_add_right _ 2)).trans cS (Nat.le_add_right _ 3)
 have no1:aq h (H.new (H.new (H.new (H.new h (aC n)) (.cells [.str [],.int .i64 0])) (aC sp.l)) (aC sp.r)):=aq.trans (aq.trans (aq.trans bP bP (Nat.le_succ _) (Nat.le_succ _)) bP (Nat.le_add_right _ 2) (Nat.le_succ _)) bP (Nat.le_add_right _ 3) (Nat.le_succ _)
 have ln1:(H.new (H.new (H.new (H.new h (aC n)) (.cells [.str [],.int .i64 0])) (aC sp.l)) (aC sp.r)).n=h.n+1+1+1+1:=rfl
 refine rf2 d1 b c ?_
 rw[ku (i:=h.n+1+1+1) (k:=h.n+1+1) _ _ _ ab,bB,bB]
 change an _ _ _ _ (H.new (H.new (H.new (H.new h (aC n)) (.cells [.str [],.int .i64 0])) (aC sp.l)) (aC sp.r)) _
 generalize H.new (H.new (H.new (H.new h (aC n)) (.cells [.str [],.int .i64 0])) (aC sp.l)) (aC sp.r)=h1 at*
 refine an.ba (vals:=[.ptr tid 0,.int .i64 (i:Int),aD sp.l]) ae xA4 (ov h1 g1 ht1) fun q h2 ⟨s1,k,hq,g2,hQ,sm2,no2⟩ n2 _=>?_
 subst hq
 have lt:=g.lt
 have ht2:h2.objs tid=some (trO x r):=(sm2 tid ab htx.1 htx.2.1 htx.2.2.1 htx.2.2.2.1 htx.2.2.2.2.1 htx.2.2.2.2.2).trans ht1
 have hn2:h2.objs (h.n+1)=some (.cells [.str [],.int .i64 0]):=(sm2 _ ab ab ab ab ab ab ab).trans hn1
 have hr2:h2.objs (h.n+1+1+1)=some (aC sp.r):=(sm2 _ ab ab ab ab ab ab ab).trans hr1
 unfold aC at hr2
 refine an.evF xAc ?_
 refine an.nil ?_
 refine rf0 hr2 ?_
 refine an.ba (vals:=[.ptr tid 0,aD sp.r]) ae xA4 (fr s1 k h2 hQ g2 ht2) fun q h3 ⟨s2,k2,hq,g3,hQ2,sm3,no3⟩ n3 _=>?_
 subst hq
 have hn3:h3.objs (h.n+1)=some (.cells [.str [],.int .i64 0]):=(sm3 _ ab ab ab ab ab ab ab).trans hn2
 refine an.evF (xAd hn3) ?_
 refine an.nil ?_
 refine Wp.ret ⟨trivial,.tup [.int .i64 k,.agg [.str sp.k,.int .i64 k2]],?_,s1,k,s2,k2,rfl,hQ,g3.other (j0:=h.n+1) ab ab,hQ2,?_,?_⟩
 ·have e2:dg [RV.tmp 6,RV.cell 7 (some 2)] (tm [(6,.int .i64 k),(7,.ptr (h.n+1) 0)]) ⟨upd h3.objs (h.n+1) (some (.cells [.str sp.k,.int .i64 k2])),h3.n,h3.toks,h3.m⟩=some (.tup [.int .i64 k,.agg [.str sp.k,.int .i64 k2]]):=by
   simp[dg,rvs,rv,tm,upd,Av.part,shaped,aR]
  exact e2
 ·intro j hj a1 a2 a3 a4 a5 a6
  have e:(upd h3.objs (h.n+1) (some (.cells [.str sp.k,.int .i64 k2])):Nat→Option Av.Obj) j=h3.objs j:=by simp only[upd];rw[if_neg ab]
  exact e.trans (((sm1.trans sm2 ab).trans sm3 ab) j hj a1 a2 a3 a4 a5 a6)
 ·exact aq.trans (aq.trans (aq.trans no1 no2 ab n2) no3 ab n3) (aq.set hn3) ab (Nat.le_refl _)
end
def ly (k:Int):Value:= .iface 37 (.int .i64 k)
def dD (h:H) (n0:Nat) (K:AV) (xs:List AV) (c:Nat):Prop:=(xs=[]∧K= .sl 1 [] (.exact 0))∨∃a,K= .tsl 1 a 0 xs.length none∧h.objs a=some (.cells xs)∧n0≤a∧a<h.n∧a≠c∧0<xs.length
theorem dD.keep {h h':H} {n0 c c':Nat} {K:AV} {xs:List AV} (r:dD h n0 K xs c) (hn:h.n≤h'.n) (ho:∀j,n0≤j→j<h.n→j≠c→h'.objs j=h.objs j) (hc:∀a,a<h.n→a≠c→a≠c'):dD h' n0 K xs c':=by
 rcases r with r|⟨a,r1,r2,r3,r4,r5,r6⟩
 ·exact .inl r
 ·exact .inr ⟨a,r1,(ho a r3 r4 r5).trans r2,r3,ab,hc a r4 r5,r6⟩
theorem dD.un {h:H} {n0 c:Nat} {K:AV} {xs:List AV} (r:dD h n0 K xs c):av (unT h (fun _=>true) K) (.sl 1 xs .any):=by
 rcases r with ⟨rfl,rfl⟩|⟨a,rfl,r2,-⟩
 ·simp only[unT];exact av.cap
 ·simp[unT,r2];exact av.refl _
theorem dD.cell {h:H} {n0 c:Nat} {K:AV} {xs:List AV} (r:dD h n0 K xs c):aR K=true:=by
 rcases r with ⟨rfl,rfl⟩|⟨a,rfl,r2,-⟩ <;>rfl
theorem CC {h:H} {c:Nat} {xs:List AV} (r2:h.objs c=some (.cells xs)):av (unT h (fun _=>true) (.tsl 1 c 0 xs.length none)) (.sl 1 xs .any):=by
 simp[unT,r2];exact av.refl _
def ndO (K:AV) (c k:Nat):Av.Obj:= .cells [.bool false,K,.sl 1 [] (.exact 0),.tsl 1 c 0 k none]
structure RdI (b:List UInt8) (h0:H) (i:Nat) (a:Acc) (h:H):Prop where
 o0:h.objs h0.n=some (.cells dr)
 o1:h.objs (h0.n+1)=some (cq b a.s)
 o2:∃K c,h.objs (h0.n+2)=some (ndO K c a.kids.length)∧h.objs c=some (.cells (ints a.kids))∧dD h (h0.n+3) K (strs a.keys) c∧h0.n+3≤c∧c<h.n
 kp:Kept h0 h
 ln:h0.n+3≤h.n
 lm:h0.m≤h.m
 tk:h.toks=h0.toks
 fr:∀j,h.n≤j→h.objs j=none
theorem CD (b:List UInt8) (s:Scan) (w:Nat) (hb:b.length≤1099511627776) (hs:s.pos≤b.length) (hw:w≤4) (id:Nat):sX Tryz.prog 100 [.ptr id 0,.int .i64 w] id (cq b s) (.int .i64 (dA b s w).1) (cq b (dA b s w).2):=
 fun n m=>⟨m,Nat.le_refl _,kA b s w hb hs hw id n m⟩
theorem Eu (b:List UInt8) (s:Scan) (w:Nat) (hb:b.length≤1099511627776) (hs:s.pos≤b.length) (hw:w≤4) (id:Nat):sX Tryz.prog 101 [.ptr id 0,.int .i64 w] id (cq b s) (.str (bM b s w).1) (cq b (bM b s w).2):=
 fun n m=>⟨m,Nat.le_refl _,tp b s w hb hs hw id n m⟩
theorem Ev {b:List UInt8}:∀(c:Nat) (a:Acc),(fe false b c a).s.ok=true→a.s.ok=true
 |0,a,h=>h
 |c+1,a,h=>by
  unfold fe at h
  split at h
  ·assumption
  ·exact h
set_option maxHeartbeats 2000000 in
theorem FY {h:H} {b:List UInt8} (hf:∀j,h.n≤j→h.objs j=none) (hE:lE b=0) (hlf:(fL b).leaf=false):
  aJ Tryz.prog 72 [.sl 1 (ar b) .any] h fun q h'=>∃K c,q= .tup [.agg [.bool false,K,.sl 1 [] (.exact 0),.tsl 1 c 0 (fL b).kids.length none],.int .i64 0]∧h'.objs c=some (.cells (ints (fL b).kids))∧dD h' (h.n+3) K (strs (fL b).keys) c∧h.n+3≤c∧c<h'.n∧Kept h h'∧aq h h'∧h'.toks=h.toks∧(∀j,h'.n≤j→h'.objs j=none):=by
 have hP:fZ b=true:=by
  unfold lE at hE
  split at hE
  ·assumption
  ·cases hE
 have hP2:=hP
 unfold fZ at hP2
 simp only[Bool.and_eq_true,decide_eq_true_eq] at hP2
 obtain ⟨⟨⟨hb,hok⟩,hchk⟩,hbb⟩:=hP2
 unfold fL at hlf ⊢
 rw[if_pos hP] at hlf ⊢
 have hlo:bU b=false:=hlf
 obtain ⟨htag,hbl⟩:=(pZ hb hok hchk).1 hbb
 have h73:decide (b.getD 0 0=73)=true:=by
  unfold pY at htag
  unfold bU at hlo
  rw[hlo] at htag
  simpa using htag
 have en:dA b ⟨1,true⟩ 2=(val ((b.drop 1).take 2),⟨3,true⟩):=by rw[dA,if_pos ak]
 have hcn:=pW b
 have hI0:=Inv.start false b ab
 have hacc:bE b=fe false b (val ((b.drop 1).take 2)) (dP false b):=by unfold bE;rw[hlo]
 have hS1:=CD b ⟨1,true⟩ 2 ab ak ab (h.n+1)
 have hS2:=CD b ⟨3,true⟩ 4 ab ak ab (h.n+1)
 rw[en] at hS1
 simp only at hS1
 have hvals:(bE b).vals=[]∧(cE b).kids=(bE b).kids∧(cE b).keys=(bE b).keys:=by
  have hr:=cR (n:=cE b) hlf
  exact ⟨(hr.1 (ig hchk).1).2.1,rfl,rfl⟩
 generalize hC:val ((b.drop 1).take 2)=C at*
 refine f72.bC af ?_
 unfold c72 zz
 have d0:decide ((b.length:Int)=1024)=true:=decide_eq_true ab
 have x0:(0:Int)<(b.length:Int):=by omega
 have y0:(0:Int)≤(0:Int):=by omega
 have z0:(0:Int).toNat=0:=rfl
 have b0:=jM b 0 .any ab
 have hj2:=mU b
 have hj1:=kV b
 rw[h73] at hj2
 rw[hlo] at hj1
 refine rf0 (cj8 d0 x0 y0 z0 b0 @byte.eq_1 hj1 hj2) ?_
 rw[bB]
 refine an.uF xA2 xAb ((by simp[upd,cq])) (hS1) fun m1 hm1=>?_
 refine an.evF xAc ?_
 refine an.nil ?_
 have e3:upd (upd (upd (upd h.objs h.n (some (Av.Obj.cells dr))) (h.n+1) (some (cq b ⟨1,true⟩))) (h.n+1+1) (some (.cells dr))) (h.n+1) (some (cq b ⟨3,true⟩))=upd (upd (upd h.objs h.n (some (Av.Obj.cells dr))) (h.n+1) (some (cq b ⟨3,true⟩))) (h.n+2) (some (.cells dr)):=by
  funext j;simp only[upd]
  by_cases q1:j=h.n+1
  ·subst q1;simp
  ·simp[q1]
 refine Wp.le (s':=⟨tm [(0,.sl 1 (ar b) .any),(2,.ptr h.n 0),(4,.ptr (h.n+1) 0),(5,.ptr (h.n+2) 0),(6,.int .i64 C)],⟨upd (upd (upd h.objs h.n (some (Av.Obj.cells dr))) (h.n+1) (some (cq b ⟨3,true⟩))) (h.n+2) (some (.cells dr)),h.n+3,h.toks,m1⟩⟩) (aM.of (bA ?_) ?_ (fun y hy=>hy) (Nat.le_refl _) (Nat.le_refl _)) ?_
 ·exact xSb
 ·exact e3▸OLe.refl _
 have j0:(upd (upd (upd h.objs h.n (some (Av.Obj.cells dr))) (h.n+1) (some (cq b ⟨3,true⟩))) (h.n+2) (some (.cells dr)):Nat→Option Av.Obj) h.n=some (.cells dr):=by simp[upd]
 have j1:(upd (upd (upd h.objs h.n (some (Av.Obj.cells dr))) (h.n+1) (some (cq b ⟨3,true⟩))) (h.n+2) (some (.cells dr)):Nat→Option Av.Obj) (h.n+1)=some (cq b ⟨3,true⟩):=by simp[upd]
 have j2:(upd (upd (upd h.objs h.n (some (Av.Obj.cells dr))) (h.n+1) (some (cq b ⟨3,true⟩))) (h.n+2) (some (.cells dr)):Nat→Option Av.Obj) (h.n+2)=some (.cells dr):=by simp[upd]
 have jk:∀j,j<h.n→(upd (upd (upd h.objs h.n (some (Av.Obj.cells dr))) (h.n+1) (some (cq b ⟨3,true⟩))) (h.n+2) (some (.cells dr)):Nat→Option Av.Obj) j=h.objs j:=fun j hj=>by simp only[upd];rw[if_neg ab,if_neg ab,if_neg ab]
 have jf:∀j,h.n+3≤j→(upd (upd (upd h.objs h.n (some (Av.Obj.cells dr))) (h.n+1) (some (cq b ⟨3,true⟩))) (h.n+2) (some (.cells dr)):Nat→Option Av.Obj) j=none:=fun j hj=>by simp only[upd];rw[if_neg ab,if_neg ab,if_neg ab];exact hf j ab
 generalize (upd (upd (upd h.objs h.n (some (Av.Obj.cells dr))) (h.n+1) (some (cq b ⟨3,true⟩))) (h.n+2) (some (.cells dr)):Nat→Option Av.Obj)=F at*
 unfold dr at j2
 refine rf0 j2 ?_
 refine Wp.reg ?_
 refine ao.part 3 (xAe j2) ?_
 simp only[List.drop_succ_cons,List.drop_zero,List.drop_nil]
 refine ao.uF xA2 xAb ((j1)) (hS2) fun m2 hm2=>?_
 refine ao.part 1 xA1 ?_
 simp only[List.drop_succ_cons,List.drop_zero,List.drop_nil]
 refine ao.opT xA2 (by simp only[gJ,go_sem,reduceIte,Nat.reduceEqDiff,Nat.reduceAdd,bx];exact rfl) rfl ?_
 refine ao.part 2 (xAe j2) ?_
 simp only[List.drop_succ_cons,List.drop_zero,List.drop_nil]
 refine ao.nil ⟨by simp[bf,aQ,apart,aX],?_⟩
 have R0:RdI b h 0 (dP false b) ⟨upd (upd (upd F (h.n+1) (some (cq b (dA b ⟨3,true⟩ 4).2))) (h.n+3) (some (.cells (List.flatMap cellsOf [AV.int .i64 (dA b ⟨3,true⟩ 4).1])))) (h.n+2) (some (.cells [AV.bool false,AV.sl 1 [] (.exact 0),AV.sl 1 [] (.exact 0),AV.tsl 1 (h.n+3) 0 1 none])),h.n+3+1,h.toks,m2⟩:=by
  refine ⟨by simp[upd,j0],by simp[upd,dP],⟨.sl 1 [] (.exact 0),h.n+3,by simp[upd,ndO,dP],by simp[upd,dP,ints,cellsOf],.inl ⟨by simp[dP,strs],rfl⟩,Nat.le_refl _,Nat.lt_succ_self _⟩,fun j hj=>?_,by simp only;omega,?_,rfl,fun j hj=>?_⟩
  ·simp only[upd];rw[if_neg ab,if_neg ab,if_neg ab];exact jk j hj
  ·exact Nat.le_trans hm1 hm2
  ·simp only at hj
   simp only[upd];rw[if_neg ab,if_neg ab,if_neg ab];exact jf j ab
 generalize (⟨upd (upd (upd F (h.n+1) (some (cq b (dA b ⟨3,true⟩ 4).2))) (h.n+3) (some (.cells (List.flatMap cellsOf [AV.int .i64 (dA b ⟨3,true⟩ 4).1])))) (h.n+2) (some (.cells [AV.bool false,AV.sl 1 [] (.exact 0),AV.sl 1 [] (.exact 0),AV.tsl 1 (h.n+3) 0 1 none])),h.n+3+1,h.toks,m2⟩:H)=g0 at*
 clear hm1 hm2 hS1 hS2 j0 j1 j2 jk jf e3 F
 refine Wp.seq (Wp.block ?_)
 refine Wp.eI [0,2,4,5] xA7 (fun q:Nat × Acc × H=>[(6,.int .i64 ((C - q.1:Nat):Int))]) (fun q=>q.2.2) (fun q=>q.1≤C∧RdI b h q.1 q.2.1 q.2.2∧Page.Inv false b q.1 q.2.1∧fe false b (C - q.1) q.2.1=bE b) (fun q=>C - q.1) (0,dP false b,g0) ⟨Nat.zero_le _,R0,hI0,hacc.symm⟩ rfl ?_ ?_
 ·exact xSb
 clear R0
 rintro ⟨i,a,g⟩ ⟨hi,R,I,L⟩
 simp only at hi R I L
 have hao:a.s.ok=true:=Ev _ _ (by rw[L];exact hok)
 have o1:=R.o1
 unfold cq at o1
 rw[hao] at o1
 obtain ⟨K,c,o2,oc,rK,hc1,hc2⟩:=R.o2
 have ln:=R.ln
 by_cases hlt:i<C
 ·have d1:decide ((0:Int)<((C - i:Nat):Int))=true:=decide_eq_true ab
  have e1:IntKind.i64.wrap (((C - i:Nat):Int) - 1)=((C - (i+1):Nat):Int):=by rw[IntWalk.i64_in _ ab];omega
  have hst:fe false b (C - (i+1)) (eJ false b a)=bE b:=by
   rw[←L,show C - i=(C - (i+1))+1 by omega,fe,if_pos hao]
  have hI':=I.step
  have lk:=I.k
  have ld:=I.d
  have hP1:=Eu b a.s 1 ab I.pos ab (h.n+1)
  have hN1:=CD b (bM b a.s 1).2 4 ab (kT I.pos) ab (h.n+1)
  refine rf0 (cj2 d1 o1) ?_
  have hks:∀k,(strs (a.keys++[k])).length=(strs a.keys).length+1:=fun k=>by simp[strs]
  have hfm:∀k,strs a.keys++List.flatMap cellsOf [AV.str k]=strs (a.keys++[k]):=fun k=>by simp[strs,cellsOf]
  have lks:(strs a.keys).length=a.keys.length:=by simp[strs]
  refine Wp.ex (β:=H) (fun g2=>⟨tm [(0,.sl 1 (ar b) .any),(2,.ptr h.n 0),(4,.ptr (h.n+1) 0),(5,.ptr (h.n+2) 0),(6,.int .i64 ((C - i:Nat):Int))],g2⟩) (fun g2=>RdI b h i ⟨a.keys++[(bM b a.s 1).1],a.vals,a.kids,(bM b a.s 1).2⟩ g2) (Wp.reg ?_) fun g2 s' R2 le=>?_
  ·unfold ndO at o2
   refine ao.part 3 (xAe o2) ?_
   simp only[List.drop_succ_cons,List.drop_zero,List.drop_nil]
   refine ao.uF xA2 xAb ((R.o1)) (hP1) fun m2 hm2=>?_
   refine ao.part 1 xA1 ?_
   simp only[List.drop_succ_cons,List.drop_zero,List.drop_nil]
   have r1:¬(h.n+1=g.n):=by omega
   have r2:¬(h.n+2=g.n):=by omega
   have r3:¬(h.n=g.n):=by omega
   rcases rK with ⟨k1,rfl⟩|⟨ka,rfl,k2,k3,k4,k5,k6⟩
   ·have k1':a.keys=[]:=List.map_eq_nil_iff.1 k1
    refine ao.opT xA2 (by simp only[gJ,go_sem,reduceIte,Nat.reduceEqDiff,Nat.reduceAdd,bx];exact rfl) rfl ?_
    refine ao.part 2 (xAe (cj2 o2 r2)) ?_
    simp only[List.drop_succ_cons,List.drop_zero,List.drop_nil]
    refine ao.nil ⟨by simp[bf,aQ,apart,aX],?_⟩
    refine ⟨_,?_,aM.tm ?_⟩
    ·refine ⟨by simp[upd,r3,R.o0],by simp[upd,r1],⟨.tsl 1 g.n 0 1 none,c,by simp[upd,ndO],?_,.inr ⟨g.n,by simp[k1',strs],?_,ln,Nat.lt_succ_self _,ab,by simp[strs]⟩,hc1,Nat.lt_succ_of_lt hc2⟩,fun j hj=>?_,by simp only;omega,Nat.le_trans R.lm hm2,R.tk,fun j hj=>?_⟩
     ·simp only[upd];rw[if_neg ab,if_neg ab,if_neg ab];exact oc
     ·simp only[upd];rw[if_neg ab];simp[k1',strs,cellsOf]
     ·simp only[upd];rw[if_neg ab,if_neg ab,if_neg ab];exact R.kp j hj
     ·simp only at hj
      simp only[upd];rw[if_neg ab,if_neg ab,if_neg ab];exact R.fr j ab
    ·exact xSb
   ·have q1:(strs a.keys).length=(strs a.keys).length*1:=(Nat.mul_one _).symm
    have q2:(a.keys.length+1)*16≤140737488355328:=by omega
    have q3:a.keys.length+1<4611686018427387904:=by omega
    have r4:¬(ka=h.n+1):=by omega
    have r5:¬(h.n+2=ka):=by omega
    have q4:strs a.keys++[AV.str (bM b a.s 1).1]=strs (a.keys++[(bM b a.s 1).1]):=by simp[strs]
    have q5:List.flatMap cellsOf [AV.str (bM b a.s 1).1]=[AV.str (bM b a.s 1).1]:=rfl
    refine ao.opK xA2 (by simp only[lq,go_sem,reduceIte,Nat.reduceEqDiff,Nat.reduceAdd,bx,r4,k2,q2,q3,List.all_cons,List.all_nil,Nat.mul_one,and_self,decide_true,Bool.and_self,lks,if_true];exact rfl) rfl ?_
    refine ao.part 2 (xAe (cj3 o2 r2 r5)) ?_
    simp only[List.drop_succ_cons,List.drop_zero,List.drop_nil]
    refine ao.nil ⟨by simp[bf,aQ,apart,aX],?_⟩
    refine ⟨_,?_,aM.tm ?_⟩
    ·refine ⟨?_,by simp[upd,r1,Ne.symm r4],⟨.tsl 1 g.n 0 (a.keys.length+1) none,c,by simp[upd,ndO],?_,.inr ⟨g.n,by simp[strs],?_,ln,Nat.lt_succ_self _,ab,by simp[strs]⟩,hc1,Nat.lt_succ_of_lt hc2⟩,fun j hj=>?_,by simp only;omega,Nat.le_trans R.lm hm2,R.tk,fun j hj=>?_⟩
     ·simp only[upd];rw[if_neg ab,if_neg ab,if_neg ab,if_neg ab];exact R.o0
     ·simp only[upd];rw[if_neg ab,if_neg ab,if_neg ab,if_neg ab];exact oc
     ·simp only[upd];rw[if_neg ab,if_pos trivial,q5,q4]
     ·simp only[upd];rw[if_neg ab,if_neg ab,if_neg ab,if_neg ab];exact R.kp j hj
     ·simp only at hj
      simp only[upd];rw[if_neg ab,if_neg ab,if_neg ab,if_neg ab];exact R.fr j ab
    ·exact xSb
  ·refine Wp.le le ?_
   clear le R o1 o2 oc rK
   have o1:=R2.o1
   obtain ⟨K2,c2,o2,oc,rK,hc1,hc2⟩:=R2.o2
   have ln:=R2.ln
   unfold ndO at o2
   simp only at oc rK o2
   have lki:(ints a.kids).length=a.kids.length:=by simp[ints]
   have q2:(a.kids.length+1)*8≤140737488355328:=by omega
   have q3:a.kids.length+1<4611686018427387904:=by omega
   have r1:¬(h.n+1=g2.n):=by omega
   have r2:¬(h.n+2=g2.n):=by omega
   have r4:¬(c2=h.n+1):=by omega
   have r5:¬(h.n+2=c2):=by omega
   refine rf0 o2 ?_
   refine Wp.reg ?_
   refine ao.part 3 (xAe o2) ?_
   simp only[List.drop_succ_cons,List.drop_zero,List.drop_nil]
   refine ao.uF xA2 xAb ((o1)) (hN1) fun m2 hm2=>?_
   refine ao.part 1 xA1 ?_
   simp only[List.drop_succ_cons,List.drop_zero,List.drop_nil]
   refine ao.opK xA2 (by simp only[lq,go_sem,reduceIte,Nat.reduceEqDiff,Nat.reduceAdd,bx,r4,oc,q2,q3,List.all_cons,List.all_nil,Nat.mul_one,and_self,decide_true,Bool.and_self,lki,if_true];exact rfl) rfl ?_
   refine ao.part 2 (xAe (cj3 o2 r2 r5)) ?_
   simp only[List.drop_succ_cons,List.drop_zero,List.drop_nil]
   refine ao.nil ⟨by simp[bf,aQ,apart,aX],?_⟩
   refine rf0 e1 ?_
   refine ⟨(i+1,eJ false b a,_),⟨by simp only;omega,?_,hI',hst⟩,by simp only;omega,aM.tm ?_⟩
   ·refine ⟨?_,by simp[upd,r1,Ne.symm r4,eJ],⟨K2,g2.n,by simp[upd,ndO,eJ],?_,?_,ln,Nat.lt_succ_self _⟩,fun j hj=>?_,by simp only;omega,Nat.le_trans R2.lm hm2,R2.tk,fun j hj=>?_⟩
    ·simp only[upd];rw[if_neg ab,if_neg ab,if_neg ab,if_neg ab];exact R2.o0
    ·simp only[upd];rw[if_neg ab];simp[eJ,ints,cellsOf]
    ·rcases rK with ⟨k1,k2⟩|⟨ka,k1,k2,k3,k4,k5,k6⟩
     ·exact .inl ⟨by simpa [eJ] using k1,k2⟩
     ·refine .inr ⟨ka,by simpa [eJ] using k1,?_,k3,Nat.lt_succ_of_lt k4,ab,by simpa [eJ] using k6⟩
      simp only[upd];rw[if_neg ab,if_neg ab,if_neg ab,if_neg ab];simpa [eJ] using k2
    ·simp only[upd];rw[if_neg ab,if_neg ab,if_neg ab,if_neg ab];exact R2.kp j hj
    ·simp only at hj
     simp only[upd];rw[if_neg ab,if_neg ab,if_neg ab,if_neg ab];exact R2.fr j ab
   ·exact xSb
 ·have hi2:i=C:=by omega
  subst hi2
  have ha:a=bE b:=by rw[←L,Nat.sub_self,fe]
  subst ha
  have d1:decide ((0:Int)<((i - i:Nat):Int))=false:=decide_eq_false ab
  have hn:=xX hb
  have hcl:∀K2,av (unT g (fun _=>true) K2) (.sl 1 (strs (cE b).keys) .any)→ay (gZ g (fun _=>true) [.agg [.bool false,K2,.sl 1 [] (.exact 0),.tsl 1 c 0 (bE b).kids.length none]]) [aD (cE b)]:=by
   intro K2 hK
   have hk2:(bE b).kids.length=(ints (bE b).kids).length:=by simp[ints]
   have hT:av (unT g (fun _=>true) (.tsl 1 c 0 (bE b).kids.length none)) (.sl 1 (ints (cE b).kids) .any):=by
    rw[hk2];exact CC oc
   have hv:(cE b).vals=[]:=hvals.1
   unfold aD
   rw[hlf,hv]
   simp only[gZ]
   refine ay.cons ?_ ay.nil
   simp only[unT,gZ]
   simp only[unT] at hT
   exact av.agg (ay.cons (av.refl _) (ay.cons hK (ay.cons av.cap (ay.cons hT ay.nil))))
  have c3:aK Tryz.prog 103 [.agg [.bool false,K,.sl 1 [] (.exact 0),.tsl 1 c 0 (bE b).kids.length none]] g (.int .i64 (check (cE b))) g:=bj.E6 (mN _ hn) (hcl K rK.un) (fun _ _ _ _ h=>by simpa [aw] using h)
  rw[hchk] at c3
  have hblank:=qa (b.drop (bE b).s.pos) ak
  have hbl2:(b.drop (bE b).s.pos).any (fun c=>decide (c≠0))=false:=by
   unfold jq at hbl
   simpa using hbl
  rw[hbl2] at hblank
  have x1:(0:Int)≤((bE b).s.pos:Int):=by omega
  have x2:((bE b).s.pos:Int)≤(b.length:Int):=by have:=I.pos;omega
  have d2:decide (((0:Nat):Int)=0)=true:=by decide
  unfold ndO at o2
  refine rg2 (cj9 d1 o1 o2 x1 x2 d2 @iq @ir @List.take_length.{0}) hblank c3 ?_
  have o0:=R.o0
  unfold dr at o0
  have hKc:=rK.cell
  unfold aR at hKc
  refine rf0 (cj3 o0 o2 hKc) ?_
  have q0:∀j,j≠h.n→(upd g.objs h.n (some (.cells [AV.bool false,K,.sl 1 [] (.exact 0),.tsl 1 c 0 (bE b).kids.length none])):Nat→Option Av.Obj) j=g.objs j:=fun j hj=>by simp only[upd];rw[if_neg hj]
  refine Wp.ret ?_
  refine ⟨trivial,.tup [.agg [.bool false,K,.sl 1 [] (.exact 0),.tsl 1 c 0 (cE b).kids.length none],.int .i64 0],?_,K,c,rfl,(q0 _ ab).trans oc,?_,hc1,hc2,fun j hj=>(q0 _ ab).trans (R.kp j hj),fun j hj=>?_,R.tk,fun j hj=>(q0 _ (by simp only at hj;omega)).trans (R.fr j hj)⟩
  ·simp[dg,rvs,rv,tm,upd,Av.part,shaped,aR,cE]
  ·exact rK.keep (Nat.le_refl _) (fun j h1 h2 _=>q0 _ ab) (fun a _ h=>h)
  ·have hj:((upd g.objs h.n (some (.cells [AV.bool false,K,.sl 1 [] (.exact 0),.tsl 1 c 0 (bE b).kids.length none])):Nat→Option Av.Obj) j).isSome=true:=hj
   by_cases e:j<h.n
   ·left
    rw[q0 _ ab,R.kp j e] at hj
    exact hj
   ·right
    refine ⟨ab,?_⟩
    show j<g.n
    rcases Nat.lt_or_ge j g.n with e2|e2
    ·exact e2
    ·rw[q0 _ ab,R.fr j e2] at hj;cases hj
section
variable {h:H}
theorem qj {h1:H} {id:Nat} (hs:h1.sub h) (hn:h1.n=h.n) (hm:h1.m=h.m) (ht:h1.toks=[]) (h0:(h1.objs id).isSome=true):h.patch h1 (h1.less id)=h.less id:=by
 refine H.ext (fun j=>?_) hn (by simp[H.patch,H.less,ht,eZ]) hm
 simp only[H.patch,H.less]
 by_cases e:j=id
 ·subst e;simp[h0]
 ·simp only[e,if_false]
  by_cases q:(h1.objs j).isSome=true
  ·obtain ⟨o,ho⟩:=Option.isSome_iff_exists.1 q
   simp[ho,hs.1 _ _ ho]
  ·have q2:¬((h1.objs j).isSome=true∨h1.n≤j∧j<h1.n):=by
    rintro (x|x)
    ·exact q x
    ·omega
   split
   ·exact absurd ‹_› q2
   ·rfl
theorem rY {id:Nat} {o:Av.Obj} (ho:h.objs id=some o):(H.only (upd az id (some o)) [] h.n h.m).sub h:=by
 refine ⟨fun j o' hj=>?_,fun t ht=>by simp[H.only] at ht⟩
 simp only[H.only,upd,az] at hj
 split at hj
 ·rename_i e;subst e;rw[ho];exact hj
 ·cases hj
theorem Ay {id id2:Nat} {o o2:Av.Obj} (ho:h.objs id=some o) (ho2:h.objs id2=some o2):(H.only (upd (upd az id (some o)) id2 (some o2)) [] h.n h.m).sub h:=by
 refine ⟨fun j o' hj=>?_,fun t ht=>by simp[H.only] at ht⟩
 simp only[H.only,upd,az] at hj
 split at hj
 ·rename_i e;subst e;rw[ho2];exact hj
 ·split at hj
  ·rename_i e;subst e;rw[ho];exact hj
  ·cases hj
theorem aK.CE {f:FuncId} {args:List AV} {r:AV} {id:Nat} {o:Av.Obj} (ho:h.objs id=some o) (hc:∀h1:H,h1.objs=upd az id (some o)→h1.toks=[]→aK Tryz.prog f args h1 r (h1.less id)):aK Tryz.prog f args h r (h.less id):=by
 rw[←qj (rY ho) rfl rfl rfl (id:=id) (by simp[H.only,upd])]
 exact aK.frame (rY ho) rfl rfl (Nat.le_refl _) (Nat.le_refl _) (hc _ rfl rfl)
theorem aK.CF {f:FuncId} {args:List AV} {r:AV} {id id2 k:Nat} {o o2:Av.Obj} (ho:h.objs id=some o) (ho2:h.objs id2=some o2) (hk:k=id∨k=id2) (hc:∀h1:H,h1.objs id=some o→h1.objs id2=some o2→h1.toks=[]→aK Tryz.prog f args h1 r (h1.less k)):aK Tryz.prog f args h r (h.less k):=by
 have q1:(upd (upd az id (some o)) id2 (some o2):Nat→Option Av.Obj) id2=some o2:=by simp[upd]
 have q2:(upd (upd az id (some o)) id2 (some o2):Nat→Option Av.Obj) id=some o:=by
  simp only[upd]
  by_cases e:id=id2
  ·subst e;have e2:o2=o:=Option.some.inj (ho2.symm.trans ho);simp[e2]
  ·rw[if_neg e];simp
 have hs:=Ay ho ho2
 rw[←qj hs rfl rfl rfl (id:=k) (by
  show ((upd (upd az id (some o)) id2 (some o2):Nat→Option Av.Obj) k).isSome=true
  rcases hk with rfl|rfl
  ·rw[q2];rfl
  ·rw[q1];rfl)]
 exact aK.frame hs rfl rfl (Nat.le_refl _) (Nat.le_refl _) (hc _ q2 q1 rfl)
def CG (h h':H) (P:Nat→Prop):Prop:=h'.n=h.n∧h'.m=h.m∧h'.toks=h.toks∧∃a,P a∧∀j,h'.objs j=if j=a then none else h.objs j
theorem ql {f:FuncId} {args:List AV} {r:AV} {k:Nat} {P:Nat→Prop} (hc:aK Tryz.prog f args h r (h.less k)) (hp:P k):aJ Tryz.prog f args h fun q h'=>q=r∧CG h h' P:=
 ⟨r,_,hc,Nat.le_refl _,Nat.le_refl _,rfl,rfl,rfl,rfl,k,hp,fun j=>rfl⟩
theorem Az (l:List (List UInt8)) (i:Nat) (x:List UInt8) (hi:i≤l.length) (hl:l.length<1099511627776) {K:AV} {n0 c id2:Nat} (r:dD h n0 K (strs l) c) (ho2:h.objs id2=some (.cells [.str x])) (h3:∀a,K= .tsl 1 a 0 l.length none→a≠id2):
  aJ Tryz.prog 88 [K,.int .i64 i,.tsl 1 id2 0 1 none] h fun q h'=>q= .sl 1 (strs (l.take i++x::l.drop i)) .any∧CG h h' fun a=>K= .tsl 1 a 0 l.length none∨a=id2:=by
 rcases r with ⟨k1,rfl⟩|⟨a,rfl,k2,k3,k4,k5,k6⟩
 ·have e:l=[]:=List.map_eq_nil_iff.1 k1
  subst e
  have e2:i=0:=by simpa using hi
  subst e2
  exact ql (aK.CE ho2 fun hx e1 e2=>uM x (by rw[e1];simp[upd]) e2) (.inr rfl)
 ·have e:(strs l).length=l.length:=by simp[strs]
  rw[e] at k6 ⊢
  exact ql (aK.CF k2 ho2 (.inl rfl) fun hx e1 e2 e3=>uK l i x hi hl k6 (h3 a (by rw[e])) e1 e2 e3) (.inl rfl)
theorem AA (l:List Int) (i:Nat) (x:Int) (hi:i≤l.length) (hl:l.length<1099511627776) (hp:0<l.length) {c id2:Nat} (ho:h.objs c=some (.cells (ints l))) (ho2:h.objs id2=some (.cells [.int .i64 x])) (h3:c≠id2):
  aJ Tryz.prog 89 [.tsl 1 c 0 l.length none,.int .i64 i,.tsl 1 id2 0 1 none] h fun q h'=>q= .sl 1 (ints (l.take i++x::l.drop i)) .any∧CG h h' fun a=>a=c:=
 ql (aK.CF ho ho2 (.inl rfl) fun hx e1 e2 e3=>Ag l i x hi hl hp h3 e1 e2 e3) rfl
theorem AB (l:List (List UInt8)) (i:Nat) (hi:i<l.length) (hl:l.length<1099511627776) {K:AV} {n0 c:Nat} (r:dD h n0 K (strs l) c):
  aJ Tryz.prog 80 [K,.int .i64 i,.int .i64 ((i+1:Nat):Int)] h fun q h'=>q= .sl 1 (strs (l.take i++l.drop (i+1))) .any∧CG h h' fun a=>K= .tsl 1 a 0 l.length none:=by
 rcases r with ⟨k1,rfl⟩|⟨a,rfl,k2,k3,k4,k5,k6⟩
 ·have e:l=[]:=List.map_eq_nil_iff.1 k1
  subst e
  cases hi
 ·have e:(strs l).length=l.length:=by simp[strs]
  rw[e]
  exact ql (aK.CE k2 fun hx e1 e2=>uL l i hi hl (by rw[e1];simp[upd]) e2) rfl
theorem AD (l:List Int) (i:Nat) (hi:i<l.length) (hl:l.length<1099511627776) {c:Nat} (ho:h.objs c=some (.cells (ints l))):
  aJ Tryz.prog 79 [.tsl 1 c 0 l.length none,.int .i64 i,.int .i64 ((i+1:Nat):Int)] h fun q h'=>q= .sl 1 (ints (l.take i++l.drop (i+1))) .any∧CG h h' fun a=>a=c:=
 ql (aK.CE ho fun hx e1 e2=>Ah l i hi hl (by rw[e1];simp[upd]) e2) rfl
end
section
variable {x:PgI} {s:PgS} {T:List Nat} {h:H}
theorem CH {tid i d:Nat} {r:Int} (g:PgH x s T h) (ok:cu s) (ht:h.objs tid=some (trO x r)) (hi:i<s.np) (hs:s.st.getD i 0≠0) (hp:s.p.length<900000) (hd:d≤20) (hr:lE (pgB s.p s.d i 8)=0) (hlf:(fL (pgB s.p s.d i 8)).leaf=false):
  aJ Tryz.prog 41 [.ptr tid 0,.int .i64 (i:Int),.int .i64 (d:Int)] h fun q h'=>∃K c,q= .agg [.bool false,K,.sl 1 [] (.exact 0),.tsl 1 c 0 (fL (pgB s.p s.d i 8)).kids.length none]∧h'.objs c=some (.cells (ints (fL (pgB s.p s.d i 8)).kids))∧dD h' h.n K (strs (fL (pgB s.p s.d i 8)).keys) c∧h.n≤c∧c<h'.n∧PgH x s T h'∧Kept h h'∧aq h h':=by
 refine f41.bC af ?_
 unfold c41 zz
 have hlt:tid<h.n:=by
  rcases Nat.lt_or_ge tid h.n with q|q
  ·exact q
  ·rw[g.fresh _ q] at ht;cases ht
 have d1:decide ((20:Int)<(d:Int))=false:=decide_eq_false ab
 obtain ⟨o0,ho0⟩:∃o0:Av.Obj,o0= .cells [.bool false,.sl 1 [] (.exact 0),.sl 1 [] (.exact 0),.sl 1 [] (.exact 0)]:=⟨_,rfl⟩
 have ht1:=(aO (o:=o0) hlt).trans ht
 have hn1:=bZ (h:=h) (o:=o0)
 have g1:=g.new o0
 have k1:Kept h (H.new h o0):=fun j hj=>aO hj
 have no1:=bP (h:=h) (o:=o0)
 have ln:h.n+1≤(H.new h o0).n:=Nat.le_refl _
 have lm:(H.new h o0).m=h.m:=rfl
 refine rf0 d1 ?_
 refine Wp.le (s':=⟨tm [(0,.ptr tid 0),(1,.int .i64 i),(6,.ptr h.n 0)],H.new h o0⟩) (aM.of (bA ?_) ?_ (fun y hy=>hy) (Nat.le_refl _) (Nat.le_refl _)) ?_
 ·exact xSb
 ·rw[ho0];exact OLe.refl _
 generalize H.new h o0=h1 at*
 unfold trO at ht1
 refine rf0 ht1 ?_
 refine an.ba ae xA4 (ye g1 ok hi hs hp) fun q h2 ⟨hq,g2,o2⟩ n2 m2=>?_
 subst hq
 have c2:aK Tryz.prog 47 [.int .i64 0] h2 (.tup []) h2:=fc
 refine an.evF xAc ?_
 refine an.nil ?_
 refine rg1 @and_self c2 ?_
 refine an.ba ae xA4 (FY (h:=h2) (g2.fresh) hr hlf) fun q h3 ⟨K,c,hq,oc,rK,hc1,hc2,k3,no3,tk3,f3⟩ n3 m3=>?_
 subst hq
 generalize fL (pgB s.p s.d i 8)=nd at*
 have hKc:=rK.cell
 have hKc2:=hKc
 unfold aR at hKc
 have nK:h2.n+3≤h3.n:=by omega
 obtain ⟨o4,ho4⟩:∃o4:Av.Obj,o4= .cells [.bool false,K,.sl 1 [] (.exact 0),.tsl 1 c 0 nd.kids.length none]:=⟨_,rfl⟩
 have g3:PgH x s T h3:=g2.keep k3 n3 f3 tk3 m3
 have g4:=g3.new o4
 have hn4:=bZ (h:=h3) (o:=o4)
 have hn0:(H.new h3 o4).objs h.n=some o0:=(aO ab).trans ((k3 _ ab).trans ((by rw[o2]:h2.objs h.n=h1.objs h.n).trans hn1))
 have c3:aK Tryz.prog 47 [.int .i64 0] (H.new h3 o4) (.tup []) (H.new h3 o4):=fc
 have rK4:dD (H.new h3 o4) (h2.n+3) K (strs nd.keys) c:=rK.keep (Nat.le_succ _) (fun j a b _=>aO b) (fun a _ h=>h)
 have oc4:(H.new h3 o4).objs c=some (.cells (ints nd.kids)):=(aO hc2).trans oc
 have ln4:(H.new h3 o4).n=h3.n+1:=rfl
 have lm4:(H.new h3 o4).m=h3.m:=rfl
 have c4:=c3
 rw[ho4] at c4
 unfold H.new at c4
 refine an.evF (xAd hKc) ?_
 rw[bB]
 refine an.nil ?_
 refine rf0 @and_self ?_
 refine an.cJ xA2 xAb (by exact ⟨Nat.le_refl _,Nat.le_refl _⟩) (c4) ?_
 refine an.nil ?_
 have k4:∀j,j<h3.n→(H.new h3 o4).objs j=h3.objs j:=fun j hj=>aO hj
 have f4:∀j,h3.n+1≤j→(H.new h3 o4).objs j=none:=g4.fresh
 have t4:(H.new h3 o4).toks=h3.toks:=rfl
 refine Wp.le (s':=⟨tm [(6,.ptr h.n 0),(9,.ptr h3.n 0)],H.new h3 o4⟩) (aM.of (bA ?_) (by rw[ho4];exact OLe.refl _) (fun y hy=>hy) (Nat.le_refl _) (Nat.le_refl _)) ?_
 ·exact xSb
 clear c3 c4 c2
 generalize H.new h3 o4=h4 at*
 have hne:¬(h.n=h3.n):=by omega
 rw[ho0] at hn0
 rw[ho4] at hn4
 refine rf0 (cj4 hn4 hn0 hne hKc) ?_
 have q:∀j,j≠h.n→(upd h4.objs h.n (some o4):Nat→Option Av.Obj) j=h4.objs j:=fun j hj=>by simp only[upd];rw[if_neg hj]
 rw[←ho4]
 refine Wp.ret ?_
 refine ⟨trivial,.agg [.bool false,K,.sl 1 [] (.exact 0),.tsl 1 c 0 nd.kids.length none],?_,K,c,rfl,(q _ ab).trans oc4,?_,ab,by show c<h4.n;omega,?_,fun j hj=>?_,fun j hj=>?_⟩
 ·rw[ho4]
  simp[dg,rvs,rv,tm,upd,Av.part,shaped,hKc2,aR]
 ·rcases rK4 with r|⟨a,r1,r2,r3,r4,r5,r6⟩
  ·exact .inl r
  ·exact .inr ⟨a,r1,(q _ ab).trans r2,ab,r4,r5,r6⟩
 ·refine g.keep (fun j hj=>?_) (show h.n≤h4.n by omega) (fun j hj=>?_) (show h4.toks=h.toks by rw[t4,tk3,g2.toks,g.toks]) (show h.m≤h4.m by omega)
  ·exact (q _ ab).trans ((k4 j ab).trans ((k3 j ab).trans ((by rw[o2]:h2.objs j=h1.objs j).trans (k1 j hj))))
  ·exact (q _ (by simp only at hj;omega)).trans (g4.fresh j hj)
 ·exact (q _ ab).trans ((k4 j ab).trans ((k3 j ab).trans ((by rw[o2]:h2.objs j=h1.objs j).trans (k1 j hj))))
 ·have hj:((upd h4.objs h.n (some o4):Nat→Option Av.Obj) j).isSome=true:=hj
  by_cases e:j<h.n
  ·left
   rw[q _ ab,k4 j ab,k3 j ab,o2,k1 j e] at hj
   exact hj
  ·right
   refine ⟨ab,?_⟩
   show j<h4.n
   rcases Nat.lt_or_ge j h4.n with e2|e2
   ·exact e2
   ·rw[q _ ab,g4.fresh j e2] at hj;cases hj
end
end Go.Proofs.YtbgmofhgfnmaiaaGreat.Tree
end
section
set_option maxRecDepth 100000
namespace Go.Proofs.YtbgmofhgfnmaiaaGreat.Tree
open Go Go.Av Go.Proofs Go.Proofs.YtbgmofhgfnmaiaaGreat.C Go.Proofs.YtbgmofhgfnmaiaaGreat.Page
open Go.Proofs.YtbgmofhgfnmaiaaGreat.Batch (Bs Pr prs aZ)
abbrev Lt (a b:Bs):Prop:=Op.bytesLess a b=true
abbrev Le (a b:Bs):Prop:=Op.bytesLess b a=false
theorem rZ {a b c:Bs} (h:Lt a b) (h2:Lt b c):Lt a c:=dy h h2
theorem lG {a b:Bs} (h:Lt a b):Le a b:=ik h
theorem na {a b c:Bs} (h:Le a b) (h2:Lt b c):Lt a c:=by
 rcases dz a b with q|q|q
 ·exact rZ q h2
 ·exact q▸h2
 ·rw[h] at q;cases q
theorem u6 {a b c:Bs} (h:Lt a b) (h2:Le b c):Lt a c:=by
 rcases dz b c with q|q|q
 ·exact rZ h q
 ·exact q▸h
 ·rw[h2] at q;cases q
theorem yk {a b c:Bs} (h:Le a b) (h2:Le b c):Le a c:=by
 rcases dz b c with q|q|q
 ·exact lG (na h q)
 ·exact q▸h
 ·rw[h2] at q;cases q
theorem le_rfl {a:Bs}:Le a a:=cQ a
def inB (lo:Bs) (hi:Option Bs) (k:Bs):Prop:=Le lo k∧∀h,hi=some h→Lt k h
def w7 (a b:Option Bs):Prop:=∀h,b=some h→∃h',a=some h'∧Le h' h
theorem w7.refl (a:Option Bs):w7 a a:=fun h e=>⟨h,e,le_rfl⟩
theorem inB.wide {lo lo':Bs} {hi hi':Option Bs} {k:Bs} (h:inB lo hi k) (h1:Le lo' lo) (h2:w7 hi hi'):inB lo' hi' k:=
 ⟨yk h1 h.1,fun x e=>by obtain ⟨y,e1,e2⟩:=h2 x e;exact u6 (h.2 y e1) e2⟩
section
variable {α:Type} {W:Bs→Option Bs→α→Prop}
def bJ (W:Bs→Option Bs→α→Prop):Bs→Option Bs→List Bs→List α→Prop
 |lo,hi,[],[u]=>W lo hi u
 |lo,hi,k::ks,u::us=>W lo (some k) u∧bJ W k hi ks us
 |_,_,_,_=>False
structure Ew (W:Bs→Option Bs→α→Prop):Prop where
 ne:∀lo hi u,W lo hi u→∃k,inB lo hi k
 wide:∀lo hi lo' hi' u,W lo hi u→Le lo' lo→w7 hi hi'→W lo' hi' u
theorem bJ.len:∀{lo:Bs} {hi:Option Bs} {ks:List Bs} {us:List α},bJ W lo hi ks us→us.length=ks.length+1
 |_,_,[],[],h=>by cases h
 |_,_,[],[_],_=>rfl
 |_,_,[],_::_::_,h=>by cases h
 |_,_,_::_,[],h=>by cases h
 |_,_,_::_,_::_,h=>by simp[bJ.len h.2]
theorem bJ.keys (hW:Ew W):∀{lo:Bs} {hi:Option Bs} {ks:List Bs} {us:List α},bJ W lo hi ks us→(ks.Pairwise Lt∧∀k∈ks,Lt lo k∧∀h,hi=some h→Lt k h)∧∃k,inB lo hi k
 |lo,hi,[],[u],h=>⟨⟨List.Pairwise.nil,by simp⟩,hW.ne _ _ _ h⟩
 |_,_,[],[],h=>by cases h
 |_,_,[],_::_::_,h=>by cases h
 |_,_,_::_,[],h=>by cases h
 |lo,hi,k::ks,u::us,h=>by
  obtain ⟨q,hq⟩:=hW.ne _ _ _ h.1
  have hk:Lt lo k:=na hq.1 (hq.2 k rfl)
  obtain ⟨⟨h1,h2⟩,z,hz⟩:=bJ.keys hW h.2
  refine ⟨⟨List.pairwise_cons.2 ⟨fun a ha=>(h2 a ha).1,h1⟩,fun a ha=>?_⟩,z,yk (lG hk) hz.1,hz.2⟩
  rcases List.mem_cons.1 ha with rfl|ha
  ·exact ⟨hk,fun b hb=>na hz.1 (hz.2 b hb)⟩
  ·exact ⟨rZ hk (h2 a ha).1,(h2 a ha).2⟩
theorem bJ.wide (hW:Ew W):∀{lo lo':Bs} {hi hi':Option Bs} {ks:List Bs} {us:List α},bJ W lo hi ks us→Le lo' lo→w7 hi hi'→bJ W lo' hi' ks us
 |_,_,_,_,[],[u],h,a,b=>hW.wide _ _ _ _ _ h a b
 |_,_,_,_,[],[],h,_,_=>by cases h
 |_,_,_,_,[],_::_::_,h,_,_=>by cases h
 |_,_,_,_,_::_,[],h,_,_=>by cases h
 |_,_,_,_,k::ks,u::us,h,a,b=>⟨hW.wide _ _ _ _ _ h.1 a (w7.refl _),bJ.wide hW h.2 le_rfl b⟩
theorem bJ.app:∀{lo k:Bs} {hi:Option Bs} {ks ks':List Bs} {us us':List α},bJ W lo (some k) ks us→bJ W k hi ks' us'→bJ W lo hi (ks++k::ks') (us++us')
 |_,_,_,[],_,[u],_,h,h'=>⟨h,h'⟩
 |_,_,_,[],_,[],_,h,_=>by cases h
 |_,_,_,[],_,_::_::_,_,h,_=>by cases h
 |_,_,_,_::_,_,[],_,h,_=>by cases h
 |_,_,_,k::ks,_,u::us,_,h,h'=>⟨h.1,bJ.app h.2 h'⟩
theorem bJ.cut:∀{lo k:Bs} {hi:Option Bs} {ks ks':List Bs} {us us':List α},us.length=ks.length+1→bJ W lo hi (ks++k::ks') (us++us')→bJ W lo (some k) ks us∧bJ W k hi ks' us'
 |_,_,_,[],_,[u],_,_,h=>⟨h.1,h.2⟩
 |_,_,_,[],_,[],_,h,_=>by cases h
 |_,_,_,[],_,_::_::_,_,h,_=>by simp at h
 |_,_,_,_::_,_,[],_,h,_=>by simp at h
 |_,_,_,k::ks,_,u::us,_,hl,h=>by
  obtain ⟨h1,h2⟩:=bJ.cut (ks:=ks) (us:=us) (by simpa using hl) h.2
  exact ⟨⟨h.1,h1⟩,h2⟩
def dQ (lo:Bs) (ks:List Bs) (j:Nat):Bs:=if j=0 then lo else ks.getD (j - 1) []
def eV (hi:Option Bs) (ks:List Bs) (j:Nat):Option Bs:=if j<ks.length then some (ks.getD j []) else hi
theorem bJ.at:∀{lo:Bs} {hi:Option Bs} {ks:List Bs} {us:List α} {j:Nat},bJ W lo hi ks us→j≤ks.length→∃u,us[j]? =some u∧W (dQ lo ks j) (eV hi ks j) u∧
  ∀ks' us',bJ W (dQ lo ks j) (eV hi ks j) ks' us'→bJ W lo hi (ks.take j++(ks'++ks.drop j)) (us.take j++(us'++us.drop (j+1)))
 |lo,hi,[],[u],j,h,hj=>by
  obtain rfl:j=0:=by simpa using hj
  exact ⟨u,rfl,h,fun ks' us' h'=>by simpa [dQ,eV] using h'⟩
 |_,_,[],[],_,h,_=>by cases h
 |_,_,[],_::_::_,_,h,_=>by cases h
 |_,_,_::_,[],_,h,_=>by cases h
 |lo,hi,k::ks,u::us,0,h,hj=>by
  refine ⟨u,rfl,by simpa [dQ,eV] using h.1,fun ks' us' h'=>?_⟩
  have h':bJ W lo (some k) ks' us':=by simpa [dQ,eV] using h'
  simpa using h'.app h.2
 |lo,hi,k::ks,u::us,j+1,h,hj=>by
  obtain ⟨u',h1,h2,h3⟩:=bJ.at (j:=j) h.2 (by simpa using hj)
  have e1:dQ lo (k::ks) (j+1)=dQ k ks j:=by
   unfold dQ
   cases j<;>simp
  have e2:eV hi (k::ks) (j+1)=eV hi ks j:=by
   unfold eV
   simp
  rw[e1,e2]
  exact ⟨u',by simpa using h1,h2,fun ks' us' h'=>⟨h.1,h3 ks' us' h'⟩⟩
theorem bJ.del (hW:Ew W):∀{lo:Bs} {hi:Option Bs} {ks:List Bs} {us:List α} {j:Nat},bJ W lo hi ks us→j<us.length→0<ks.length→bJ W lo hi (ks.take (j - 1)++ks.drop (j - 1+1)) (us.take j++us.drop (j+1))
 |_,_,[],_,_,_,_,h=>by simp at h
 |_,_,_::_,[],_,h,_,_=>by cases h
 |lo,hi,k::ks,u::us,0,h,_,_=>by
  have hk:Lt lo k:=by
   obtain ⟨q,hq⟩:=hW.ne _ _ _ h.1
   exact na hq.1 (hq.2 k rfl)
  simpa using h.2.wide hW (lG hk) (w7.refl _)
 |lo,hi,k::ks,[u],1,h,hj,_=>by simp at hj
 |lo,hi,k::ks,u::v::us,1,h,_,_=>by
  cases ks with
  |nil=>
   obtain ⟨h1,h2⟩:=h
   cases us with
   |nil=>
    obtain ⟨q,hq⟩:=hW.ne _ _ _ h2
    have:W lo hi u:=hW.wide _ _ _ _ _ h1 le_rfl fun x e=>⟨k,rfl,lG (na hq.1 (hq.2 x e))⟩
    simpa [bJ] using this
   |cons w us=>cases h2
  |cons k' ks=>
   obtain ⟨h1,h2,h3⟩:=h
   obtain ⟨q,hq⟩:=hW.ne _ _ _ h2
   have:W lo (some k') u:=hW.wide _ _ _ _ _ h1 le_rfl fun x e=>⟨k,rfl,by cases e;exact lG (na hq.1 (hq.2 _ rfl))⟩
   simpa [bJ] using And.intro this h3
 |lo,hi,k::ks,u::us,j+2,h,hj,_=>by
  have hl:=bJ.len h.2
  have h0:0<ks.length:=by simp at hj;omega
  have:=bJ.del hW (j:=j+1) h.2 (by simp at hj;omega) h0
  simp only[Nat.add_sub_cancel] at this ⊢
  have e:j+2 - 1=j+1:=by omega
  rw[e]
  exact ⟨h.1,this⟩
end
structure Nd (α:Type) where
 pg:Nat
 ks:List Bs
 kids:List α
def Kid:Nat→Type
 |0=>Bs
 |L+1=>Nd (Kid L)
abbrev Tr (L:Nat):=Nd (Kid L)
def mh:(L:Nat)→List Bs→List (Kid L)→List Pr
 |0=>fun ks (vs:List Bs)=>List.zipWith Pr.mk ks vs
 |L+1=>fun _ (us:List (Tr L))=>(us.map fun u:Tr L=>mh L u.ks u.kids).flatten
def aP (L:Nat) (t:Tr L):List Pr:=mh L t.ks t.kids
def bp:(L:Nat)→List (Kid L)→List Nat
 |0=>fun _=>[]
 |L+1=>fun (us:List (Tr L))=>(us.map fun u:Tr L=>u.pg::bp L u.kids).flatten
def aW (L:Nat) (t:Tr L):List Nat:=t.pg::bp L t.kids
def aB (ks vs:List Bs):Page.Node:=⟨true,ks,vs,[]⟩
def au (L:Nat) (ks:List Bs) (us:List (Tr L)):Page.Node:=⟨false,ks,[],us.map fun u=>((u.pg:Nat):Int)⟩
def bF:(L:Nat)→List Bs→List (Kid L)→Page.Node
 |0=>fun ks (vs:List Bs)=>aB ks vs
 |L+1=>fun ks (us:List (Tr L))=>au L ks us
def WC:(L:Nat)→Bs→Option Bs→List Bs→List (Kid L)→Prop
 |0=>fun lo hi ks _=>0<ks.length∧∀k∈ks,inB lo hi k
 |L+1=>fun lo hi ks (us:List (Tr L))=>bJ (fun lo hi (u:Tr L)=>right (bF L u.ks u.kids)=true∧size (bF L u.ks u.kids)≤1024∧WC L lo hi u.ks u.kids) lo hi ks us
def WF (L:Nat) (lo:Bs) (hi:Option Bs) (t:Tr L):Prop:=right (bF L t.ks t.kids)=true∧size (bF L t.ks t.kids)≤1024∧WC L lo hi t.ks t.kids
theorem eW (L:Nat) (us:List (Tr L)):bp (L+1) us=(us.map (aW L)).flatten:=rfl
theorem nc {L:Nat} {lo:Bs} {hi:Option Bs} {ks:List Bs} {us:List (Tr L)}:WC (L+1) lo hi ks us↔bJ (WF L) lo hi ks us:=Iff.rfl
theorem nice:∀L,Ew (WF L)
 |0=>⟨fun lo hi (t:Nd Bs) h=>by
   obtain ⟨-,-,h0,h1⟩:=h
   exact ⟨_,h1 _ (List.getElem_mem h0)⟩,fun lo hi lo' hi' (t:Nd Bs) h a b=>by
   obtain ⟨h1,h2,h3,h4⟩:=h
   exact ⟨h1,h2,h3,fun k hk=>(h4 k hk).wide a b⟩⟩
 |L+1=>⟨fun lo hi (t:Nd (Tr L)) h=>(bJ.keys (nice L) (nc.1 h.2.2)).2,fun lo hi lo' hi' (t:Nd (Tr L)) h a b=>⟨h.1,h.2.1,nc.2 ((nc.1 h.2.2).wide (nice L) a b)⟩⟩
abbrev kLt (a b:Pr):Prop:=Lt a.k b.k
theorem kF {α:Type} {W:Bs→Option Bs→α→Prop} {f:α→List Pr} (hP:∀lo hi u,W lo hi u→(∀p∈f u,inB lo hi p.k)∧f u≠[]∧(f u).Pairwise kLt):
  ∀{lo:Bs} {hi:Option Bs} {ks:List Bs} {us:List α},bJ W lo hi ks us→(∀p∈(us.map f).flatten,inB lo hi p.k)∧(us.map f).flatten≠[]∧(us.map f).flatten.Pairwise kLt
 |lo,hi,[],[u],h=>by simpa using hP _ _ _ h
 |_,_,[],[],h=>by cases h
 |_,_,[],_::_::_,h=>by cases h
 |_,_,_::_,[],h=>by cases h
 |lo,hi,k::ks,u::us,h=>by
  obtain ⟨a1,a2,a3⟩:=hP _ _ _ h.1
  obtain ⟨b1,b2,b3⟩:=kF hP h.2
  obtain ⟨p,hp⟩:=List.exists_mem_of_ne_nil _ a2
  obtain ⟨q,hq⟩:=List.exists_mem_of_ne_nil _ b2
  have hk:Lt lo k:=na (a1 p hp).1 ((a1 p hp).2 k rfl)
  refine ⟨fun x hx=>?_,by simp[a2],?_⟩
  ·simp only[List.map_cons,List.flatten_cons,List.mem_append] at hx
   rcases hx with hx|hx
   ·exact ⟨(a1 x hx).1,fun y hy=>rZ ((a1 x hx).2 k rfl) (na (b1 q hq).1 ((b1 q hq).2 y hy))⟩
   ·exact ⟨yk (lG hk) (b1 x hx).1,(b1 x hx).2⟩
  ·simp only[List.map_cons,List.flatten_cons]
   rw[List.pairwise_append]
   exact ⟨a3,b3,fun x hx y hy=>u6 ((a1 x hx).2 k rfl) (b1 y hy).1⟩
theorem eK {ks vs:List Bs} {p:Pr} (h:p∈List.zipWith Pr.mk ks vs):p.k∈ks:=by
 induction ks generalizing vs with
 |nil=>simp at h
 |cons k ks ih=>
  cases vs with
  |nil=>simp at h
  |cons v vs=>
   simp only[List.zipWith_cons_cons,List.mem_cons] at h
   rcases h with rfl|h
   ·simp
   ·exact List.mem_cons_of_mem _ (ih h)
theorem CI {ks vs:List Bs} (h:ks.Pairwise Lt):(List.zipWith Pr.mk ks vs).Pairwise kLt:=by
 induction ks generalizing vs with
 |nil=>simp
 |cons k ks ih=>
  cases vs with
  |nil=>simp
  |cons v vs=>
   simp only[List.zipWith_cons_cons]
   rw[List.pairwise_cons] at h ⊢
   exact ⟨fun p hp=>h.1 _ (eK hp),ih h.2⟩
theorem w8 {lo:Bs} {hi:Option Bs} {ks vs:List Bs} (h1:right (aB ks vs)=true) (h3:0<ks.length) (h4:∀k∈ks,inB lo hi k):(∀p∈List.zipWith Pr.mk ks vs,inB lo hi p.k)∧List.zipWith Pr.mk ks vs≠[]∧(List.zipWith Pr.mk ks vs).Pairwise kLt:=by
 obtain ⟨r1,r2,-⟩:=(bD (n:=aB ks vs) rfl).1 h1
 have r2:vs.length=ks.length:=r2
 refine ⟨fun p hp=>h4 _ (eK hp),?_,CI r1.2⟩
 intro e
 have:=congrArg List.length e
 rw[List.length_zipWith,List.length_nil] at this
 omega
theorem jv:∀(L:Nat) (lo:Bs) (hi:Option Bs) (t:Tr L),WF L lo hi t→(∀p∈aP L t,inB lo hi p.k)∧aP L t≠[]∧(aP L t).Pairwise kLt
 |0,lo,hi,t,h=>w8 h.1 h.2.2.1 h.2.2.2
 |L+1,lo,hi,t,h=>kF (jv L) (nc.1 h.2.2)
def gf (l:List Pr) (k v:Bs):List Pr:=l.filter (fun p=>Op.bytesLess p.k k)++⟨k,v⟩::l.filter (fun p=>Op.bytesLess k p.k)
def eE (l:List Pr) (k:Bs):List Pr:=l.filter (fun p=> !decide (p.k=k))
theorem filter_all {l:List Pr} {f:Pr→Bool} (h:∀p∈l,f p=true):l.filter f=l:=List.filter_eq_self.2 h
theorem gT {l:List Pr} {f:Pr→Bool} (h:∀p∈l,f p=false):l.filter f=[]:=by
 rw[List.filter_eq_nil_iff]
 intro p hp
 simp[h p hp]
theorem qm {a b c:List Pr} {k v:Bs} (ha:∀p∈a,Lt p.k k) (hc:∀p∈c,Lt k p.k):gf (a++(b++c)) k v=a++(gf b k v++c):=by
 unfold gf
 simp only[List.filter_append]
 rw[filter_all (l:=a) ha,filter_all (l:=c) hc,gT (l:=a) fun p hp=>ik (ha p hp),gT (l:=c) fun p hp=>ik (hc p hp)]
 simp
theorem ne_of_lt {a b:Bs} (h:Lt a b):a≠b:=fun e=>by rw[e,Lt,cQ] at h;cases h
theorem r7 {a b c:List Pr} {k:Bs} (ha:∀p∈a,Lt p.k k) (hc:∀p∈c,Lt k p.k):eE (a++(b++c)) k=a++(eE b k++c):=by
 unfold eE
 simp only[List.filter_append]
 rw[filter_all (l:=a) fun p hp=>by simpa using ne_of_lt (ha p hp),filter_all (l:=c) fun p hp=>by simpa using (ne_of_lt (hc p hp)).symm]
theorem o9 {α:Type} {l:List α} {i j:Nat} (h:i<l.length) (hj:i<j):l[i]∈l.take j:=List.mem_iff_getElem.2 ⟨i,by simp;omega,by simp⟩
theorem ym {α:Type} {l:List α} {i j:Nat} (h:i<l.length) (hj:j≤i):l[i]∈l.drop j:=List.mem_iff_getElem.2 ⟨i - j,by simp;omega,by simp[show j+(i - j)=i by omega]⟩
theorem iR {L:Nat} {lo:Bs} {hi:Option Bs} {ks:List Bs} {us:List (Tr L)} {key:Bs} (h:bJ (WF L) lo hi ks us) (hk:inB lo hi key) (j:Nat) (hj:j≤ks.length) (h1:∀k∈ks.take j,Le k key) (h2:∀k∈ks.drop j,Lt key k):
  (∀p∈((us.take j).map (aP L)).flatten,Lt p.k key)∧(∀p∈((us.drop (j+1)).map (aP L)).flatten,Lt key p.k)∧inB (dQ lo ks j) (eV hi ks j) key:=by
 have hl:=h.len
 refine ⟨?_,?_,?_,?_⟩
 ·cases j with
  |zero=>simp
  |succ i=>
   have e:ks=ks.take i++ks[i]::ks.drop (i+1):=by rw[←List.drop_eq_getElem_cons ab,List.take_append_drop]
   have c:=h
   rw[e,←List.take_append_drop (i+1) us] at c
   obtain ⟨c1,-⟩:=c.cut ak
   intro p hp
   have q:=(kF (jv L) c1).1 p hp
   exact u6 (q.2 _ rfl) (h1 _ (o9 _ (Nat.lt_succ_self _)))
 ·by_cases hj2:j<ks.length
  ·have e:ks=ks.take j++ks[j]::ks.drop (j+1):=by rw[←List.drop_eq_getElem_cons ab,List.take_append_drop]
   have c:=h
   rw[e,←List.take_append_drop (j+1) us] at c
   obtain ⟨-,c1⟩:=c.cut ak
   intro p hp
   have q:=(kF (jv L) c1).1 p hp
   exact u6 (h2 _ (ym hj2 (Nat.le_refl _))) q.1
  ·rw[List.drop_eq_nil_of_le ab]
   simp
 ·unfold dQ
  split
  ·exact hk.1
  ·refine h1 _ ?_
   rw[List.getD_eq_getElem?_getD,List.getElem?_eq_getElem ab]
   exact o9 _ ab
 ·unfold eV
  intro x hx
  split at hx
  ·cases hx
   refine h2 _ ?_
   rw[List.getD_eq_getElem?_getD,List.getElem?_eq_getElem ‹_›]
   exact ym ‹_› (Nat.le_refl _)
  ·exact hk.2 x hx
theorem ng {α β:Type} {f:α→List β} {us:List α} {j:Nat} {u:α} (h:us[j]? =some u):(us.map f).flatten=((us.take j).map f).flatten++(f u++((us.drop (j+1)).map f).flatten):=by
 obtain ⟨hj,rfl⟩:=List.getElem?_eq_some_iff.1 h
 have e:us=us.take j++us[j]::us.drop (j+1):=by rw[←List.drop_eq_getElem_cons hj,List.take_append_drop]
 conv=>lhs;rw[e]
 rw[List.map_append,List.flatten_append,List.map_cons,List.flatten_cons]
theorem nh {a b c d:List Bs} {k v:Bs} (h:a.length=c.length):List.zipWith Pr.mk (a++k::b) (c++v::d)=List.zipWith Pr.mk a c++⟨k,v⟩::List.zipWith Pr.mk b d:=by
 rw[List.zipWith_append h];rfl
theorem jx {ks vs:List Bs} (h:right (aB ks vs)=true) (key:Bs):(∀k∈ks.take (place (aB ks vs) key),Lt k key)∧(∀k∈ks.drop (place (aB ks vs) key),Le key k)∧place (aB ks vs) key≤ks.length:=by
 obtain ⟨r1,-⟩:=(bD (n:=aB ks vs) rfl).1 h
 obtain ⟨p1,p2,p3⟩:=mc (n:=aB ks vs) rfl key
 simp only[aB] at r1 p1 p2 p3 ⊢
 generalize place _ key=i at*
 refine ⟨fun k hk=>?_,fun k hk=>?_,p1⟩
 ·obtain ⟨j,h1,h2,rfl⟩:=kz hk
  exact p2 j h1
 ·obtain ⟨j,h1,h2,rfl⟩:=iQ hk
  have q:=p3 ab
  by_cases e:i=j
  ·subst e;exact q
  ·have:=List.pairwise_iff_getElem.1 r1.2 i j ab h2 ab
   rw[bG ab] at q
   rw[bG h2]
   exact yk (b:=ks[i]) q (lG this)
theorem nT {ks:List Bs} (h:ks.Pairwise Lt) {i:Nat} (hi:i<ks.length):∀k∈ks.drop (i+1),Lt ks[i] k:=by
 rw[←List.take_append_drop i ks,List.drop_eq_getElem_cons hi,List.pairwise_append,List.pairwise_cons] at h
 exact h.2.1.1
theorem ni (ks vs:List Bs) (i:Nat):List.zipWith Pr.mk ks vs=List.zipWith Pr.mk (ks.take i) (vs.take i)++List.zipWith Pr.mk (ks.drop i) (vs.drop i):=by
 rw[←List.take_zipWith,←List.drop_zipWith,List.take_append_drop]
theorem xa {a b:List Pr} {k v:Bs} (ha:∀p∈a,Lt p.k k) (hb:∀p∈b,Lt k p.k):gf (a++b) k v=a++⟨k,v⟩::b:=by
 have:=qm (b:=[]) (v:=v) ha hb
 simpa [gf] using this
theorem AE {a b:List Pr} {k v w:Bs} (ha:∀p∈a,Lt p.k k) (hb:∀p∈b,Lt k p.k):gf (a++⟨k,w⟩::b) k v=a++⟨k,v⟩::b:=by
 have:=qm (b:=[⟨k,w⟩]) (v:=v) ha hb
 simpa [gf,cQ] using this
theorem xb {a b:List Pr} {k w:Bs} (ha:∀p∈a,Lt p.k k) (hb:∀p∈b,Lt k p.k):eE (a++⟨k,w⟩::b) k=a++b:=by
 have:=r7 (b:=[⟨k,w⟩]) ha hb
 simpa [eE] using this
theorem AG {ks vs:List Bs} (h:right (aB ks vs)=true) {key:Bs} (hf:bI (aB ks vs) key=false):∀k∈ks.drop (place (aB ks vs) key),Lt key k:=by
 obtain ⟨r1,-⟩:=(bD (n:=aB ks vs) rfl).1 h
 obtain ⟨-,p2,p3⟩:=jx h key
 intro k hk
 have q:=p2 k hk
 rcases dz key k with a|a|a
 ·exact a
 ·exfalso
  obtain ⟨j,h1,h2,rfl⟩:=iQ hk
  have:=(uQ (n:=aB ks vs) rfl h (i:=j) h2 a.symm).2
  rw[hf] at this;cases this
 ·rw[q] at a;cases a
theorem CJ {ks vs:List Bs} {key val:Bs} (h:right (aB ks vs)=true) (hk:key.length≤128) (hv:val.length≤200):
  ∃ks' vs',mW (aB ks vs) key val=aB ks' vs'∧Page.uP (aB ks vs) key val=0∧right (aB ks' vs')=true∧size (aB ks' vs')≤size (aB ks vs)+331∧0<ks'.length∧(∀k∈ks',k=key∨k∈ks)∧List.zipWith Pr.mk ks' vs'=gf (List.zipWith Pr.mk ks vs) key val:=by
 have ho:fP (aB ks vs) key val=true:=by simp[fP,h,hk,hv];rfl
 have hr:=Al ho
 have hs:=gV ho
 obtain ⟨r1,r2,-⟩:=(bD (n:=aB ks vs) rfl).1 h
 obtain ⟨p1,p2,p3⟩:=jx h key
 have he:Page.uP (aB ks vs) key val=0:=by unfold Page.uP;rw[if_pos ho]
 have hN:mW (aB ks vs) key val=if bI (aB ks vs) key then uN (aB ks vs) (place (aB ks vs) key) val else uO (aB ks vs) (place (aB ks vs) key) key val:=by unfold mW;rw[if_pos ho]
 rw[hN] at hr hs ⊢
 cases hf:bI (aB ks vs) key with
 |true=>
  obtain ⟨-,-,f1,f2,f3⟩:=dZ hf
  have f1:place (aB ks vs) key<ks.length:=f1
  have f3:ks.getD (place (aB ks vs) key) []=key:=f3
  simp only[aB] at f2 r1 r2
  rw[hf] at hr hs
  simp only[if_true] at hr hs ⊢
  generalize place (aB ks vs) key=i at*
  have hkk:ks[i]=key:=by rw[←f3,bG f1]
  have hd:=nT r1.2 f1
  rw[hkk] at hd
  refine ⟨ks,vs.take i++val::vs.drop (i+1),rfl,he,hr,hs,ab,fun k hk=> .inr hk,?_⟩
  have e1:ks=ks.take i++key::ks.drop (i+1):=by rw[←hkk,←List.drop_eq_getElem_cons f1,List.take_append_drop]
  have e2:vs=vs.take i++vs[i]::vs.drop (i+1):=by rw[←List.drop_eq_getElem_cons,List.take_append_drop]
  have e3:List.zipWith Pr.mk ks vs=List.zipWith Pr.mk (ks.take i) (vs.take i)++⟨key,vs[i]⟩::List.zipWith Pr.mk (ks.drop (i+1)) (vs.drop (i+1)):=by
   conv=>lhs;rw[e1,e2]
   exact nh ak
  rw[e3,AE (fun p hp=>p1 _ (eK hp)) (fun p hp=>hd _ (eK hp))]
  conv=>lhs;rw[e1]
  exact nh ak
 |false=>
  have hd:=AG h hf
  rw[hf] at hr hs
  simp only[Bool.false_eq_true,if_false] at hr hs ⊢
  simp only[aB] at r1 r2
  have p3:place (aB ks vs) key≤ks.length:=p3
  generalize place (aB ks vs) key=i at*
  refine ⟨ks.take i++key::ks.drop i,vs.take i++val::vs.drop i,rfl,he,hr,hs,by simp;omega,fun k hk=>?_,?_⟩
  ·simp only[List.mem_append,List.mem_cons] at hk
   rcases hk with hk|hk|hk
   ·exact .inr (List.mem_of_mem_take hk)
   ·exact .inl hk
   ·exact .inr (List.mem_of_mem_drop hk)
  ·rw[nh ak,ni ks vs i,xa (fun p hp=>p1 _ (eK hp)) (fun p hp=>hd _ (eK hp))]
theorem AH {ks vs:List Bs} {key:Bs} (h:right (aB ks vs)=true) (hf:bI (aB ks vs) key=true):
  ∃ks' vs',oB (aB ks vs) key=aB ks' vs'∧right (aB ks' vs')=true∧size (aB ks' vs')≤size (aB ks vs)∧(∀k∈ks',k∈ks)∧List.zipWith Pr.mk ks' vs'=eE (List.zipWith Pr.mk ks vs) key∧ks'.length+1=ks.length:=by
 obtain ⟨r1,r2,-⟩:=(bD (n:=aB ks vs) rfl).1 h
 obtain ⟨p1,p2,p3⟩:=jx h key
 obtain ⟨-,-,f1,f2,f3⟩:=dZ hf
 have hr:=Ai (n:=aB ks vs) rfl h f1
 have hN:oB (aB ks vs) key=Af (aB ks vs) (place (aB ks vs) key):=by unfold oB;rw[if_pos hf]
 rw[hN]
 have f1:place (aB ks vs) key<ks.length:=f1
 have f3:ks.getD (place (aB ks vs) key) []=key:=f3
 simp only[aB] at f2 r1 r2
 generalize place (aB ks vs) key=i at*
 have hkk:ks[i]=key:=by rw[←f3,bG f1]
 have hd:=nT r1.2 f1
 rw[hkk] at hd
 have s1:=tz (fN ks i)
 have s2:=tz (fN vs i)
 refine ⟨ks.take i++ks.drop (i+1),vs.take i++vs.drop (i+1),rfl,hr,?_,fun k hk=>(fN ks i).subset hk,?_,by simp;omega⟩
 ·rw[size_leaf rfl,size_leaf rfl]
  simp only[aB,List.length_append,List.length_take,List.length_drop]
  omega
 ·have e1:ks=ks.take i++key::ks.drop (i+1):=by rw[←hkk,←List.drop_eq_getElem_cons f1,List.take_append_drop]
  have e2:vs=vs.take i++vs[i]::vs.drop (i+1):=by rw[←List.drop_eq_getElem_cons,List.take_append_drop]
  have e3:List.zipWith Pr.mk ks vs=List.zipWith Pr.mk (ks.take i) (vs.take i)++⟨key,vs[i]⟩::List.zipWith Pr.mk (ks.drop (i+1)) (vs.drop (i+1)):=by
   conv=>lhs;rw[e1,e2]
   exact nh ak
  rw[e3,xb (fun p hp=>p1 _ (eK hp)) (fun p hp=>hd _ (eK hp)),List.zipWith_append ak]
theorem qn {ks vs:List Bs} {key:Bs} (h:right (aB ks vs)=true):bI (aB ks vs) key=true↔∃p∈List.zipWith Pr.mk ks vs,p.k=key:=by
 obtain ⟨r1,r2,-⟩:=(bD (n:=aB ks vs) rfl).1 h
 simp only[aB] at r1 r2
 constructor
 ·intro hf
  obtain ⟨-,-,f1,f2,f3⟩:=dZ hf
  have f1:place (aB ks vs) key<ks.length:=f1
  have f3:ks.getD (place (aB ks vs) key) []=key:=f3
  refine ⟨(List.zipWith Pr.mk ks vs)[place (aB ks vs) key]'(by rw[List.length_zipWith];omega),List.getElem_mem _,?_⟩
  simp only[List.getElem_zipWith]
  rw[bG f1] at f3
  exact f3
 ·rintro ⟨p,hp,rfl⟩
  obtain ⟨j,hj,e⟩:=List.getElem_of_mem (eK hp)
  exact (uQ (n:=aB ks vs) rfl h (i:=j) hj (by show ks.getD j []=_;rw[bG hj];exact e)).2
def lim (L:Nat):Nat:=if L=0 then 1355 else 1157
structure xc (L:Nat) (lo:Bs) (hi:Option Bs) (ks:List Bs) (kids:List (Kid L)) (ks1:List Bs) (kids1:List (Kid L)) (key:Bs) (ks2:List Bs) (kids2:List (Kid L)):Prop where
 eq:split (bF L ks kids)=⟨bF L ks1 kids1,key,bF L ks2 kids2,true⟩
 r1:right (bF L ks1 kids1)=true
 z1:size (bF L ks1 kids1)≤1024
 w1:WC L lo (some key) ks1 kids1
 r2:right (bF L ks2 kids2)=true
 z2:size (bF L ks2 kids2)≤1024
 w2:WC L key hi ks2 kids2
 k1:Lt lo key
 k2:∀h,hi=some h→Lt key h
 kl:key.length≤128
 ps:mh L ks1 kids1++mh L ks2 kids2=mh L ks kids
 kd:kids1++kids2=kids
 cn:0<L→2≤kids1.length∧2≤kids2.length∧9≤kids1.length+kids2.length
theorem iz {L:Nat} {lo:Bs} {hi:Option Bs} {ks:List Bs} {us:List (Tr L)} (h:bJ (WF L) lo hi ks us) (hk:∀k∈ks,k.length≤128) (hp:∀u∈us,u.pg<16384):right (au L ks us)=true:=by
 refine (cR (n:=au L ks us) rfl).2 ⟨⟨hk,(h.keys (nice L)).1.1⟩,rfl,by simp[au,h.len],fun k hk=>?_⟩
 obtain ⟨u,hu,rfl⟩:=List.mem_map.1 hk
 have:=hp u hu
 omega
theorem xd {lo:Bs} {hi:Option Bs} {ks vs:List Bs} (hr:right (aB ks vs)=true) (hz:¬size (aB ks vs)≤1024) (hb:size (aB ks vs)≤1355) (hw:∀k∈ks,inB lo hi k):
  ∃ks1 vs1 key ks2 vs2,xc 0 lo hi ks vs ks1 vs1 key ks2 vs2:=by
 have hm:2≤ks.length:=by
  rcases Nat.lt_or_ge ks.length 2 with h|h
  ·exact absurd (Am (m:=aB ks vs) rfl hr h) hz
  ·exact h
 have hbt:bet (aB ks vs)=0:=rfl
 have hmost:bq (aB ks vs)+1=ks.length:=by unfold bq;rw[hbt];show ks.length - 1 - 0+1=_;omega
 obtain ⟨c1,c2⟩:=pU (n:=aB ks vs) ab
 obtain ⟨h1,h2⟩:=uR (m:=aB ks vs) rfl hr ab hb
 obtain ⟨r1,r2,-⟩:=(bD (n:=aB ks vs) rfl).1 hr
 have r2:vs.length=ks.length:=r2
 have r1:mQ ks:=r1
 have hsp:splits (aB ks vs)=true:=by unfold splits;rw[hr,decide_eq_true ab];rfl
 have p1:Page.part (aB ks vs) 0 (cut (aB ks vs))=aB (ks.take (cut (aB ks vs))) (vs.take (cut (aB ks vs))):=rfl
 have p2:Page.part (aB ks vs) (cut (aB ks vs)+bet (aB ks vs)) ks.length=aB (ks.drop (cut (aB ks vs))) (vs.drop (cut (aB ks vs))):=by
  unfold Page.part aB
  simp only[if_true]
  rw[List.take_length,←r2,List.take_length]
  rfl
 have g1:=jS hr 0 (cut (aB ks vs)) (Nat.zero_le _) (show _≤ks.length by omega)
 have g2:=jS hr (cut (aB ks vs)+bet (aB ks vs)) ks.length (by rw[hbt];omega) (Nat.le_refl _)
 have h2:size (Page.part (aB ks vs) (cut (aB ks vs)+bet (aB ks vs)) ks.length)≤1024:=h2
 have es:split (aB ks vs)=⟨Page.part (aB ks vs) 0 (cut (aB ks vs)),ks.getD (cut (aB ks vs)) [],Page.part (aB ks vs) (cut (aB ks vs)+bet (aB ks vs)) ks.length,true⟩:=by
  unfold split;rw[if_pos hsp];rfl
 rw[p1,p2] at es
 rw[p1] at h1 g1
 rw[p2] at h2 g2
 generalize cut (aB ks vs)=c at*
 have hc:c<ks.length:=by omega
 have hk:ks.getD c []=ks[c]:=bG hc
 have e1:ks=ks.take c++ks[c]::ks.drop (c+1):=by rw[←List.drop_eq_getElem_cons hc,List.take_append_drop]
 have hrise:=r1.2
 rw[e1,List.pairwise_append] at hrise
 refine ⟨ks.take c,vs.take c,ks[c],ks.drop c,vs.drop c,⟨by rw[←hk];exact es,g1,h1,⟨by simp;omega,fun k hk2=>⟨(hw k (List.mem_of_mem_take hk2)).1,fun x hx=>by cases hx;exact hrise.2.2 k hk2 _ (List.mem_cons_self ..)⟩⟩,g2,h2,⟨by simp;omega,fun k hk2=>⟨?_,(hw k (List.mem_of_mem_drop hk2)).2⟩⟩,?_,fun x hx=>(hw _ (List.getElem_mem hc)).2 x hx,r1.1 _ (List.getElem_mem hc),?_,List.take_append_drop _ _,fun h=>absurd h (Nat.lt_irrefl _)⟩⟩
 ·rw[List.drop_eq_getElem_cons hc] at hk2
  rcases List.mem_cons.1 hk2 with rfl|hk2
  ·exact le_rfl
  ·exact lG ((List.pairwise_cons.1 hrise.2.1).1 _ hk2)
 ·have h0:0<ks.length:=by omega
  exact na (hw _ (List.getElem_mem h0)).1 (hrise.2.2 _ (o9 h0 ab) _ (List.mem_cons_self ..))
 ·exact (ni ks vs c).symm
theorem u7 {L:Nat} {lo:Bs} {hi:Option Bs} {ks:List Bs} {us:List (Tr L)} (hr:right (au L ks us)=true) (hz:¬size (au L ks us)≤1024) (hb:size (au L ks us)≤1157) (hw:bJ (WF L) lo hi ks us):
  ∃ks1 us1 key ks2 us2,xc (L+1) lo hi ks us ks1 us1 key ks2 us2:=by
 have hul:=hw.len
 have hbt:bet (au L ks us)=1:=rfl
 obtain ⟨r1,-,-,-⟩:=(cR (n:=au L ks us) rfl).1 hr
 have r1:mQ ks:=r1
 have hsz:size (au L ks us)=7+5*ks.length+tot ks:=rfl
 have ht:=Ed (l:=ks) (c:=128) r1.1
 have hm:8≤ks.length:=by omega
 have hmost:bq (au L ks us)+2=ks.length:=by unfold bq;rw[hbt];show ks.length - 1 - 1+2=_;omega
 obtain ⟨c1,c2⟩:=pU (n:=au L ks us) ab
 obtain ⟨h1,h2⟩:=tf (m:=au L ks us) rfl hr ab hb
 have hsp:splits (au L ks us)=true:=by unfold splits;rw[hr,decide_eq_true ab];rfl
 have p1:Page.part (au L ks us) 0 (cut (au L ks us))=au L (ks.take (cut (au L ks us))) (us.take (cut (au L ks us)+1)):=by
  unfold Page.part au
  simp
 have p2:Page.part (au L ks us) (cut (au L ks us)+bet (au L ks us)) ks.length=au L (ks.drop (cut (au L ks us)+1)) (us.drop (cut (au L ks us)+1)):=by
  rw[hbt]
  generalize cut (au L ks us)=c
  unfold au Page.part
  simp only[Bool.false_eq_true,if_false]
  rw[List.take_length,←hul,List.map_drop,List.take_of_length_le (l:=List.map _ us) af]
 have g1:=jS hr 0 (cut (au L ks us)) (Nat.zero_le _) (show _≤ks.length by omega)
 have g2:=jS hr (cut (au L ks us)+bet (au L ks us)) ks.length (by rw[hbt];omega) (Nat.le_refl _)
 have h2:size (Page.part (au L ks us) (cut (au L ks us)+bet (au L ks us)) ks.length)≤1024:=h2
 have es:split (au L ks us)=⟨Page.part (au L ks us) 0 (cut (au L ks us)),ks.getD (cut (au L ks us)) [],Page.part (au L ks us) (cut (au L ks us)+bet (au L ks us)) ks.length,true⟩:=by
  unfold split;rw[if_pos hsp];rfl
 rw[p1,p2] at es
 rw[p1] at h1 g1
 rw[p2] at h2 g2
 generalize cut (au L ks us)=c at*
 have hc:c<ks.length:=by omega
 have hk:ks.getD c []=ks[c]:=bG hc
 have e1:ks=ks.take c++ks[c]::ks.drop (c+1):=by rw[←List.drop_eq_getElem_cons hc,List.take_append_drop]
 have hw2:=hw
 rw[e1,←List.take_append_drop (c+1) us] at hw2
 obtain ⟨w1,w2⟩:=hw2.cut ak
 have kk:=(hw.keys (nice L)).1.2 _ (List.getElem_mem hc)
 have ps:((us.take (c+1)).map (aP L)).flatten++((us.drop (c+1)).map (aP L)).flatten=(us.map (aP L)).flatten:=by
  rw[←List.flatten_append,←List.map_append,List.take_append_drop]
 have cn:2≤(us.take (c+1)).length∧2≤(us.drop (c+1)).length∧9≤(us.take (c+1)).length+(us.drop (c+1)).length:=by
  rw[List.length_take,List.length_drop];omega
 refine ⟨ks.take c,us.take (c+1),ks[c],ks.drop (c+1),us.drop (c+1),⟨by rw[←hk];exact es,g1,h1,w1,g2,h2,w2,kk.1,kk.2,r1.1 _ (List.getElem_mem hc),ps,List.take_append_drop _ _,fun _=>cn⟩⟩
theorem Ex:∀{L:Nat} {lo:Bs} {hi:Option Bs} {ks:List Bs} {kids:List (Kid L)},right (bF L ks kids)=true→¬size (bF L ks kids)≤1024→size (bF L ks kids)≤lim L→WC L lo hi ks kids→∃ks1 kids1 key ks2 kids2,xc L lo hi ks kids ks1 kids1 key ks2 kids2
 |0,_,_,_,_,a,b,c,d=>xd a b c d.2
 |L+1,_,_,_,_,a,b,c,d=>u7 a b c (nc.1 d)
theorem xe {L:Nat} (a b:List (Tr L)):bp (L+1) (a++b)=bp (L+1) a++bp (L+1) b:=by
 rw[eW,eW,eW,List.map_append,List.flatten_append]
theorem AI:∀(L:Nat) (a b:List (Kid L)),bp L (a++b)=bp L a++bp L b
 |0,_,_=>rfl
 |L+1,a,b=>xe a b
theorem cx {L:Nat} {ks:List Bs} {kids:List (Kid L)} (hr:right (bF L ks kids)=true) (hz:size (bF L ks kids)≤1355):Nb (bF L ks kids)∧Ns (bF L ks kids):=by
 cases L with
 |zero=>
  have hr:right (aB ks kids)=true:=hr
  obtain ⟨r1,r2,r3,r4⟩:=(bD (n:=aB ks kids) rfl).1 hr
  have hz:size (aB ks kids)≤1355:=hz
  rw[size_leaf rfl] at hz
  have r2:List.length (α:=Bs) kids=ks.length:=r2
  have hz:3+3*ks.length+tot ks+tot kids≤1355:=hz
  exact ⟨⟨by show ks.length≤_;omega,by show List.length (α:=Bs) kids≤_;omega,by show 0≤_;omega,by show tot ks≤_;omega,by show tot kids≤_;omega⟩,⟨by show ks.length≤_;omega,by show List.length (α:=Bs) kids≤_;omega,by show 0≤_;omega⟩⟩
 |succ L=>
  have hr:right (au L ks kids)=true:=hr
  obtain ⟨r1,r2,r3,r4⟩:=(cR (n:=au L ks kids) rfl).1 hr
  have hz:7+5*ks.length+tot ks≤1355:=hz
  have r3:(List.map (fun u:Tr L=>((u.pg:Nat):Int)) kids).length=ks.length+1:=r3
  exact ⟨⟨by show ks.length≤_;omega,by show 0≤_;omega,by show (List.map (fun u:Tr L=>((u.pg:Nat):Int)) kids).length≤_;omega,by show tot ks≤_;omega,by show 0≤_;omega⟩,⟨by show ks.length≤_;omega,by show 0≤_;omega,by show (List.map (fun u:Tr L=>((u.pg:Nat):Int)) kids).length≤_;omega⟩⟩
def Has (s:PgS) (i:Nat) (n:Page.Node):Prop:=lE (pgB s.p s.d i 8)=0∧fL (pgB s.p s.d i 8)=n
def OnC (s:PgS):(L:Nat)→List (Kid L)→Prop
 |0=>fun _=>True
 |L+1=>fun (us:List (Tr L))=>∀u∈us,Has s u.pg (bF L u.ks u.kids)∧OnC s L u.kids
def On (s:PgS) (L:Nat) (t:Tr L):Prop:=Has s t.pg (bF L t.ks t.kids)∧OnC s L t.kids
theorem dL {s:PgS} {L:Nat} {us:List (Tr L)}:OnC s (L+1) us↔∀u∈us,On s L u:=Iff.rfl
def stt (s:PgS) (j:Nat):Nat:=s.st.getD j 0
def bts (s:PgS) (j:Nat):List UInt8:=pgB s.p s.d j 8
theorem Has.congr {s s':PgS} {i:Nat} {n:Page.Node} (h:Has s i n) (e:bts s' i=bts s i):Has s' i n:=by
 unfold Has at h ⊢
 unfold bts at e
 rw[e];exact h
theorem r8 {s s':PgS}:∀{L:Nat} {ks:List (Kid L)},OnC s L ks→(∀j∈bp L ks,bts s' j=bts s j)→OnC s' L ks
 |0,_,_,_=>trivial
 |L+1,us,h,e=>fun u hu=>by
  have hp:∀j∈aW L u,j∈bp (L+1) us:=fun j hj=>List.mem_flatten.2 ⟨_,List.mem_map.2 ⟨u,hu,rfl⟩,hj⟩
  exact ⟨(h u hu).1.congr (e _ (hp _ (List.mem_cons_self ..))),r8 (h u hu).2 fun j hj=>e j (hp _ (List.mem_cons_of_mem _ hj))⟩
theorem On.congr {s s':PgS} {L:Nat} {t:Tr L} (h:On s L t) (e:∀j∈aW L t,bts s' j=bts s j):On s' L t:=
 ⟨h.1.congr (e _ (List.mem_cons_self ..)),r8 h.2 fun j hj=>e j (List.mem_cons_of_mem _ hj)⟩
structure Mv (s s':PgS) (P P':Nat→Prop):Prop where
 np:s'.np=s.np
 d:s'.d=s.d
 off:∀j,¬P j→¬P' j→stt s' j=stt s j∧(stt s j≠0→bts s' j=bts s j)
 new:∀j,P' j→¬P j→stt s j=0∧stt s' j=2∧j<s.np
 stay:∀j,P' j→P j→stt s' j=stt s j
 gone:∀j,P j→¬P' j→(stt s j=1∧stt s' j=3)∨(stt s j=2∧stt s' j=0)
 keep:∀j,stt s j=1∨stt s j=3→bts s' j=bts s j
 pend:∀w∈s'.p,w∈s.p∨(stt s (w.1/8)≠1∧stt s (w.1/8)≠3)
section
variable {s s1 s':PgS} {P P1 P' Q:Nat→Prop}
theorem Mv.k13 (m:Mv s s' P P') (j:Nat):(stt s' j=1∨stt s' j=3)↔(stt s j=1∨stt s j=3):=by
 by_cases a:P j<;>by_cases b:P' j
 ·rw[m.stay j b a]
 ·have:=m.gone j a b;omega
 ·have:=m.new j b a;omega
 ·rw[(m.off j a b).1]
theorem Mv.trans (m:Mv s s1 P P1) (m2:Mv s1 s' P1 P'):Mv s s' P P' where
 np:=m2.np.trans m.np
 d:=m2.d.trans m.d
 off j a b:=by
  by_cases c:P1 j
  ·have q:=m.new j c a
   have r:=m2.gone j c b
   exact ⟨ab,fun x=>absurd q.1 x⟩
  ·have q:=m.off j a c
   have r:=m2.off j c b
   exact ⟨r.1.trans q.1,fun x=>(r.2 (by rw[q.1];exact x)).trans (q.2 x)⟩
 new j a b:=by
  by_cases c:P1 j
  ·have q:=m.new j c b
   have r:=m2.stay j a c
   exact ⟨q.1,ab,q.2.2⟩
  ·have q:=m.off j b c
   have r:=m2.new j a c
   have:=m.np
   exact ⟨ab,r.2.1,ab⟩
 stay j a b:=by
  by_cases c:P1 j
  ·exact (m2.stay j a c).trans (m.stay j c b)
  ·have q:=m.gone j b c
   have r:=m2.new j a c
   omega
 gone j a b:=by
  by_cases c:P1 j
  ·have q:=m.stay j c a
   have r:=m2.gone j c b
   omega
  ·have q:=m.gone j a c
   have r:=(m2.off j c b).1
   omega
 keep j a:=(m2.keep j ((m.k13 j).2 a)).trans (m.keep j a)
 pend w hw:=by
  rcases m2.pend w hw with a|a
  ·exact m.pend w a
  ·right
   have:=m.k13 (w.1/8)
   omega
theorem Mv.ext (m:Mv s s' P P') (hd:∀j,Q j→¬P j) (hq:∀j,Q j→stt s j≠0):Mv s s' (fun j=>P j∨Q j) (fun j=>P' j∨Q j) where
 np:=m.np
 d:=m.d
 off j a b:=m.off j (fun x=>a (.inl x)) (fun x=>b (.inl x))
 new j a b:=m.new j (a.resolve_right fun x=>b (.inr x)) (fun x=>b (.inl x))
 stay j a b:=by
  by_cases c:Q j
  ·by_cases e:P' j
   ·exact absurd (m.new j e (hd j c)).1 (hq j c)
   ·exact (m.off j (hd j c) e).1
  ·exact m.stay j (a.resolve_right c) (b.resolve_right c)
 gone j a b:=m.gone j (a.resolve_right fun x=>b (.inr x)) (fun x=>b (.inl x))
 keep:=m.keep
 pend:=m.pend
theorem Mv.congr (m:Mv s s' P P') {A A':Nat→Prop} (a:∀j,A j↔P j) (b:∀j,A' j↔P' j):Mv s s' A A':=by
 have ea:A=P:=funext fun j=>propext (a j)
 have eb:A'=P':=funext fun j=>propext (b j)
 rw[ea,eb];exact m
theorem Mv.apart (m:Mv s s' P P') (hd:∀j,Q j→¬P j) (hq:∀j,Q j→stt s j≠0):∀j,Q j→¬P' j∧stt s' j=stt s j∧bts s' j=bts s j:=fun j c=>by
 have e:¬P' j:=fun e=>hq j c (m.new j e (hd j c)).1
 have r:=m.off j (hd j c) e
 exact ⟨e,r.1,r.2 (hq j c)⟩
theorem Mv.same (h1:s'.np=s.np) (h2:s'.d=s.d) (h3:s'.st=s.st) (h4:s'.p=s.p):Mv s s' P P:=by
 have e1:∀j,stt s' j=stt s j:=fun j=>by unfold stt;rw[h3]
 have e2:∀j,bts s' j=bts s j:=fun j=>by unfold bts;rw[h2,h4]
 exact ⟨h1,h2,fun j _ _=>⟨e1 j,fun _=>e2 j⟩,fun j a b=>absurd a b,fun j _ _=>e1 j,fun j a b=>absurd a b,fun j _=>e2 j,fun w hw=> .inl (h4▸hw)⟩
theorem CL {i:Nat} {l:List UInt8} {w:Nat × List UInt8} (h:w∈wrs i l 8):w.1/8=i:=by
 obtain ⟨k,hk,rfl⟩:=List.mem_map.1 h
 have:=List.mem_range.1 hk
 simp only
 omega
theorem eC {st:List Nat} {i j z:Nat} (hi:i<st.length):(st.set i z).getD j 0=if j=i then z else st.getD j 0:=by
 rw[List.getD_eq_getElem?_getD,List.getElem?_set]
 by_cases e:i=j
 ·subst e;simp[hi]
 ·rw[if_neg e,if_neg (Ne.symm e),←List.getD_eq_getElem?_getD]
theorem CM {i:Nat} {l:List UInt8} {tk:Option Nat} (h:stt s i=2):Mv s {s with p:=s.p++wrs i l 8,tk:=tk} (fun j=>j=i) (fun j=>j=i) where
 np:=rfl
 d:=rfl
 off j a _:=⟨rfl,fun _=>jU a⟩
 new j a b:=absurd a b
 stay j _ _:=rfl
 gone j a b:=absurd a b
 keep j a:=jU (by rintro rfl;omega)
 pend w hw:=by
  rcases List.mem_append.1 hw with a|a
  ·exact .inl a
  ·right;rw[CL a];omega
theorem CN {k:Nat} {l:List UInt8} {tk:Option Nat} {ws:List W} (h:stt s k=0) (hk:k<s.np) (hl:s.st.length=s.np):Mv s {s with ws:=ws,st:=s.st.set k 2,p:=s.p++wrs k l 8,tk:=tk} (fun _=>False) (fun j=>j=k) where
 np:=rfl
 d:=rfl
 off j _ a:=⟨by show (s.st.set k 2).getD j 0=_;rw[eC ab,if_neg a];rfl,fun _=>jU a⟩
 new j a _:=by subst a;exact ⟨h,by show (s.st.set j 2).getD j 0=_;rw[eC ab,if_pos rfl],hk⟩
 stay j _ a:=a.elim
 gone j a _:=a.elim
 keep j a:=jU (by rintro rfl;omega)
 pend w hw:=by
  rcases List.mem_append.1 hw with a|a
  ·exact .inl a
  ·right;rw[CL a];omega
theorem CO {i:Nat} (h:stt s i=1) (hi:i<s.st.length):Mv s {s with st:=s.st.set i 3} (fun j=>j=i) (fun _=>False) where
 np:=rfl
 d:=rfl
 off j a _:=⟨by show (s.st.set i 3).getD j 0=_;rw[eC hi,if_neg a];rfl,fun _=>rfl⟩
 new j a _:=a.elim
 stay j a _:=a.elim
 gone j a _:= .inl (by subst a;exact ⟨h,by show (s.st.set j 3).getD j 0=_;rw[eC hi,if_pos rfl]⟩)
 keep j _:=rfl
 pend w hw:= .inl hw
theorem Ey {i:Nat} {ws:List W} (h:stt s i=2) (hi:i<s.st.length):Mv s {s with ws:=ws,st:=s.st.set i 0} (fun j=>j=i) (fun _=>False) where
 np:=rfl
 d:=rfl
 off j a _:=⟨by show (s.st.set i 0).getD j 0=_;rw[eC hi,if_neg a];rfl,fun _=>rfl⟩
 new j a _:=a.elim
 stay j a _:=a.elim
 gone j a _:= .inr (by subst a;exact ⟨h,by show (s.st.set j 0).getD j 0=_;rw[eC hi,if_pos rfl]⟩)
 keep j _:=rfl
 pend w hw:= .inl hw
end
def free (s:PgS):Nat:=dV (fun j=>decide (stt s j=0)) s.np
theorem u9 {f g:Nat→Bool} {k:Nat}:∀{n:Nat},k<n→(∀j,j≠k→f j=g j)→f k=true→g k=false→dV f n=dV g n+1
 |0,h,_,_,_=>absurd h (Nat.not_lt_zero _)
 |n+1,h,e,a,b=>by
  rw[dV,dV]
  by_cases q:k=n
  ·subst q
   rw[a,b,gd k fun i hi=>e i ab]
   rfl
  ·rw[u9 (n:=n) ab e a b,e n (Ne.symm q)]
   omega
theorem yn {f g:Nat→Bool}:∀{n:Nat},(∀j,j<n→f j=true→g j=true)→dV f n≤dV g n
 |0,_=>Nat.le_refl _
 |n+1,h=>by
  rw[dV,dV]
  have h1:=yn (f:=f) (g:=g) (n:=n) fun j hj=>h j ab
  have h2:=h n ab
  cases hf:f n<;>cases hg:g n<;>simp_all<;>omega
theorem r9 {s:PgS} (ok:cu s) (h:0<free s):∃k,kC s.ws s.np=some k∧k<s.np∧stt s k=0:=by
 cases hf:kC s.ws s.np with
 |some k=>
  have q:=qi hf
  refine ⟨k,rfl,q.1,?_⟩
  have:=ok.bit k
  rw[q.2,decide_eq_true q.1] at this
  simpa [stt] using this
 |none=>
  have q:=List.find?_range_eq_none.1 hf
  exfalso
  have:free s=0:=by
   unfold free
   refine nR _ fun j hj=>?_
   have b:=q j hj
   have c:=ok.bit j
   rw[decide_eq_true hj] at c
   simp only[Bool.not_eq_true',Bool.not_eq_false] at b
   have b:eU s.ws j=true:=by simpa using b
   rw[b] at c
   simpa [stt] using c.symm
  omega
theorem sa {s s':PgS} {k:Nat} (hn:s'.np=s.np) (hk:k<s.np) (h0:stt s k=0) (h1:stt s' k≠0) (h2:∀j,j≠k→stt s' j=stt s j):free s=free s'+1:=by
 unfold free
 rw[hn]
 exact u9 hk (fun j hj=>by rw[h2 j hj]) (by simpa using h0) (by simpa using h1)
theorem se {s s':PgS} (hn:s'.np=s.np) (h:∀j,stt s j=0↔stt s' j=0):free s'=free s:=by
 unfold free
 rw[hn]
 exact gd _ fun j _=>by simp only[h j]
theorem tK {s:PgS} {i:Nat} {n:Page.Node} {p:List (Nat × List UInt8)} (h:check n=0) (hp:s.p=p++wrs i (bH n) 8):Has s i n:=by
 have e:bH n=bytesOf n:=by unfold bH;rw[if_pos h]
 have hl:=fM h
 obtain ⟨b1,b2⟩:=Ae h
 unfold Has
 rw[hp,e,Cz hl]
 unfold lE fL
 rw[if_pos b1,if_pos b1]
 exact ⟨rfl,b2⟩
section
variable {x:PgI} {s:PgS} {T:List Nat} {h:H}
structure Stp (x:PgI) (T:List Nat) (s:PgS) (h:H) (P P':Nat→Prop) (c:Nat) (s':PgS) (h':H):Prop where
 pg:PgH x s' T h'
 ok:cu s'
 mv:Mv s s' P P'
 fr:free s≤free s'+c
 pl:s'.p.length≤s.p.length+8*c
 sm:cI x h h'
 no:aq h h'
 ln:h.n≤h'.n
theorem yo {n:Page.Node} (hc:check n=0):(bH n).length=1024:=by
 have e:bH n=bytesOf n:=by unfold bH;rw[if_pos hc]
 rw[e];exact fM hc
theorem tL (i:Nat) (l:List UInt8):(wrs i l 8).length=8:=by simp[wrs]
theorem tM {tid:Nat} {r:Int} {n:Page.Node} (g:PgH x s T h) (ok:cu s) (ht:h.objs tid=some (trO x r)) (hn:Nb n) (hc:check n=0) (hf:0<free s) (hp:s.p.length<900000):
  aJ Tryz.prog 55 [.ptr tid 0,aD n] h fun q h'=>∃s' k,q= .int .i64 (k:Nat)∧Stp x T s h (fun _=>False) (fun j=>j=k) 1 s' h'∧Has s' k n:=by
 obtain ⟨k,hk,k1,k2⟩:=r9 ok hf
 have hl:=yo hc
 obtain ⟨q,h',ca,n1,m1,rfl,⟨tk,g2⟩,sm,no⟩:=yj g ok ht hn hc hl hk hp
 refine ⟨_,h',ca,n1,m1,_,k,rfl,⟨g2,(ok.take k1 ah ah).more (tF hl k1),CN k2 k1 ok.st,?_,?_,sm,no,n1⟩,tK hc rfl⟩
 ·refine Nat.le_of_eq (sa (k:=k) rfl k1 k2 ?_ fun j hj=>?_)
  ·show (s.st.set k 2).getD k 0≠0
   rw[eC (by rw[ok.st];exact k1),if_pos rfl];decide
  ·show (s.st.set k 2).getD j 0=_
   rw[eC (by rw[ok.st];exact k1),if_neg hj];rfl
 ·show (s.p++wrs k (bH n) 8).length≤_
  rw[List.length_append,tL];omega
abbrev Tid (x:PgI) (tid:Nat):Prop:=tid≠x.P∧tid≠x.A∧tid≠x.U∧tid≠x.D∧tid≠x.K∧tid≠x.I
theorem tN {tid i:Nat} {r:Int} {n:Page.Node} (g:PgH x s T h) (ok:cu s) (ht:h.objs tid=some (trO x r)) (htx:Tid x tid) (hn:Nb n) (hc:check n=0) (hi:i<s.np) (hs:stt s i=1∨stt s i=2) (hf:0<free s) (hp:s.p.length<900000):
  aJ Tryz.prog 78 [.ptr tid 0,.int .i64 (i:Int),aD n] h fun q h'=>∃s' k,q= .int .i64 (k:Nat)∧Stp x T s h (fun j=>j=i) (fun j=>j=k) 1 s' h'∧Has s' k n:=by
 have hl:=yo hc
 rcases hs with hs|hs
 ·obtain ⟨k,hk,k1,k2⟩:=r9 ok hf
  obtain ⟨q,h',ca,n1,m1,rfl,⟨tk,g2⟩,sm,no⟩:=tI g ok ht htx hn hc hl hi hs hk hp
  have ki:i≠k:=by rintro rfl;omega
  have si:i<s.st.length:=by rw[ok.st];exact hi
  have sk:k<s.st.length:=by rw[ok.st];exact k1
  have o2:=(ok.take k1 (z:=2) ah ah).more (p:=wrs k (bH n) 8) (tk:=tk) (tF hl k1)
  have e2:(s.st.set k 2).getD i 0=1:=by rw[eC sk,if_neg ki];exact hs
  have m2:Mv s {s with ws:=setW s.ws k true,st:=s.st.set k 2,p:=s.p++wrs k (bH n) 8,tk:=tk} (fun j=>False∨j=i) (fun j=>j=k∨j=i):=(CN k2 k1 ok.st).ext (Q:=fun j=>j=i) (fun j _=>id) (fun j hj=>by subst hj;omega)
  have m3:=(CO (s:={s with ws:=setW s.ws k true,st:=s.st.set k 2,p:=s.p++wrs k (bH n) 8,tk:=tk}) (i:=i) e2 (by simpa using si)).ext (Q:=fun j=>j=k) (fun j a b=>ki (b▸a)) (fun j hj=>by
   subst hj
   show (s.st.set j 2).getD j 0≠0
   rw[eC sk,if_pos rfl];decide)
  have mm:=Mv.trans (m2.congr (A:=fun j=>j=i) (A':=fun j=>j=i∨j=k) (fun j=>by simp) (fun j=>Or.comm)) m3
  refine ⟨_,h',ca,n1,m1,_,k,rfl,⟨g2,o2.set hi ah ah (by rw[show ({s with ws:=setW s.ws k true,st:=s.st.set k 2,p:=s.p++wrs k (bH n) 8,tk:=tk}:PgS).st=s.st.set k 2 from rfl,e2];decide),mm.congr (fun j=>Iff.rfl) (fun j=>by simp),?_,?_,sm,no,n1⟩,tK hc rfl⟩
  ·have f1:free s=free {s with ws:=setW s.ws k true,st:=s.st.set k 2,p:=s.p++wrs k (bH n) 8,tk:=tk}+1:=sa (k:=k) rfl k1 k2 (by
    show (s.st.set k 2).getD k 0≠0
    rw[eC sk,if_pos rfl];decide) fun j hj=>by
    show (s.st.set k 2).getD j 0=_
    rw[eC sk,if_neg hj];rfl
   refine Nat.le_of_eq (f1.trans (congrArg (· +1) (Eq.symm (se (s:={s with ws:=setW s.ws k true,st:=s.st.set k 2,p:=s.p++wrs k (bH n) 8,tk:=tk}) (s':={s with ws:=setW s.ws k true,st:=(s.st.set k 2).set i 3,p:=s.p++wrs k (bH n) 8,tk:=tk}) rfl fun j=>?_))))
   show (s.st.set k 2).getD j 0=0↔((s.st.set k 2).set i 3).getD j 0=0
   rw[eC (st:=s.st.set k 2) (by simpa using si)]
   by_cases e:j=i
   ·subst e;rw[e2,if_pos rfl];decide
   ·rw[if_neg e]
  ·show (s.p++wrs k (bH n) 8).length≤_
   rw[List.length_append,tL];omega
 ·obtain ⟨q,h',ca,n1,m1,rfl,⟨tk,g2⟩,sm,no⟩:=w5 g ok ht hn hc hl hi hs hp
  refine ⟨_,h',ca,n1,m1,_,i,rfl,⟨g2,ok.more (tF hl hi),CM hs,Nat.le_succ_of_le (Nat.le_of_eq rfl),?_,sm,no,n1⟩,tK hc rfl⟩
  show (s.p++wrs i (bH n) 8).length≤_
  rw[List.length_append,tL];omega
end
abbrev Res (L:Nat):=Tr L × Option (Bs × Tr L)
def spK {L:Nat}:Option (Bs × Tr L)→Bs
 |none=>[]
 |some q=>q.1
def spP {L:Nat}:Option (Bs × Tr L)→Int
 |none=> -1
 |some q=>(q.2.pg:Nat)
def CP {L:Nat} (o:Option (Bs × Tr L)):AV:= .agg [.str (spK o),.int .i64 (spP o)]
def lH {L:Nat} (R:Res L):AV:= .tup [.int .i64 (R.1.pg:Nat),CP R.2]
def more {L:Nat} {α:Type} (f:Tr L→List α):Option (Bs × Tr L)→List α
 |none=>[]
 |some q=>f q.2
def cy (L:Nat) (R:Res L):List Nat:=aW L R.1++more (aW L) R.2
def kG (L:Nat) (R:Res L):List Pr:=aP L R.1++more (aP L) R.2
def qo (L:Nat) (lo:Bs) (hi:Option Bs) (R:Res L):Prop:=
 match R.2 with
 |none=>WF L lo hi R.1
 |some q=>WF L lo (some q.1) R.1∧WF L q.1 hi q.2∧Lt lo q.1∧(∀h,hi=some h→Lt q.1 h)∧q.1.length≤128
def top {L:Nat} (R:Res L) (j:Nat):Prop:=j=R.1.pg∨∃q,R.2=some q∧j=q.2.pg
section
variable {x:PgI} {s:PgS} {T:List Nat} {h:H}
structure Std (L:Nat) (lo:Bs) (hi:Option Bs) (ks:List Bs) (kids:List (Kid L)) (s':PgS) (R:Res L):Prop where
 h1:Has s' R.1.pg (bF L R.1.ks R.1.kids)
 h2:∀q,R.2=some q→Has s' q.2.pg (bF L q.2.ks q.2.kids)∧R.1.pg≠q.2.pg
 wf:qo L lo hi R
 ps:kG L R=mh L ks kids
 kd:R.1.kids++more Nd.kids R.2=kids
 n0:R.2=none→R.1.ks=ks
 nf:∀q,R.2=some q→¬size (bF L ks kids)≤1024
 cn:∀q,R.2=some q→0<L→2≤R.1.kids.length∧2≤q.2.kids.length∧9≤R.1.kids.length+q.2.kids.length
theorem mi {n:Page.Node} (hr:right n=true) (hz:size n≤1024):check n=0:=by
 unfold check;rw[if_pos hr,if_pos hz]
theorem CQ (L:Nat):lim L≤1355:=by unfold lim;split<;>omega
theorem yp {L tid i:Nat} {r:Int} {lo:Bs} {hi:Option Bs} {ks:List Bs} {kids:List (Kid L)} (g:PgH x s T h) (ok:cu s) (ht:h.objs tid=some (trO x r)) (htx:Tid x tid) (hi':i<s.np) (hs:stt s i=1∨stt s i=2) (hr:right (bF L ks kids)=true) (hz:size (bF L ks kids)≤lim L) (hw:WC L lo hi ks kids) (hf:2≤free s) (hp:s.p.length+16<900000):
  aJ Tryz.prog 86 [.ptr tid 0,.int .i64 (i:Int),aD (bF L ks kids)] h fun q h'=>∃s' R,q=lH R∧Stp x T s h (fun j=>j=i) (top R) 2 s' h'∧Std L lo hi ks kids s' R:=by
 have hsm:=cx hr (Nat.le_trans hz (CQ L))
 by_cases hfit:size (bF L ks kids)≤1024
 ·obtain ⟨q,h',ca,n1,m1,s',k,rfl,g',⟨o1,o2,o3,o4,o5⟩,sm,no⟩:=w6 (Q:=fun s' k=>cu s'∧Mv s s' (fun j=>j=i) (fun j=>j=k)∧free s≤free s'+1∧s'.p.length≤s.p.length+8∧Has s' k (bF L ks kids)) g ht hsm.1 hfit fun h1 g1 ht1=>
   (tN g1 ok ht1 htx hsm.1 (mi hr hfit) hi' hs ab ab).mono fun q h2 ⟨s',k,e,st,hh⟩=>⟨s',k,e,st.pg,⟨st.ok,st.mv,st.fr,st.pl,hh⟩,st.sm,st.no⟩
  refine ⟨_,h',ca,n1,m1,s',(⟨k,ks,kids⟩,none),rfl,⟨g',o1,o2.congr (fun j=>Iff.rfl) (fun j=>by simp[top]),ab,ab,sm,no,n1⟩,⟨o5,fun q hq=>(by cases hq),⟨hr,hfit,hw⟩,by simp[kG,more,aP],by simp[more],fun _=>rfl,fun q hq=>(by cases hq),fun q hq=>(by cases hq)⟩⟩
 ·obtain ⟨ks1,kids1,key,ks2,kids2,S⟩:=Ex hr hfit hz hw
  have q1:=cx S.r1 (by have:=S.z1;omega)
  have q2:=cx S.r2 (by have:=S.z2;omega)
  have el:(split (bF L ks kids)).l=bF L ks1 kids1:=by rw[S.eq]
  have er:(split (bF L ks kids)).r=bF L ks2 kids2:=by rw[S.eq]
  have ek:(split (bF L ks kids)).k=key:=by rw[S.eq]
  obtain ⟨q,h',ca,n1,m1,s1,k,s2,k2,e,⟨o1,o2,o3,o4,o5⟩,g',⟨u1,u2,u3,u4,u5⟩,sm,no⟩:=tJ (Q:=fun s' k=>cu s'∧Mv s s' (fun j=>j=i) (fun j=>j=k)∧free s≤free s'+1∧s'.p.length≤s.p.length+8∧Has s' k (bF L ks1 kids1))
   (Q2:=fun s1 k s2 k2=>cu s2∧Mv s1 s2 (fun _=>False) (fun j=>j=k2)∧free s1≤free s2+1∧s2.p.length≤s1.p.length+8∧Has s2 k2 (bF L ks2 kids2)) g ht htx hsm.1 hsm.2 hfit (by have:=CQ L;omega) (fun h1 g1 ht1=>by
    rw[el]
    exact (tN g1 ok ht1 htx q1.1 (mi S.r1 S.z1) hi' hs ab ab).mono fun q h2 ⟨s',k,e,st,hh⟩=>⟨s',k,e,st.pg,⟨st.ok,st.mv,st.fr,st.pl,hh⟩,st.sm,st.no⟩)
   (fun s1 k h1 o g1 ht1=>by
    rw[er]
    obtain ⟨o1,o2,o3,o4,o5⟩:=o
    exact (tM g1 o1 ht1 q2.1 (mi S.r2 S.z2) ab ab).mono fun q h2 ⟨s',k,e,st,hh⟩=>⟨s',k,e,st.pg,⟨st.ok,st.mv,st.fr,st.pl,hh⟩,st.sm,st.no⟩)
  rw[ek] at e
  subst e
  have hk0:stt s1 k≠0:=by
   by_cases c:k=i
   ·have:=o2.stay k rfl c;subst c;omega
   ·have:=(o2.new k rfl c).2.1;omega
  have hk2:k≠k2:=by
   rintro rfl
   exact hk0 (u2.new k rfl id).1
  have m2:=u2.ext (Q:=fun j=>j=k) (fun j _=>id) (fun j hj=>by subst hj;exact hk0)
  have ap:=u2.apart (Q:=fun j=>j=k) (fun j _=>id) (fun j hj=>by subst hj;exact hk0) k rfl
  have mm:=o2.trans (m2.congr (A:=fun j=>j=k) (A':=fun j=>j=k∨j=k2) (fun j=>by simp) (fun j=>Or.comm))
  refine ⟨_,h',ca,n1,m1,s2,(⟨k,ks1,kids1⟩,some (key,⟨k2,ks2,kids2⟩)),rfl,⟨g',u1,mm.congr (fun j=>Iff.rfl) (fun j=>by simp[top]),ab,ab,sm,no,n1⟩,⟨o5.congr ap.2.2,fun q hq=>(by cases hq;exact ⟨u5,hk2⟩),⟨⟨S.r1,S.z1,S.w1⟩,⟨S.r2,S.z2,S.w2⟩,S.k1,S.k2,S.kl⟩,S.ps,S.kd,fun hq=>(by cases hq),fun q hq=>hfit,fun q hq h0=>(by cases hq;exact S.cn h0)⟩⟩
end
def fh:(L:Nat)→Nat→Tr L→Nat
 |0,j=>fun _=>if j=0 then 1 else 0
 |L+1,j=>fun t:Nd (Tr L)=>if j=L+1 then 1 else (t.kids.map (fh L j)).sum
def exT:(L:Nat)→Nat→Tr L→Nat
 |0,_=>fun _=>0
 |L+1,j=>fun t:Nd (Tr L)=>if j=L+1 then t.kids.length - 5 else (t.kids.map (exT L j)).sum
def iF {L:Nat} (f:Tr L→Nat) (R:Res L):Nat:=f R.1+(match R.2 with|none=>0|some q=>f q.2)
def Pot (L:Nat) (t:Tr L) (R:Res L):Prop:=∃e:Nat→Nat,(∀j,e j≤1)∧(R.2=none→e L=0)∧(∀q,R.2=some q→e L=1)∧(∀j,j≤L→iF (fh L j) R≤fh L j t+e j)∧(∀j,j<L→2*e (j+1)+iF (exT L (j+1)) R≤exT L (j+1) t+e j)
structure Ez (L:Nat) (lo:Bs) (hi:Option Bs) (t:Tr L) (ps:List Pr) (s':PgS) (R:Res L):Prop where
 on:On s' L R.1
 on2:∀q,R.2=some q→On s' L q.2
 wf:qo L lo hi R
 ps:kG L R=ps
 nd:(cy L R).Nodup
 pot:Pot L t R
section
variable {x:PgI} {s:PgS} {T:List Nat} {h:H}
theorem Stp.pre {P P':Nat→Prop} {c:Nat} {s':PgS} {h1 h2:H} (st:Stp x T s h1 P P' c s' h2) (sm:cI x h h1) (no:aq h h1) (ln:h.n≤h1.n):Stp x T s h P P' c s' h2:=
 ⟨st.pg,st.ok,st.mv,st.fr,st.pl,sm.trans st.sm ln,aq.trans no st.no ln st.ln,Nat.le_trans ln st.ln⟩
theorem Stp.put {P P':Nat→Prop} {c:Nat} {s':PgS} {h2:H} {j0:Nat} {o p:Av.Obj} (st:Stp x T s h P P' c s' h2) (g:PgH x s T h) (hp:h2.objs j0=some p) (h0:h.n≤j0) (h1:j0<h2.n):Stp x T s h P P' c s' {h2 with objs:=upd h2.objs j0 (some o)}:=by
 have lt:=g.lt
 refine ⟨st.pg.other h1 ab,st.ok,st.mv,st.fr,st.pl,fun j hj a1 a2 a3 a4 a5 a6=>?_,aq.trans st.no (aq.set hp) st.ln (Nat.le_refl _),st.ln⟩
 have e:(upd h2.objs j0 (some o):Nat→Option Av.Obj) j=h2.objs j:=by simp only[upd];rw[if_neg ab]
 exact e.trans (st.sm j hj a1 a2 a3 a4 a5 a6)
theorem qf {tid d:Nat} {r:Int} {lo:Bs} {hi:Option Bs} {i:Nat} {ks vs:List Bs} {key val:Bs} (g:PgH x s T h) (ok:cu s) (ht:h.objs tid=some (trO x r)) (htx:Tid x tid) (hi':i<s.np) (hs:stt s i=1∨stt s i=2) (hH:Has s i (aB ks vs)) (hr:right (aB ks vs)=true) (hz:size (aB ks vs)≤1024)
  (hw:∀k∈ks,inB lo hi k) (hkb:inB lo hi key) (hk:key.length≤128) (hv:val.length≤200) (hd:d≤20) (hf:2≤free s) (hp:s.p.length+16<900000):
  aJ Tryz.prog 56 [.ptr tid 0,.int .i64 (i:Int),.int .i64 (d:Int),.str key,.str val] h fun q h'=>∃s' R,q=lH R∧Stp x T s h (fun j=>j=i) (top R) 2 s' h'∧Ez 0 lo hi ⟨i,ks,vs⟩ (gf (List.zipWith Pr.mk ks vs) key val) s' R:=by
 refine f56.bC af ?_
 unfold c56 zz
 have hlt:tid<h.n:=by
  rcases Nat.lt_or_ge tid h.n with q|q
  ·exact q
  ·rw[g.fresh _ q] at ht;cases ht
 obtain ⟨ks',vs',p1,p2,p3,p4,p5,p6,p7⟩:=CJ (val:=val) hr hk hv
 have hsm:=cx (L:=0) hr (by have:size (aB ks vs)≤1024:=hz;show size (aB ks vs)≤1355;omega)
 have cp:=GZ (aB ks vs) hsm.1 hsm.2 key val (by unfold Ls;omega)
 rw[p1,p2] at cp
 have hsm':=cx (L:=0) (ks:=ks') (kids:=vs') p3 (by show size (aB ks' vs')≤1355;omega)
 have ht1:=(aO (o:= .cells [.str [],.int .i64 0]) hlt).trans ht
 have hn1:=bZ (h:=h) (o:= .cells [.str [],.int .i64 0])
 have g1:=g.new (.cells [.str [],.int .i64 0])
 have k1:Kept h (H.new h (.cells [.str [],.int .i64 0])):=fun j hj=>aO hj
 have no1:=bP (h:=h) (o:= .cells [.str [],.int .i64 0])
 have ln:(H.new h (.cells [.str [],.int .i64 0])).n=h.n+1:=rfl
 refine rf0 @and_self ?_
 change an _ _ _ _ (H.new h (.cells [.str [],.int .i64 0])) _
 generalize H.new h (.cells [.str [],.int .i64 0])=h1 at*
 have hnd:=iY g1 ok ht1 hi' (by show stt s i≠0;omega) ab hd hH.1
 rw[hH.2] at hnd
 refine an.ba (vals:=[.ptr tid 0,.int .i64 (i:Int),.int .i64 (d:Int)]) ae xA4 hnd fun q h2 ⟨hq,g2,k2,no2⟩ n2 _=>?_
 subst hq
 have ht2:=(k2 tid ab).trans ht1
 have hn2:=(k2 h.n ab).trans hn1
 have g3:=(g2.new (aC (aB ks vs))).new (aC (aB ks' vs'))
 have ln3:(H.new (H.new h2 (aC (aB ks vs))) (aC (aB ks' vs'))).n=h2.n+1+1:=rfl
 have ht3:(H.new (H.new h2 (aC (aB ks vs))) (aC (aB ks' vs'))).objs tid=some (trO x r):=(aO (Nat.lt_succ_of_lt ab)).trans ((aO ab).trans ht2)
 have hn3:(H.new (H.new h2 (aC (aB ks vs))) (aC (aB ks' vs'))).objs h.n=some (.cells [.str [],.int .i64 0]):=(aO (Nat.lt_succ_of_lt ab)).trans ((aO ab).trans hn2)
 have sm3:cI x h (H.new (H.new h2 (aC (aB ks vs))) (aC (aB ks' vs'))):=((eB k1).trans (eB k2) ab).trans (cS.trans cS (Nat.le_succ _)) ab
 have no3:aq h (H.new (H.new h2 (aC (aB ks vs))) (aC (aB ks' vs'))):=aq.trans (aq.trans no1 no2 ab ab) (aq.trans bP bP (Nat.le_succ _) (Nat.le_succ _)) ab ab
 have nn3:=bZ (h:=H.new h2 (aC (aB ks vs))) (o:=aC (aB ks' vs'))
 unfold aD at cp
 unfold aD
 refine an.evF xAc ?_
 rw[bB]
 refine an.nil ?_
 refine rf1 @and_self cp ?_
 rw[bB]
 refine an.cJ xA2 xAb (by exact ⟨Nat.le_refl _,Nat.le_refl _⟩) (fc) ?_
 refine an.nil ?_
 refine Wp.le (s':=⟨tm [(0,.ptr tid 0),(1,.int .i64 i),(11,.ptr h.n 0),(13,.ptr (h2.n+1) 0)],H.new (H.new h2 (aC (aB ks vs))) (aC (aB ks' vs'))⟩) (aM.of (bA ?_) (OLe.refl _) (fun y hy=>hy) (Nat.le_refl _) (Nat.le_refl _)) ?_
 ·exact xSb
 have nn3:(H.new (H.new h2 (aC (aB ks vs))) (aC (aB ks' vs'))).objs (h2.n+1)=some (aC (aB ks' vs')):=nn3
 generalize H.new (H.new h2 (aC (aB ks vs))) (aC (aB ks' vs'))=h3 at*
 unfold aC at nn3
 refine rf0 nn3 ?_
 have hst:=yp (L:=0) (lo:=lo) (hi:=hi) (ks:=ks') (kids:=vs') g3 ok ht3 htx hi' hs p3 (by show size (aB ks' vs')≤1355;omega) ⟨p5,fun k hk'=>by
  rcases p6 k hk' with rfl|q
  ·exact hkb
  ·exact hw k q⟩ hf hp
 have lt:=g.lt
 refine an.ba (vals:=[.ptr tid 0,.int .i64 (i:Int),aD (aB ks' vs')]) ae xA4 hst fun q h4 ⟨s',R,hq,st,sd⟩ n4 _=>?_
 subst hq
 have hn4:h4.objs h.n=some (.cells [.str [],.int .i64 0]):=(st.sm _ ab ab ab ab ab ab ab).trans hn3
 unfold lH CP
 refine an.evF (xAd hn4) ?_
 refine an.nil ?_
 refine Wp.ret ?_
 refine ⟨trivial,.tup [.int .i64 (R.1.pg:Nat),.agg [.str (spK R.2),.int .i64 (spP R.2)]],?_,s',R,rfl,(st.pre sm3 no3 ab).put g hn4 (Nat.le_refl _) ab,?_⟩
 ·have e2:dg [RV.tmp 10,RV.cell 11 (some 2)] (tm [(10,.int .i64 (R.1.pg:Nat)),(11,.ptr h.n 0)]) ⟨upd h4.objs h.n (some (.cells [.str (spK R.2),.int .i64 (spP R.2)])),h4.n,h4.toks,h4.m⟩=some (.tup [.int .i64 (R.1.pg:Nat),.agg [.str (spK R.2),.int .i64 (spP R.2)]]):=by
   simp[dg,rvs,rv,tm,upd,Av.part,shaped,aR]
  exact e2
 ·obtain ⟨t1,o⟩:=R
  refine ⟨⟨sd.h1,trivial⟩,fun q hq=>⟨(sd.h2 q hq).1,trivial⟩,sd.wf,sd.ps.trans p7,?_,?_⟩
  ·cases o with
   |none=>show [t1.pg].Nodup;simp
   |some q=>
    have:=(sd.h2 q rfl).2
    show [t1.pg,q.2.pg].Nodup
    simpa using this
  ·refine ⟨fun j=>if j=0∧o.isSome then 1 else 0,fun j=>by simp only;split<;>omega,fun hn=>by simp only at hn;subst hn;rfl,fun q hq=>by simp only at hq;subst hq;rfl,fun j hj=>?_,fun j hj=>absurd hj (Nat.not_lt_zero _)⟩
   obtain rfl:j=0:=by omega
   cases o<;>simp[iF,fh]
end
def rk {L:Nat} (o:Option (Bs × Tr L)):List Bs:=match o with|none=>[]|some q=>[q.1]
def rt {L:Nat} (R:Res L):List (Tr L):=R.1::(match R.2 with|none=>[]|some q=>[q.2])
def nks {L:Nat} (ks:List Bs) (j:Nat) (R:Res L):List Bs:=ks.take j++(rk R.2++ks.drop j)
def nus {L:Nat} (us:List (Tr L)) (j:Nat) (R:Res L):List (Tr L):=us.take j++(rt R++us.drop (j+1))
def bR {L:Nat} (us:List (Tr L)):List Int:=us.map fun u=>((u.pg:Nat):Int)
theorem yq {L:Nat} {us:List (Tr L)} {j:Nat} {R:Res L} (h:R.2=none):(bR us).take j++((R.1.pg:Nat):Int)::(bR us).drop (j+1)=bR (nus us j R):=by
 unfold nus rt
 rw[h]
 simp[bR]
theorem EA {L:Nat} {us:List (Tr L)} {j:Nat} {R:Res L} {q:Bs × Tr L} (h:R.2=some q) (hj:j<us.length):
  (((bR us).take j++((R.1.pg:Nat):Int)::(bR us).drop (j+1)).take (j+1)++((q.2.pg:Nat):Int)::((bR us).take j++((R.1.pg:Nat):Int)::(bR us).drop (j+1)).drop (j+1))=bR (nus us j R):=by
 unfold nus rt
 rw[h]
 have e:((bR us).take j).length=j:=by simp[bR];omega
 have e1:((bR us).take j++((R.1.pg:Nat):Int)::(bR us).drop (j+1)).take (j+1)=(bR us).take j++[((R.1.pg:Nat):Int)]:=by
  rw[List.take_append,e,List.take_of_length_le ab,show j+1 - j=1 by omega]
  simp
 have e2:((bR us).take j++((R.1.pg:Nat):Int)::(bR us).drop (j+1)).drop (j+1)=(bR us).drop (j+1):=by
  rw[List.drop_append,e,List.drop_eq_nil_of_le ab,show j+1 - j=1 by omega]
  simp
 rw[e1,e2]
 simp[bR]
section
variable {x:PgI} {s:PgS} {T:List Nat} {h:H}
theorem dB (g:PgH x s T h) {j:Nat} (hj:h.n≤j):Tid x j:=by
 have lt:=g.lt
 refine ⟨?_,?_,?_,?_,?_,?_⟩ <;>omega
theorem cD {h':H} (sm:cI x h h') {j:Nat} (hj:j<h.n) (a:Tid x j):h'.objs j=h.objs j:=sm j hj a.1 a.2.1 a.2.2.1 a.2.2.2.1 a.2.2.2.2.1 a.2.2.2.2.2
theorem dD.same {h':H} {n0 c:Nat} {K:AV} {xs:List AV} (r:dD h n0 K xs c) (sm:cI x h h') (hn:h.n≤h'.n) (ht:∀j,n0≤j→Tid x j):dD h' n0 K xs c:=
 r.keep hn (fun j a b _=>cD sm b (ht j a)) (fun a _ h=>h)
theorem CR {L:Nat} {ks:List Bs} {us:List (Tr L)} {K:AV} {n0 c:Nat} (rK:dD h n0 K (strs ks) c) (oc:h.objs c=some (.cells (ints (bR us)))) {rest:List AV}:
  ay (gZ h (fun _=>true) [.agg [.bool false,K,.sl 1 [] (.exact 0),.tsl 1 c 0 us.length none]]) [aD (au L ks us)]:=by
 have hk2:us.length=(ints (bR us)).length:=by simp[ints,bR]
 have hT:av (unT h (fun _=>true) (.tsl 1 c 0 us.length none)) (.sl 1 (ints (bR us)) .any):=by
  rw[hk2];exact CC oc
 unfold aD au
 simp only[gZ]
 refine ay.cons ?_ ay.nil
 simp only[unT,gZ]
 simp only[unT] at hT
 exact av.agg (ay.cons (av.refl _) (ay.cons rK.un (ay.cons av.cap (ay.cons hT ay.nil))))
theorem CS {L:Nat} {ks:List Bs} {us:List (Tr L)} {K:AV} {n0 c:Nat} {key:Bs} (rK:dD h n0 K (strs ks) c) (oc:h.objs c=some (.cells (ints (bR us)))) (hr:right (au L ks us)=true) (hn:Nb (au L ks us)):
  aK Tryz.prog 42 [.agg [.bool false,K,.sl 1 [] (.exact 0),.tsl 1 c 0 us.length none],.str key] h (.tup [.int .i64 (place (au L ks us) key:Nat),.bool false]) h:=by
 have f:=nI (au L ks us) hn key
 have e1:dU (au L ks us) key=place (au L ks us) key:=by unfold dU;rw[if_pos hr]
 have e2:bI (au L ks us) key=false:=by unfold bI found;simp[au]
 rw[e1,e2] at f
 refine bj.E6 f ?_ (fun _ _ _ _ h=>by simpa [aw,aA] using h)
 have:=CR (rest:=[]) rK oc
 simp only[gZ] at this ⊢
 exact ay.cons (by
  intro G w v hv
  have:=this G w [v] (by simp only[aA];exact ⟨v,[],rfl,hv,rfl⟩)
  simp only[aA] at this
  obtain ⟨v',us',e,h1,-⟩:=this
  have:v=v':=by simpa using (List.cons.inj e).1
  rw[this];exact h1) (ay.cons (by simp only[unT];exact av.refl _) ay.nil)
theorem PgH.at {h':H} (g:PgH x s T h) (q:∀j,¬Tid x j→h'.objs j=h.objs j) (hn:h.n≤h'.n) (hf:∀j,h'.n≤j→h'.objs j=none) (ht:h'.toks=h.toks) (hm:h.m≤h'.m):PgH x s T h' where
 oP:=(q _ (by simp[Tid])).trans g.oP
 oA:=(q _ (by simp[Tid])).trans g.oA
 oU:=(q _ (by simp[Tid])).trans g.oU
 oD:=(q _ (by simp[Tid])).trans g.oD
 oK:=(q _ (by simp[Tid])).trans g.oK
 oI:=(q _ (by simp[Tid])).trans g.oI
 lt:=by have:=g.lt;omega
 ne:=g.ne
 fresh:=hf
 toks:=ht.trans g.toks
 tm:=fun t h=>Nat.lt_of_lt_of_le (g.tm t h) hm
 tkm:=fun t h=>⟨Nat.lt_of_lt_of_le (g.tkm t h).1 hm,(g.tkm t h).2⟩
 tk0:=g.tk0
theorem dD.unD {n0 c:Nat} {K:AV} {xs:List AV} {d:Nat→Bool} (r:dD h n0 K xs c) (hd:∀a l c',K= .tsl 1 a 0 l c'→d a=true):av (unT h d K) (.sl 1 xs .any):=by
 rcases r with ⟨rfl,rfl⟩|⟨a,rfl,r2,-⟩
 ·simp only[unT];exact av.cap
 ·simp[unT,r2,hd a _ _ rfl];exact av.refl _
theorem yr {c:Nat} {xs:List AV} {d:Nat→Bool} (r2:h.objs c=some (.cells xs)) (hd:d c=true):av (unT h d (.tsl 1 c 0 xs.length none)) (.sl 1 xs .any):=by
 simp[unT,r2,hd];exact av.refl _
structure Ndy (x:PgI) (T:List Nat) (s1:PgS) (h:H) (tid:Nat) (r:Int) (d:Nat→Bool) (nid:Nat) (ks:List Bs) (is:List Int) (b:H × AV × AV):Prop where
 ob:b.1.objs nid=some (.cells [.bool false,b.2.1,.sl 1 [] (.exact 0),b.2.2])
 c1:aR b.2.1=true
 c2:aR b.2.2=true
 v1:av (unT b.1 d b.2.1) (.sl 1 (strs ks) .any)
 v2:av (unT b.1 d b.2.2) (.sl 1 (ints is) .any)
 pg:PgH x s1 T b.1
 ot:b.1.objs tid=some (trO x r)
 sm:cI x h b.1
 no:aq h b.1
 ln:nid<b.1.n
 l0:h.n≤b.1.n
theorem Ndy.go {s1:PgS} {tid nid:Nat} {r:Int} {d:Nat→Bool} {ks:List Bs} {is:List Int} {b:H × AV × AV} (o:Ndy x T s1 h tid r d nid ks is b) (g:PgH x s T h) (hd:∀k,d k=true→h.n≤k∧k<nid) (ht:tid<h.n) (hn:h.n≤nid) {l:List (Nat × AV)} (hl:bg (fun i=>unT b.1 d (tm l i)) l) {t:Tm} (hs:bg t l):
  ∃h8:H,aM ⟨t,b.1⟩ ⟨tm l,h8⟩∧h8.objs nid=some (aC ⟨false,ks,[],is⟩)∧PgH x s1 T h8∧h8.objs tid=some (trO x r)∧cI x h h8∧aq h h8∧h8.n=b.1.n∧(∀j,d j=false→j≠nid→h8.objs j=b.1.objs j):=by
 have hdn:d nid=false:=by
  cases e:d nid with
  |false=>rfl
  |true=>have:=hd _ e;omega
 have hdl:∀j,j<h.n→d j=false:=fun j hj=>by
  cases e:d j with
  |false=>rfl
  |true=>have:=hd _ e;omega
 have q:∀j,d j=false→j≠nid→(upd (b.1.drop d).objs nid (some (aC ⟨false,ks,[],is⟩)):Nat→Option Av.Obj) j=b.1.objs j:=fun j h1 h2=>by
  simp only[upd];rw[if_neg h2];simp[H.drop,h1]
 refine ⟨{b.1.drop d with objs:=upd (b.1.drop d).objs nid (some (aC ⟨false,ks,[],is⟩))},?_,by simp[upd],?_,(q tid (hdl _ ht) ab).trans o.ot,fun j hj a1 a2 a3 a4 a5 a6=>(q j (hdl j hj) ab).trans (o.sm j hj a1 a2 a3 a4 a5 a6),fun j hj=>?_,rfl,q⟩
 ·refine aM.trans (aM.tm hs) (aM.trans (aM.HL _ _ d nid hdn o.ob) (aM.of ?_ ?_ (fun y hy=>hy) (Nat.le_refl _) (Nat.le_refl _)))
  ·exact bA hl
  ·refine OLe.upd (OLe.refl _) ?_
   simp only[eA,gZ]
   exact ay.cons (by simp only[unT];exact av.refl _) (ay.cons o.v1 (ay.cons (by simp only[unT];exact av.cap) (ay.cons o.v2 ay.nil)))
 ·refine o.pg.at (fun j hj=>?_) (Nat.le_refl _) (fun j hj=>?_) rfl (Nat.le_refl _)
  ·have lt:=g.lt
   have hj2:j<h.n:=by
    rcases Nat.lt_or_ge j h.n with e|e
    ·exact e
    ·exact absurd (dB g e) hj
   exact q j (hdl j hj2) ab
  ·have hj:b.1.n≤j:=hj
   have ln:=o.ln
   show (upd (b.1.drop d).objs nid (some (aC ⟨false,ks,[],is⟩)):Nat→Option Av.Obj) j=none
   simp only[upd];rw[if_neg ab]
   simp only[H.drop]
   split
   ·rfl
   ·exact o.pg.fresh j hj
 ·have hj:((upd (b.1.drop d).objs nid (some (aC ⟨false,ks,[],is⟩)):Nat→Option Av.Obj) j).isSome=true:=hj
  by_cases e:j=nid
  ·right;exact ⟨ab,by rw[e];exact o.ln⟩
  ·simp only[upd] at hj
   rw[if_neg e] at hj
   simp only[H.drop] at hj
   split at hj
   ·cases hj
   ·exact o.no j hj
set_option maxHeartbeats 2000000 in
theorem CT {L tid d i:Nat} {r:Int} {ks:List Bs} {us:List (Tr L)} {key val:Bs} {u:Tr L} {Q:PgS→Res L→Prop} {Q2:PgS→Res L→PgS→Res (L+1)→Prop}
  (g:PgH x s T h) (ok:cu s) (ht:h.objs tid=some (trO x r)) (htx:Tid x tid) (hi':i<s.np) (hs:stt s i=1∨stt s i=2) (hH:Has s i (au L ks us)) (hr:right (au L ks us)=true) (hz:size (au L ks us)≤1024)
  (hu:us[place (au L ks us) key]? =some u) (hj:place (au L ks us) key≤ks.length) (hd:d≤20) (hp:s.p.length<900000)
  (ih:∀h1,PgH x s T h1→h1.objs tid=some (trO x r)→aJ Tryz.prog 56 [.ptr tid 0,.int .i64 (u.pg:Nat),.int .i64 ((d+1:Nat):Int),.str key,.str val] h1 fun q h'=>∃s1 R,q=lH R∧PgH x s1 T h'∧cI x h1 h'∧aq h1 h'∧Q s1 R)
  (hst:∀s1 (R:Res L) h1,Q s1 R→PgH x s1 T h1→h1.objs tid=some (trO x r)→¬(R.1.pg=u.pg∧R.2=none)→aJ Tryz.prog 86 [.ptr tid 0,.int .i64 (i:Int),aD (au L (nks ks (place (au L ks us) key) R) (nus us (place (au L ks us) key) R))] h1 fun q h'=>∃s2 R2,q=lH R2∧PgH x s2 T h'∧cI x h1 h'∧aq h1 h'∧Q2 s1 R s2 R2):
  aJ Tryz.prog 56 [.ptr tid 0,.int .i64 (i:Int),.int .i64 (d:Int),.str key,.str val] h fun q h'=>∃s1 R,Q s1 R∧cI x h h'∧aq h h'∧((q= .tup [.int .i64 (i:Int),.agg [.str [],.int .i64 (-1)]]∧R.1.pg=u.pg∧R.2=none∧PgH x s1 T h')∨(¬(R.1.pg=u.pg∧R.2=none)∧∃s2 R2,q=lH R2∧PgH x s2 T h'∧Q2 s1 R s2 R2)):=by
 refine f56.bC af ?_
 unfold c56 zz
 have hlt:tid<h.n:=by
  rcases Nat.lt_or_ge tid h.n with q|q
  ·exact q
  ·rw[g.fresh _ q] at ht;cases ht
 have hsm:=cx (L:=L+1) (ks:=ks) (kids:=us) hr (by show size (au L ks us)≤1355;omega)
 have ht1:=(aO (o:= .cells [.str [],.int .i64 0]) hlt).trans ht
 have hn1:=bZ (h:=h) (o:= .cells [.str [],.int .i64 0])
 have g1:=g.new (.cells [.str [],.int .i64 0])
 have k1:Kept h (H.new h (.cells [.str [],.int .i64 0])):=fun j hj=>aO hj
 have no1:=bP (h:=h) (o:= .cells [.str [],.int .i64 0])
 have ln:(H.new h (.cells [.str [],.int .i64 0])).n=h.n+1:=rfl
 have hul:us.length=ks.length+1:=by
  have q:=((cR (n:=au L ks us) rfl).1 hr).2.2.1
  simpa [au] using q
 refine rf0 @and_self ?_
 change an _ _ _ _ (H.new h (.cells [.str [],.int .i64 0])) _
 generalize H.new h (.cells [.str [],.int .i64 0])=h1 at*
 have hnd:=CH g1 ok ht1 hi' (by show stt s i≠0;omega) hp hd hH.1 (by rw[hH.2];rfl)
 rw[hH.2] at hnd
 refine an.ba (vals:=[.ptr tid 0,.int .i64 (i:Int),.int .i64 (d:Int)]) ae xA4 hnd fun q h2 ⟨K,c,hq,oc,rK,hc1,hc2,g2,k2,no2⟩ n2 _=>?_
 subst hq
 have hkl:(au L ks us).kids.length=us.length:=by simp[au]
 have hkk:(au L ks us).kids=bR us:=rfl
 have hks:(au L ks us).keys=ks:=rfl
 rw[hkl]
 rw[hkk] at oc
 rw[hks] at rK
 have ht2:=(k2 tid ab).trans ht1
 have hn2:=(k2 h.n ab).trans hn1
 have hKc:=rK.cell
 have hKc2:=hKc
 unfold aR at hKc
 obtain ⟨nO,hnO⟩:∃nO:Av.Obj,nO= .cells [.bool false,K,.sl 1 [] (.exact 0),.tsl 1 c 0 us.length none]:=⟨_,rfl⟩
 have g3:=g2.new nO
 have ln3:(H.new h2 nO).n=h2.n+1:=rfl
 have ht3:(H.new h2 nO).objs tid=some (trO x r):=(aO ab).trans ht2
 have hn3:(H.new h2 nO).objs h.n=some (.cells [.str [],.int .i64 0]):=(aO ab).trans hn2
 have nn3:=bZ (h:=h2) (o:=nO)
 have oc3:(H.new h2 nO).objs c=some (.cells (ints (bR us))):=(aO hc2).trans oc
 have rK3:dD (H.new h2 nO) h1.n K (strs ks) c:=rK.keep (Nat.le_succ _) (fun j a b _=>aO b) (fun a _ h=>h)
 have sm3:cI x h (H.new h2 nO):=((eB k1).trans (eB k2) ab).trans cS ab
 have no3:aq h (H.new h2 nO):=aq.trans (aq.trans no1 no2 ab ab) bP ab ab
 refine an.evF (xAd hKc) ?_
 rw[bB]
 refine an.nil ?_
 refine Wp.le (s':=⟨tm [(0,.ptr tid 0),(1,.int .i64 i),(2,.int .i64 d),(3,.str key),(4,.str val),(11,.ptr h.n 0),(12,.ptr h2.n 0)],H.new h2 nO⟩) (aM.of (bA ?_) (by rw[hnO];exact OLe.refl _) (fun y hy=>hy) (Nat.le_refl _) (Nat.le_refl _)) ?_
 ·exact xSb
 generalize H.new h2 nO=h3 at*
 rw[hnO] at nn3
 have cf:=CS (key:=key) rK3 oc3 hr hsm.1
 generalize hJ:place (au L ks us) key=J at*
 have hJu:J<us.length:=by omega
 have hgk:(ints (bR us)).getD J .any= .int .i64 (u.pg:Nat):=by
  have:(bR us)[J]? =some ((u.pg:Nat):Int):=by simp[bR,hu]
  simp[ints,List.getD,this]
 have x1:(0:Int)≤(J:Int):=by omega
 have x2:(J:Int)<(us.length:Int):=by omega
 have wd:IntKind.i64.wrap ((d:Int)+1)=((d+1:Nat):Int):=by rw[IntWalk.i64_in _ ab];rfl
 have hgo:(ints (bR us))[J]? =some (.int .i64 (u.pg:Nat)):=by
  have:(bR us)[J]? =some ((u.pg:Nat):Int):=by simp[bR,hu]
  simp[ints,this]
 refine rg1 (qI nn3 x1 x2 oc3 hgo wd @Int.toNat_natCast @Nat.mul_one @Nat.zero_add @and_self) cf ?_
 refine an.ba (vals:=[.ptr tid 0,.int .i64 (u.pg:Nat),.int .i64 ((d+1:Nat):Int),.str key,.str val]) ae xA4 (ih h3 g3 ht3) fun q h4 ⟨s1,R,hq,g4,sm4,no4,hQ⟩ n4 _=>?_
 subst hq
 have tids:∀j,h.n≤j→Tid x j:=fun j hj=>dB g hj
 have tid4:∀j,h1.n≤j→Tid x j:=fun j hj=>dB g ab
 have nn4:=(cD sm4 ab (tids h2.n ab)).trans nn3
 have hn4:=(cD sm4 ab (tids h.n ab)).trans hn3
 have ht4:=(cD sm4 ab htx).trans ht3
 have oc4:=(cD sm4 ab (tids c ab)).trans oc3
 have rK4:=rK3.same sm4 n4 tid4
 obtain ⟨nS,hnS⟩:∃nS:Av.Obj,nS= .cells [.str (spK R.2),.int .i64 (spP R.2)]:=⟨_,rfl⟩
 have g5:=g4.new nS
 have ln5:(H.new h4 nS).n=h4.n+1:=rfl
 have nn5:(H.new h4 nS).objs h2.n=_:=(aO ab).trans nn4
 have hn5:(H.new h4 nS).objs h.n=_:=(aO ab).trans hn4
 have ht5:(H.new h4 nS).objs tid=_:=(aO ab).trans ht4
 have oc5:(H.new h4 nS).objs c=_:=(aO ab).trans oc4
 have rK5:dD (H.new h4 nS) h1.n K (strs ks) c:=rK4.keep (Nat.le_succ _) (fun j a b _=>aO b) (fun a _ h=>h)
 have ns5:=bZ (h:=h4) (o:=nS)
 have sm5:cI x h (H.new h4 nS):=(sm3.trans sm4 ab).trans cS ab
 have no5:aq h (H.new h4 nS):=aq.trans (aq.trans no3 no4 ab ab) bP ab ab
 unfold lH CP
 refine an.evF xAc ?_
 rw[bB]
 refine an.nil ?_
 refine Wp.le (s':=⟨tm [(0,.ptr tid 0),(1,.int .i64 i),(11,.ptr h.n 0),(12,.ptr h2.n 0),(15,.int .i64 J),(17,.int .i64 (R.1.pg:Nat)),(18,.ptr h4.n 0)],H.new h4 nS⟩) (aM.of (bA ?_) (by rw[hnS];exact OLe.refl _) (fun y hy=>hy) (Nat.le_refl _) (Nat.le_refl _)) ?_
 ·exact xSb
 have n5:h.n≤(H.new h4 nS).n:=by omega
 generalize H.new h4 nS=h5 at*
 rw[hnS] at ns5
 by_cases hA:R.1.pg=u.pg∧R.2=none
 ·obtain ⟨hA1,hA2⟩:=hA
  have e1:decide (((R.1.pg:Nat):Int)=((u.pg:Nat):Int))=true:=decide_eq_true ab
  have e2:decide (spP R.2<0)=true:=by rw[hA2];exact decide_eq_true (by simp[spP])
  refine rf0 (cL nn5 x1 x2 oc5 hgo ns5 e1 e2 @Int.toNat_natCast @Nat.mul_one @Nat.zero_add @and_self) ?_
  refine an.ba (vals:=[]) ae xA4 CB fun q h6 ⟨hq,hh6⟩ n6 _=>?_
  subst hq
  have g6:PgH x s1 T h6:=by rw[hh6];exact g5.new _
  have sm6:cI x h h6:=by rw[hh6];exact sm5.trans cS n5
  have no6:aq h h6:=by rw[hh6];exact aq.trans no5 bP n5 (Nat.le_succ _)
  have hn6:h6.objs h.n=some (.cells [.str [],.int .i64 0]):=by rw[hh6];exact (aO ab).trans hn5
  refine an.evF (xAd hn6) ?_
  refine an.nil ?_
  refine Wp.ret ?_
  have lt:=g.lt
  refine ⟨trivial,.tup [.int .i64 (i:Int),.agg [.str [],.int .i64 (-1)]],?_,s1,R,hQ,?_,?_,.inl ⟨rfl,hA1,hA2,g6.other (j0:=h.n) ab ab⟩⟩
  ·simp[dg,rvs,rv,tm,upd,Av.part,shaped,aR]
  ·intro j hj a1 a2 a3 a4 a5 a6
   have e:(upd h6.objs h.n (some (.cells [.str [],.int .i64 (-1)])):Nat→Option Av.Obj) j=h6.objs j:=by simp only[upd];rw[if_neg ab]
   exact e.trans (sm6 j hj a1 a2 a3 a4 a5 a6)
  ·exact aq.trans no6 (aq.set hn6) ab (Nat.le_refl _)
 ·refine Wp.jK ⟨tm [(0,.ptr tid 0),(1,.int .i64 i),(11,.ptr h.n 0),(12,.ptr h2.n 0),(15,.int .i64 J),(17,.int .i64 (R.1.pg:Nat)),(18,.ptr h4.n 0)],h5⟩ ?_ ?_
  ·by_cases hB:R.1.pg=u.pg
   ·have e1:decide (((R.1.pg:Nat):Int)=((u.pg:Nat):Int))=true:=decide_eq_true ab
    have e2:decide (spP R.2<0)=false:=by
     cases hR:R.2 with
     |none=>exact absurd ⟨hB,hR⟩ hA
     |some q=>exact decide_eq_false (by simp only[spP];omega)
    refine rf0 (cL nn5 x1 x2 oc5 hgo ns5 e1 e2 @Int.toNat_natCast @Nat.mul_one @Nat.zero_add @and_self) ?_
    exact aM.tm (by
     exact xSb
     )
   ·have e1:decide (((R.1.pg:Nat):Int)=((u.pg:Nat):Int))=false:=decide_eq_false ab
    refine rf0 (sU nn5 x1 x2 oc5 hgo ns5 e1 @Int.toNat_natCast @Nat.mul_one @Nat.zero_add @and_self) ?_
    exact aM.tm (by
     exact xSb
     )
  ·have hkL:(bR us).length=us.length:=by simp[bR]
   have x3:J+1≤us.length:=by omega
   refine Wp.bu (xAd (sU nn5 x1 x2 x3 hkL oc5 @Int.toNat_natCast @Nat.mul_one @Nat.zero_add @and_self @kE)) ?_
   refine an.nil ?_
   have hs1:List.take J (ints (bR us))++[AV.int IntKind.i64 ((R.1.pg:Nat):Int)]++List.drop (J+1) (ints (bR us))=ints ((bR us).take J++((R.1.pg:Nat):Int)::(bR us).drop (J+1)):=by simp[ints]
   rw[hs1]
   have hk1l:((bR us).take J++((R.1.pg:Nat):Int)::(bR us).drop (J+1)).length=us.length:=by simp[bR];omega
   have hkk1:∀q,R.2=some q→(((bR us).take J++((R.1.pg:Nat):Int)::(bR us).drop (J+1)).take (J+1)++((q.2.pg:Nat):Int)::((bR us).take J++((R.1.pg:Nat):Int)::(bR us).drop (J+1)).drop (J+1))=bR (nus us J R):=fun q hq=>EA hq hJu
   have hkk0:R.2=none→(bR us).take J++((R.1.pg:Nat):Int)::(bR us).drop (J+1)=bR (nus us J R):=fun hq=>yq hq
   generalize (bR us).take J++((R.1.pg:Nat):Int)::(bR us).drop (J+1)=kI at*
   have hKd:∀a l c',K= .tsl 1 a 0 l c'→h1.n≤a∧a<h2.n∧a≠c:=by
    intro a l c' e
    rcases rK with ⟨-,k2⟩|⟨a',k1,-,k3,k4,k5,-⟩
    ·rw[e] at k2;cases k2
    ·rw[e] at k1;cases k1;exact ⟨k3,k4,k5⟩
   obtain ⟨h6,hh6⟩:∃h6:H,h6= {h5 with objs:=upd h5.objs c (some (.cells (ints kI)))}:=⟨_,rfl⟩
   have c1:∀j,j≠c→h6.objs j=h5.objs j:=fun j hj=>by rw[hh6];simp only[upd];rw[if_neg hj]
   have oc6:h6.objs c=some (.cells (ints kI)):=by rw[hh6];simp[upd]
   have n6:h6.n=h5.n:=by rw[hh6]
   have m6:h6.m=h5.m:=by rw[hh6]
   have g6:PgH x s1 T h6:=by
    rw[hh6]
    exact g5.other ab (by have:=tids c ab;simp only[Tid,ne_eq,eq_comm] at this ⊢;exact this)
   have sm6:cI x h h6:=fun j hj a1 a2 a3 a4 a5 a6=>(c1 j ab).trans (sm5 j hj a1 a2 a3 a4 a5 a6)
   have no6:aq h h6:=by rw[hh6];exact aq.trans no5 (aq.set oc5) n5 (Nat.le_refl _)
   have rK6:dD h6 h1.n K (strs ks) c:=rK5.keep ab (fun j _ _ hj=>c1 j hj) (fun a _ h=>h)
   have nn6:=(c1 h2.n ab).trans nn5
   have hn6:=(c1 h.n ab).trans hn5
   have ht6:=(c1 tid ab).trans ht5
   have ns6:=(c1 h4.n ab).trans ns5
   rw[←hh6]
   refine Wp.le (s':=⟨tm [(0,.ptr tid 0),(1,.int .i64 i),(11,.ptr h.n 0),(12,.ptr h2.n 0),(15,.int .i64 J),(18,.ptr h4.n 0)],h6⟩) (aM.of (bA ?_) (OLe.refl _) (fun y hy=>hy) (Nat.le_refl _) (Nat.le_refl _)) ?_
   ·exact xSb
   clear hh6 c1
   refine Wp.seq (Wp.ex (β:=H × AV × AV) (fun b=>⟨tm [(0,.ptr tid 0),(1,.int .i64 i),(11,.ptr h.n 0),(12,.ptr h2.n 0)],b.1⟩) (fun b=>Ndy x T s1 h tid r (fun k=>decide (h1.n≤k∧k<h2.n)) h2.n (nks ks J R) (bR (nus us J R)) b∧b.1.objs h.n=some (.cells [.str [],.int .i64 0])) ?_ ?_)
   ·cases hR:R.2 with
    |none=>
     have e3:decide (0≤spP R.2)=false:=by rw[hR];exact decide_eq_false (by simp[spP])
     refine rf0 (cj2 ns6 e3) ?_
     refine ⟨(h6,K,.tsl 1 c 0 us.length none),⟨⟨nn6,hKc2,rfl,?_,?_,g6,ht6,sm6,no6,by show h2.n<h6.n;omega,by show h.n≤h6.n;omega⟩,hn6⟩,aM.tm ?_⟩
     ·have e4:nks ks J R=ks:=by unfold nks rk;rw[hR];simp
      rw[e4]
      exact rK6.unD fun a l c' e=>by have:=hKd a l c' e;simpa using ⟨this.1,this.2.1⟩
     ·rw[←hkk0 hR]
      have e5:us.length=(ints kI).length:=by simp[ints,hk1l]
      rw[e5]
      exact yr oc6 (by simpa using ⟨hc1,hc2⟩)
     ·exact xSb
    |some q=>
     have e3:decide (0≤spP R.2)=true:=by rw[hR];exact decide_eq_true (by simp[spP])
     have hkl':ks.length≤1000:=hsm.2.k
     refine Wp.bu (xAd (cj2 ns6 e3)) ?_
     refine an.nil ?_
     refine Wp.cond_true (by simp only[go_sem,reduceIte,Nat.reduceEqDiff,Nat.reduceAdd,bx,e3]) ?_
     refine Wp.seq (Wp.zU ?_)
     refine an.op1 ae (by simp only[go_sem,reduceIte,Nat.reduceEqDiff,Nat.reduceAdd,bx,ax,if_true,if_false,Nat.reduceMul,Nat.reduceLeDiff,nn6,ns6,hKc];exact rfl) ?_
     simp only[bX]
     refine an.op1 ae (by simp only[go_sem,reduceIte,Nat.reduceEqDiff,Nat.reduceAdd,bx,ax,if_true,if_false,Nat.reduceMul,Nat.reduceLeDiff,nn6,ns6,hKc];exact rfl) ?_
     simp only[bX]
     refine an.op1 ae (by simp only[go_sem,reduceIte,Nat.reduceEqDiff,Nat.reduceAdd,bx,ax,if_true,if_false,Nat.reduceMul,Nat.reduceLeDiff,nn6,ns6,hKc];exact rfl) ?_
     simp only[bX]
     refine an.op1 ae (by simp only[go_sem,reduceIte,Nat.reduceEqDiff,Nat.reduceAdd,bx,ax,if_true,if_false,Nat.reduceMul,Nat.reduceLeDiff,nn6,ns6,hKc];exact rfl) ?_
     simp only[bX]
     refine an.op1 ae (by simp only[go_sem,reduceIte,Nat.reduceEqDiff,Nat.reduceAdd,bx,ax,if_true,if_false,Nat.reduceMul,Nat.reduceLeDiff,nn6,ns6,hKc];exact rfl) ?_
     simp only[bX]
     refine an.opT ae (by simp only[gJ,go_sem,reduceIte,Nat.reduceEqDiff,Nat.reduceAdd,bx];exact rfl) ?_
     simp only[bX]
     have q7:∀j,j≠h6.n→(upd h6.objs h6.n (some (.cells (List.flatMap cellsOf [AV.str (spK R.2)]))):Nat→Option Av.Obj) j=h6.objs j:=fun j hj=>by simp only[upd];rw[if_neg hj]
     refine an.ba (vals:=[K,.int .i64 (J:Int),.tsl 1 h6.n 0 1 none]) ae xA4 (Az (c:=c) (n0:=h1.n) (K:=K) (id2:=h6.n) ks J (spK R.2) hj ab (rK6.keep (by simp only;omega) (fun j _ b _=>q7 j ab) (fun a _ h=>h)) (by simp[upd,cellsOf]) fun a e=>by have:=hKd a _ _ e;omega) fun w h7 ⟨hw,l1,l2,l3,a0,ha0,l4⟩ n7 m7=>?_
     subst hw
     simp only at l1 l2 l3
     have l4:∀j,h7.objs j=if j=a0 then none else (upd h6.objs h6.n (some (.cells (List.flatMap cellsOf [AV.str (spK R.2)]))):Nat→Option Av.Obj) j:=l4
     have p7:∀j,j<h6.n→(∀l c',K≠ .tsl 1 j 0 l c')→h7.objs j=h6.objs j:=fun j hj hn=>by
      rw[l4 j,if_neg,q7 j ab]
      rintro rfl
      rcases ha0 with e|e
      ·exact hn _ _ e
      ·omega
     have nn7:=(p7 h2.n ab (fun l c' e=>by have:=hKd _ _ _ e;omega)).trans nn6
     have ns7:=(p7 h4.n ab (fun l c' e=>by have:=hKd _ _ _ e;omega)).trans ns6
     have oc7:=(p7 c ab (fun l c' e=>by have:=hKd _ _ _ e;omega)).trans oc6
     have hn7:=(p7 h.n ab (fun l c' e=>by have:=hKd _ _ _ e;omega)).trans hn6
     have ht7:=(p7 tid ab (fun l c' e=>by have:=hKd _ _ _ e;omega)).trans ht6
     have f7:∀j,h7.n≤j→h7.objs j=none:=fun j hj=>by
      rw[l4 j]
      split
      ·rfl
      ·rw[q7 j ab];exact g6.fresh j ab
     have g7:PgH x s1 T h7:=g6.at (fun j hj=>by
      have hj2:j<h.n:=by
       rcases Nat.lt_or_ge j h.n with e|e
       ·exact e
       ·exact absurd (dB g e) hj
      exact p7 j ab (fun l c' e=>by have:=hKd _ _ _ e;omega)) ab f7 l3 ab
     have o7:∀j,(h7.objs j).isSome=true→(h6.objs j).isSome=true∨j=h6.n:=fun j hj=>by
      rw[l4 j] at hj
      split at hj
      ·cases hj
      ·by_cases e:j=h6.n
       ·exact .inr e
       ·rw[q7 j e] at hj;exact .inl hj
     refine an.evF (xAd nn7) ?_
     refine an.nil ?_
     have hpk:ks.take J++spK R.2::ks.drop J=nks ks J R:=by unfold nks rk spK;rw[hR];rfl
     rw[hpk]
     obtain ⟨h8,hh8⟩:∃h8:H,h8= {h7 with objs:=upd h7.objs h2.n (some (.cells [.bool false,.sl 1 (strs (nks ks J R)) .any,.sl 1 [] (.exact 0),.tsl 1 c 0 us.length none]))}:=⟨_,rfl⟩
     have c8:∀j,j≠h2.n→h8.objs j=h7.objs j:=fun j hj=>by rw[hh8];simp only[upd];rw[if_neg hj]
     have nn8:h8.objs h2.n=some (.cells [.bool false,.sl 1 (strs (nks ks J R)) .any,.sl 1 [] (.exact 0),.tsl 1 c 0 us.length none]):=by rw[hh8];simp[upd]
     have n8:h8.n=h7.n:=by rw[hh8]
     have g8:PgH x s1 T h8:=by
      rw[hh8]
      exact g7.other ab (by have:=tids h2.n ab;simp only[Tid,ne_eq,eq_comm] at this ⊢;exact this)
     rw[←hh8]
     refine Wp.le (s':=⟨tm [(0,.ptr tid 0),(1,.int .i64 i),(11,.ptr h.n 0),(12,.ptr h2.n 0),(15,.int .i64 J),(18,.ptr h4.n 0)],h8⟩) (aM.of (bA ?_) (OLe.refl _) (fun y hy=>hy) (Nat.le_refl _) (Nat.le_refl _)) ?_
     ·exact xSb
     clear hh8
     have wJ:IntKind.i64.wrap ((J:Int)+1)=((J+1:Nat):Int):=by rw[IntWalk.i64_in _ ab];rfl
     have ns8:=(c8 h4.n ab).trans ns7
     refine Wp.zU ?_
     refine an.op1 ae (by simp only[go_sem,reduceIte,Nat.reduceEqDiff,Nat.reduceAdd,bx,ax,if_true,if_false,Nat.reduceMul,Nat.reduceLeDiff,nn8,ns8,wJ];exact rfl) ?_
     simp only[bX]
     refine an.op1 ae (by simp only[go_sem,reduceIte,Nat.reduceEqDiff,Nat.reduceAdd,bx,ax,if_true,if_false,Nat.reduceMul,Nat.reduceLeDiff,nn8,ns8,wJ];exact rfl) ?_
     simp only[bX]
     refine an.op1 ae (by simp only[go_sem,reduceIte,Nat.reduceEqDiff,Nat.reduceAdd,bx,ax,if_true,if_false,Nat.reduceMul,Nat.reduceLeDiff,nn8,ns8,wJ];exact rfl) ?_
     simp only[bX]
     refine an.op1 ae (by simp only[go_sem,reduceIte,Nat.reduceEqDiff,Nat.reduceAdd,bx,ax,if_true,if_false,Nat.reduceMul,Nat.reduceLeDiff,nn8,ns8,wJ];exact rfl) ?_
     simp only[bX]
     refine an.op1 ae (by simp only[go_sem,reduceIte,Nat.reduceEqDiff,Nat.reduceAdd,bx,ax,if_true,if_false,Nat.reduceMul,Nat.reduceLeDiff,nn8,ns8,wJ];exact rfl) ?_
     simp only[bX]
     refine an.op1 ae (by simp only[go_sem,reduceIte,Nat.reduceEqDiff,Nat.reduceAdd,bx,ax,if_true,if_false,Nat.reduceMul,Nat.reduceLeDiff,nn8,ns8,wJ];exact rfl) ?_
     simp only[bX]
     refine an.opT ae (by simp only[gJ,go_sem,reduceIte,Nat.reduceEqDiff,Nat.reduceAdd,bx];exact rfl) ?_
     simp only[bX]
     have q8:∀j,j≠h8.n→(upd h8.objs h8.n (some (.cells (List.flatMap cellsOf [AV.int .i64 (spP R.2)]))):Nat→Option Av.Obj) j=h8.objs j:=fun j hj=>by simp only[upd];rw[if_neg hj]
     have hio:=AA (h:=⟨upd h8.objs h8.n (some (.cells (List.flatMap cellsOf [AV.int .i64 (spP R.2)]))),h8.n+1,h8.toks,h8.m⟩) (c:=c) (id2:=h8.n) kI (J+1) (spP R.2) ab ab ab ((q8 c ab).trans ((c8 c ab).trans oc7)) (by simp[upd,cellsOf]) ab
     rw[hk1l] at hio
     refine an.ba (vals:=[.tsl 1 c 0 us.length none,.int .i64 ((J+1:Nat):Int),.tsl 1 h8.n 0 1 none]) ae xA4 hio fun w h9 ⟨hw,l5,l6,l7,b0,hb0,l8⟩ n9 m9=>?_
     subst hw hb0
     simp only at l5 l6 l7
     have l8:∀j,h9.objs j=if j=b0 then none else (upd h8.objs h8.n (some (.cells (List.flatMap cellsOf [AV.int .i64 (spP R.2)]))):Nat→Option Av.Obj) j:=l8
     have p9:∀j,j<h8.n→j≠b0→h9.objs j=h8.objs j:=fun j hj hn=>by rw[l8 j,if_neg hn,q8 j ab]
     have nn9:=(p9 h2.n ab ab).trans nn8
     have f9:∀j,h9.n≤j→h9.objs j=none:=fun j hj=>by
      rw[l8 j]
      split
      ·rfl
      ·rw[q8 j ab];exact g8.fresh j ab
     have g9:PgH x s1 T h9:=g8.at (fun j hj=>by
      have hj2:j<h.n:=by
       rcases Nat.lt_or_ge j h.n with e|e
       ·exact e
       ·exact absurd (dB g e) hj
      exact p9 j ab ab) ab f9 l7 ab
     refine an.evF (xAd nn9) ?_
     refine an.nil ?_
     have hpp:kI.take (J+1)++spP R.2::kI.drop (J+1)=bR (nus us J R):=by rw[←hkk1 q hR,hR];rfl
     rw[hpp]
     have cA:∀j,j≠h2.n→(upd h9.objs h2.n (some (.cells [.bool false,.sl 1 (strs (nks ks J R)) .any,.sl 1 [] (.exact 0),.sl 1 (ints (bR (nus us J R))) .any])):Nat→Option Av.Obj) j=h9.objs j:=fun j hj=>by simp only[upd];rw[if_neg hj]
     have pA:∀j,j<h1.n→j≠b0→(upd h9.objs h2.n (some (.cells [.bool false,.sl 1 (strs (nks ks J R)) .any,.sl 1 [] (.exact 0),.sl 1 (ints (bR (nus us J R))) .any])):Nat→Option Av.Obj) j=h6.objs j:=fun j hj hn=>(cA j ab).trans ((p9 j ab hn).trans ((c8 j ab).trans (p7 j ab (fun l c' e=>by have:=hKd _ _ _ e;omega))))
     refine ⟨(⟨upd h9.objs h2.n (some (.cells [.bool false,.sl 1 (strs (nks ks J R)) .any,.sl 1 [] (.exact 0),.sl 1 (ints (bR (nus us J R))) .any])),h9.n,h9.toks,h9.m⟩,.sl 1 (strs (nks ks J R)) .any,.sl 1 (ints (bR (nus us J R))) .any),⟨⟨by simp[upd],rfl,rfl,by simp only[unT];exact av.refl _,by simp only[unT];exact av.refl _,?_,(pA tid ab ab).trans ht6,?_,?_,by show h2.n<h9.n;omega,by show h.n≤h9.n;omega⟩,(pA h.n ab ab).trans hn6⟩,aM.tm ?_⟩
     ·exact g9.other ab (by have:=tids h2.n ab;simp only[Tid,ne_eq,eq_comm] at this ⊢;exact this)
     ·exact fun j hj a1 a2 a3 a4 a5 a6=>(pA j ab ab).trans (sm6 j hj a1 a2 a3 a4 a5 a6)
     ·refine aq.trans (fun j hj=>?_) (aq.set nn9) (show h.n≤h9.n by omega) (Nat.le_refl _)
      by_cases e1:j=h8.n
      ·exact .inr ⟨ab,ab⟩
      ·rw[l8 j] at hj
       split at hj
       ·cases hj
       ·rw[q8 j e1] at hj
        by_cases e2:j=h2.n
        ·exact .inr ⟨ab,ab⟩
        ·rw[c8 j e2] at hj
         rcases o7 j hj with e|e
         ·exact (no6 j e).imp id fun z=>⟨z.1,ab⟩
         ·exact .inr ⟨ab,ab⟩
     ·exact xSb
   ·rintro b s' ⟨nd,hnb⟩ le
    refine Wp.le le ?_
    have hdK:∀k,decide (h1.n≤k∧k<h2.n)=true→h.n≤k∧k<h2.n:=fun k hk=>by
     have:=of_decide_eq_true hk
     omega
    have d1:decide (h1.n≤tid∧tid<h2.n)=false:=decide_eq_false ab
    have d2:decide (h1.n≤h.n∧h.n<h2.n)=false:=decide_eq_false ab
    have d3:decide (h1.n≤h2.n∧h2.n<h2.n)=false:=decide_eq_false ab
    obtain ⟨h8,le8,nn8,g8,ht8,sm8,no8,n8,k8⟩:=nd.go (l:=[(0,.ptr tid 0),(1,.int .i64 i),(11,.ptr h.n 0),(12,.ptr h2.n 0)]) (t:=tm [(0,.ptr tid 0),(1,.int .i64 i),(11,.ptr h.n 0),(12,.ptr h2.n 0)]) g hdK hlt ab (by
     simp only[bg,go_sem,reduceIte,Nat.reduceEqDiff,unT,d1,d2,d3,Bool.false_eq_true,if_false]
     exact ⟨av.refl _,av.refl _,av.refl _,av.refl _,trivial⟩) (by
     exact xSb
     )
    refine Wp.le le8 ?_
    have hn8:h8.objs h.n=some (.cells [.str [],.int .i64 0]):=(k8 h.n (by simpa using d2) ab).trans hnb
    have nb:=nd.ln
    unfold aC at nn8
    refine rf0 nn8 ?_
    refine an.ba (vals:=[.ptr tid 0,.int .i64 (i:Int),aD (au L (nks ks J R) (nus us J R))]) ae xA4 (hst s1 R h8 hQ g8 ht8 hA) fun q h9 ⟨s2,R2,hq,g9,sm9,no9,hQ2⟩ n9 _=>?_
    subst hq
    have hn9:=(cD sm9 ab (tids h.n (Nat.le_refl _))).trans hn8
    unfold lH CP
    refine an.evF (xAd hn9) ?_
    refine an.nil ?_
    refine Wp.ret ?_
    have lt:=g.lt
    refine ⟨trivial,.tup [.int .i64 (R2.1.pg:Nat),.agg [.str (spK R2.2),.int .i64 (spP R2.2)]],?_,s1,R,hQ,?_,?_,.inr ⟨hA,s2,R2,rfl,g9.other (j0:=h.n) ab ab,hQ2⟩⟩
    ·simp[dg,rvs,rv,tm,upd,Av.part,shaped,aR]
    ·intro j hj a1 a2 a3 a4 a5 a6
     have e:(upd h9.objs h.n (some (.cells [.str (spK R2.2),.int .i64 (spP R2.2)])):Nat→Option Av.Obj) j=h9.objs j:=by simp only[upd];rw[if_neg ab]
     exact e.trans ((sm8.trans sm9 ab) j hj a1 a2 a3 a4 a5 a6)
    ·exact aq.trans (aq.trans no8 no9 ab n9) (aq.set hn9) ab (Nat.le_refl _)
end
theorem gC {L:Nat} {ks:List Bs} {us:List (Tr L)} {key:Bs} (h:right (au L ks us)=true):(∀k∈ks.take (place (au L ks us) key),Le k key)∧(∀k∈ks.drop (place (au L ks us) key),Lt key k)∧place (au L ks us) key≤ks.length:=by
 obtain ⟨r1,-⟩:=(cR (n:=au L ks us) rfl).1 h
 have r1:mQ ks:=r1
 have hp:place (au L ks us) key=ks.findIdx (iP key):=uG rfl key
 rw[hp]
 refine ⟨fun k hk=>?_,fun k hk=>?_,List.findIdx_le_length⟩
 ·obtain ⟨j,h1,h2,rfl⟩:=kz hk
  rcases B7 (jR h1) with e|e
  ·exact lG e
  ·rw[e];exact le_rfl
 ·obtain ⟨j,h1,h2,rfl⟩:=iQ hk
  exact Ac (pR (pS ((il ks).2 r1) key) h1 h2)
theorem sf {L:Nat} {lo:Bs} {hi:Option Bs} {R:Res L} (h:qo L lo hi R):bJ (WF L) lo hi (rk R.2) (rt R):=by
 unfold qo at h
 unfold rk rt
 cases hR:R.2 with
 |none=>rw[hR] at h;exact h
 |some q=>rw[hR] at h;exact ⟨h.1,h.2.1⟩
theorem EB {L:Nat} {α:Type} (f:Tr L→List α) (R:Res L):((rt R).map f).flatten=f R.1++more f R.2:=by
 unfold rt more
 cases R.2<;>simp
theorem vb {L:Nat} {α:Type} (f:Tr L→List α) (us:List (Tr L)) (j:Nat) (R:Res L):((nus us j R).map f).flatten=((us.take j).map f).flatten++((f R.1++more f R.2)++((us.drop (j+1)).map f).flatten):=by
 unfold nus
 rw[List.map_append,List.flatten_append,List.map_append,List.flatten_append,EB]
theorem nU {L:Nat} {lo:Bs} {hi:Option Bs} {ks:List Bs} {us:List (Tr L)} {j:Nat} {R:Res L} (hw:bJ (WF L) lo hi ks us) (hr:right (au L ks us)=true) (hz:size (au L ks us)≤1024) (hj:j≤ks.length) (hR:qo L (dQ lo ks j) (eV hi ks j) R) (hp:∀u∈us,u.pg<16384) (hp2:∀u∈rt R,u.pg<16384):
  bJ (WF L) lo hi (nks ks j R) (nus us j R)∧right (au L (nks ks j R) (nus us j R))=true∧size (au L (nks ks j R) (nus us j R))≤1157∧(R.2=none→size (au L (nks ks j R) (nus us j R))≤1024):=by
 obtain ⟨u,-,-,hc⟩:=hw.at hj
 have c:=hc _ _ (sf hR)
 have hk128:∀q,R.2=some q→q.1.length≤128:=fun q hq=>by
  unfold qo at hR
  rw[hq] at hR
  exact hR.2.2.2.2
 obtain ⟨r1,-⟩:=(cR (n:=au L ks us) rfl).1 hr
 have r1:mQ ks:=r1
 refine ⟨c,iz c (fun k hk=>?_) (fun v hv=>?_),?_,fun hn=>?_⟩
 ·unfold nks rk at hk
  simp only[List.mem_append] at hk
  rcases hk with hk|hk|hk
  ·exact r1.1 k (List.mem_of_mem_take hk)
  ·cases hq:R.2 with
   |none=>rw[hq] at hk;simp at hk
   |some q=>
    rw[hq] at hk
    simp only[List.mem_singleton] at hk
    subst hk
    exact hk128 q hq
  ·exact r1.1 k (List.mem_of_mem_drop hk)
 ·unfold nus at hv
  simp only[List.mem_append] at hv
  rcases hv with hv|hv|hv
  ·exact hp v (List.mem_of_mem_take hv)
  ·exact hp2 v hv
  ·exact hp v (List.mem_of_mem_drop hv)
 ·have e:size (au L (nks ks j R) (nus us j R))=7+5*(nks ks j R).length+tot (nks ks j R):=rfl
  have e0:size (au L ks us)=7+5*ks.length+tot ks:=rfl
  have e1:=fE ks j
  rw[e]
  unfold nks rk
  cases hq:R.2 with
  |none=>
   simp only[List.nil_append]
   rw[List.take_append_drop];omega
  |some q=>
   have:=hk128 q hq
   simp only[fx,List.length_append,List.length_take,List.length_drop,List.length_singleton]
   have e2:tot [q.1]=q.1.length:=by simp[tot]
   rw[e2]
   omega
 ·have e:size (au L (nks ks j R) (nus us j R))=7+5*(nks ks j R).length+tot (nks ks j R):=rfl
  have e0:size (au L ks us)=7+5*ks.length+tot ks:=rfl
  have e2:nks ks j R=ks:=by unfold nks rk;rw[hn];simp
  rw[e,e2,←e0];exact hz
theorem CU {α:Type} (f:α→Nat) {us:List α} {j:Nat} {u:α} (h:us[j]? =some u) (vs:List α):((us.take j++(vs++us.drop (j+1))).map f).sum+f u=(us.map f).sum+(vs.map f).sum:=by
 obtain ⟨hj,rfl⟩:=List.getElem?_eq_some_iff.1 h
 have e:us=us.take j++us[j]::us.drop (j+1):=by rw[←List.drop_eq_getElem_cons hj,List.take_append_drop]
 have e2:(us.map f).sum=((us.take j).map f).sum+(f us[j]+((us.drop (j+1)).map f).sum):=by
  conv=>lhs;rw[e]
  rw[List.map_append,List.sum_append,List.map_cons,List.sum_cons]
 rw[e2,List.map_append,List.sum_append,List.map_append,List.sum_append]
 omega
theorem FZ {L:Nat} (f:Tr L→Nat) (R:Res L):((rt R).map f).sum=iF f R:=by
 unfold rt iF
 cases R.2<;>simp
theorem yt {L:Nat} (f:Tr L→Nat) {us:List (Tr L)} {j:Nat} {u:Tr L} (h:us[j]? =some u) (R:Res L):((nus us j R).map f).sum+f u=(us.map f).sum+iF f R:=by
 unfold nus
 rw[CU f h,FZ]
theorem fp {L j:Nat} (t:Tr (L+1)):fh (L+1) j t=if j=L+1 then 1 else ((t.kids:List (Tr L)).map (fh L j)).sum:=rfl
theorem gu {L j:Nat} (t:Tr (L+1)):exT (L+1) j t=if j=L+1 then (t.kids:List (Tr L)).length - 5 else ((t.kids:List (Tr L)).map (exT L j)).sum:=rfl
theorem EC {α:Type} (a b:List α):(a++b).length=a.length+b.length:=by simp
theorem vc {α:Type} (f:α→Nat) (a b:List α):((a++b).map f).sum=(a.map f).sum+(b.map f).sum:=by simp
theorem sg {L:Nat} (f:Tr L→Nat) {R2:Res (L+1)} {us:List (Tr L)} (h:R2.1.kids++more Nd.kids R2.2=us):iF (fun t:Tr (L+1)=>((t.kids:List (Tr L)).map f).sum) R2=(us.map f).sum:=by
 rw[←h]
 obtain ⟨t1,o⟩:=R2
 cases o with
 |none=>simp[iF,more]
 |some q=>
  exact (vc f (α:=Tr L) t1.kids q.2.kids).symm
theorem CV {L:Nat} {ks:List Bs} {us:List (Tr L)} {i j:Nat} {u:Tr L} {R:Res L} {R2:Res (L+1)} (hu:us[j]? =some u) (hp:Pot L u R) (hk:R2.1.kids++more Nd.kids R2.2=nus us j R)
  (hc:∀q,R2.2=some q→R.2≠none∧2≤R2.1.kids.length∧2≤q.2.kids.length∧9≤R2.1.kids.length+q.2.kids.length):Pot (L+1) ⟨i,ks,us⟩ R2:=by
 obtain ⟨e,p0,p1,p2,p3,p4⟩:=hp
 have hju:j<us.length:=(List.getElem?_eq_some_iff.1 hu).1
 have hlen:(nus us j R).length=us.length+e L:=by
  unfold nus rt
  cases hR:R.2 with
  |none=>rw[p1 hR];simp;omega
  |some q=>rw[p2 q hR];simp;omega
 refine ⟨fun k=>if k=L+1 then (if R2.2.isSome then 1 else 0) else e k,fun k=>?_,fun hn=>?_,fun q hq=>?_,fun k hk'=>?_,fun k hk'=>?_⟩
 ·simp only
  split
  ·split<;>omega
  ·exact p0 k
 ·simp[hn]
 ·simp[hq]
 ·by_cases ek:k=L+1
  ·subst ek
   simp only[if_true]
   have:iF (fh (L+1) (L+1)) R2=1+(if R2.2.isSome then 1 else 0):=by
    obtain ⟨t1,o⟩:=R2
    cases o<;>simp[iF,fp]
   rw[this,fp]
   simp
  ·have e1:iF (fh (L+1) k) R2=iF (fun t:Tr (L+1)=>((t.kids:List (Tr L)).map (fh L k)).sum) R2:=by
    obtain ⟨t1,o⟩:=R2
    cases o<;>simp[iF,fp,ek]
   rw[e1,sg _ hk,fp]
   simp only[ek,if_false]
   have:=yt (fh L k) hu R
   have:=p3 k ab
   omega
 ·have h1:¬(k=L+1):=by omega
  simp only[h1,if_false]
  by_cases ek:k+1=L+1
  ·obtain rfl:k=L:=by omega
   simp only[if_true]
   have hl:R2.1.kids.length+(match R2.2 with|none=>0|some q=>q.2.kids.length)=us.length+e k:=by
    rw[←hlen,←hk]
    obtain ⟨t1,o⟩:=R2
    cases o with
    |none=>exact (congrArg (@List.length (Tr k)) (List.append_nil (α:=Tr k) t1.kids)).symm
    |some q=>exact (EC (α:=Tr k) t1.kids q.2.kids).symm
   have p0k:=p0 k
   rw[gu]
   simp only[if_true]
   obtain ⟨t1,o⟩:=R2
   cases o with
   |none=>
    simp only[iF,gu,if_true,Option.isSome_none,Bool.false_eq_true,if_false]
    have hl: @List.length (Kid (k+1)) t1.kids=us.length+e k:=hl
    show 2*0+(@List.length (Kid (k+1)) t1.kids - 5+0)≤us.length - 5+e k
    omega
   |some q=>
    obtain ⟨c1,c2,c3,c4⟩:=hc q rfl
    have ek1:e k=1:=by
     cases hR:R.2 with
     |none=>exact absurd hR c1
     |some q'=>exact p2 q' hR
    simp only[iF,gu,if_true,Option.isSome_some]
    have hl: @List.length (Kid (k+1)) t1.kids+ @List.length (Kid (k+1)) q.2.kids=us.length+e k:=hl
    have c2:2≤ @List.length (Kid (k+1)) t1.kids:=c2
    have c3:2≤ @List.length (Kid (k+1)) q.2.kids:=c3
    have c4:9≤ @List.length (Kid (k+1)) t1.kids+ @List.length (Kid (k+1)) q.2.kids:=c4
    show 2*1+(@List.length (Kid (k+1)) t1.kids - 5+(@List.length (Kid (k+1)) q.2.kids - 5))≤us.length - 5+e k
    omega
  ·have h2:¬(k+1=L+1):=ek
   have e1:iF (exT (L+1) (k+1)) R2=iF (fun t:Tr (L+1)=>((t.kids:List (Tr L)).map (exT L (k+1))).sum) R2:=by
    obtain ⟨t1,o⟩:=R2
    cases o<;>simp only[iF,gu,h2,if_false]
   rw[e1,sg _ hk,gu]
   simp only[h2,if_false]
   have:=yt (exT L (k+1)) hu R
   have:=p4 k ab
   omega
structure Live (s:PgS) (L:Nat) (lo:Bs) (hi:Option Bs) (t:Tr L):Prop where
 on:On s L t
 wf:WF L lo hi t
 nd:(aW L t).Nodup
 st:∀j∈aW L t,(stt s j=1∨stt s j=2)∧j<s.np
theorem CW {L:Nat} {R:Res L} {u:Tr L} (h:u∈rt R):u.pg∈cy L R:=by
 unfold rt at h
 unfold cy more
 obtain ⟨t1,o⟩:=R
 cases o with
 |none=>
  simp only[List.mem_singleton] at h
  subst h
  simp[aW]
 |some q=>
  simp only[List.mem_cons,List.not_mem_nil,or_false] at h
  rcases h with rfl|rfl
  ·simp[aW]
  ·simp[aW]
theorem F3 {s:PgS} {L:Nat} {lo:Bs} {hi:Option Bs} {t:Tr L} {ps:List Pr} {R:Res L} (h:Ez L lo hi t ps s R):∀u∈rt R,On s L u:=by
 intro u hu
 unfold rt at hu
 have h1:=h.on
 have h2:=h.on2
 obtain ⟨t1,o⟩:=R
 cases o with
 |none=>simp only[List.mem_singleton] at hu;subst hu;exact h1
 |some q=>
  simp only[List.mem_cons,List.not_mem_nil,or_false] at hu
  rcases hu with rfl|rfl
  ·exact h1
  ·exact h2 q rfl
def mkT (L:Nat) (i:Nat) (ks:List Bs) (us:List (Tr L)):Tr (L+1):=Nd.mk (α:=Kid (L+1)) i ks us
theorem gg {L:Nat} {i:Nat} {ks:List Bs} {us:List (Tr L)} {k:Nat} {u:Tr L} (hu:us[k]? =some u):aW (L+1) (mkT L i ks us)=i::(((us.take k).map (aW L)).flatten++(aW L u++((us.drop (k+1)).map (aW L)).flatten)):=by
 show i::bp (L+1) us=_
 rw[eW,ng hu]
theorem ED {L:Nat} {us:List (Tr L)} {k:Nat} {R:Res L}:bp (L+1) (nus us k R)=((us.take k).map (aW L)).flatten++(cy L R++((us.drop (k+1)).map (aW L)).flatten):=by
 rw[eW,vb];rfl
theorem gD {L:Nat} {us:List (Tr L)} {u:Tr L} (h:u∈us):∀j∈aW L u,j∈(us.map (aW L)).flatten:=fun j hj=>List.mem_flatten.2 ⟨_,List.mem_map.2 ⟨u,h,rfl⟩,hj⟩
structure Mid (s s1:PgS) (i:Nat) (A C P P':List Nat):Prop where
 mv:Mv s s1 (fun j=>j∈i::(A++(P++C))) (fun j=>j∈i::(A++(P'++C)))
 nd:(i::(A++(P'++C))).Nodup
 bt:∀j,j=i∨j∈A∨j∈C→stt s1 j=stt s j∧bts s1 j=bts s j
 st:∀j∈i::(A++(P'++C)),(stt s1 j=1∨stt s1 j=2)∧j<s.np
theorem nV {s s1:PgS} {i:Nat} {A C P P':List Nat} (m:Mv s s1 (fun j=>j∈P) (fun j=>j∈P')) (hn:(i::(A++(P++C))).Nodup) (hr:P'.Nodup) (hs:∀j∈i::(A++(P++C)),(stt s j=1∨stt s j=2)∧j<s.np):Mid s s1 i A C P P':=by
 have hd:∀j,(j=i∨j∈A∨j∈C)→¬j∈P:=by
  intro j hj hp
  simp only[List.nodup_cons,List.nodup_append,List.mem_append,not_or] at hn
  rcases hj with rfl|hj|hj
  ·exact hn.1.2.1 hp
  ·exact hn.2.2.2 j hj j (.inl hp) rfl
  ·exact hn.2.2.1.2.2 j hp j hj rfl
 have hq:∀j,(j=i∨j∈A∨j∈C)→stt s j≠0:=by
  intro j hj
  have:=hs j (by simp only[List.mem_cons,List.mem_append];rcases hj with a|a|a<;>simp[a])
  omega
 have ap:=m.apart (Q:=fun j=>j=i∨j∈A∨j∈C) hd hq
 have mm:=m.ext (Q:=fun j=>j=i∨j∈A∨j∈C) hd hq
 refine ⟨mm.congr (fun j=>?_) (fun j=>?_),?_,fun j hj=>(ap j hj).2,fun j hj=>?_⟩
 ·simp only[List.mem_cons,List.mem_append]
  constructor
  ·rintro (a|a|a|a)<;>simp[a]
  ·rintro (a|a|a|a)<;>simp[a]
 ·simp only[List.mem_cons,List.mem_append]
  constructor
  ·rintro (a|a|a|a)<;>simp[a]
  ·rintro (a|a|a|a)<;>simp[a]
 ·simp only[List.nodup_cons,List.nodup_append,List.mem_append,not_or] at hn ⊢
  refine ⟨⟨hn.1.1,(ap i (.inl rfl)).1,hn.1.2.2⟩,hn.2.1,⟨hr,hn.2.2.1.2.1,fun a ha b hb e=>?_⟩,fun a ha b hb e=>?_⟩
  ·subst e;exact (ap a (.inr (.inr hb))).1 ha
  ·subst e
   rcases hb with hb|hb
   ·exact (ap a (.inr (.inl ha))).1 hb
   ·exact hn.2.2.2 a ha a (.inr hb) rfl
 ·simp only[List.mem_cons,List.mem_append] at hj
  have key:(j=i∨j∈A∨j∈C)∨j∈P':=by
   rcases hj with a|a|a|a<;>simp[a]
  rcases key with a|a
  ·have q:=(ap j a).2.1
   have:=hs j (by simp only[List.mem_cons,List.mem_append];rcases a with a|a|a<;>simp[a])
   omega
  ·by_cases b:j∈P
   ·have q:=m.stay j a b
    have:=hs j (by simp[b])
    omega
   ·have q:=m.new j a b
    omega
section
variable {x:PgI} {T:List Nat}
theorem vd {L:Nat} {us:List (Tr L)} {k:Nat} {u:Tr L} {R:Res L} (hu:us[k]? =some u) (h1:R.1.pg=u.pg) (h2:R.2=none) (ks:List Bs):au L ks (nus us k R)=au L ks us:=by
 obtain ⟨hk,rfl⟩:=List.getElem?_eq_some_iff.1 hu
 have e:us=us.take k++us[k]::us.drop (k+1):=by rw[←List.drop_eq_getElem_cons hk,List.take_append_drop]
 unfold au
 congr 1
 unfold nus rt
 rw[h2]
 conv=>rhs;rw[e]
 rw[List.map_append,List.map_append,List.map_append,List.map_cons,List.map_cons,h1]
 rfl
def CX (x:PgI) (T:List Nat) (L:Nat) (t:Tr L) (lo:Bs) (hi:Option Bs) (s:PgS) (h:H) (tid d:Nat) (r:Int) (key vl:Bs):Prop:=
 PgH x s T h→cu s→h.objs tid=some (trO x r)→Tid x tid→Live s L lo hi t→inB lo hi key→key.length≤128→vl.length≤200→d+L≤20→2*(L+1)≤free s→s.p.length+16*(L+1)<900000→
  aJ Tryz.prog 56 [.ptr tid 0,.int .i64 (t.pg:Nat),.int .i64 (d:Nat),.str key,.str vl] h fun q h'=>∃s' R,q=lH R∧Stp x T s h (fun j=>j∈aW L t) (fun j=>j∈cy L R) (2*(L+1)) s' h'∧Ez L lo hi t (gf (aP L t) key vl) s' R
theorem AJ {L:Nat} {i:Nat} {ks:List Bs} {us:List (Tr L)} {lo:Bs} {hi:Option Bs} {s:PgS} {h:H} {tid d:Nat} {r:Int} {key vl:Bs} (ih:∀(u:Tr L) lo hi h,CX x T L u lo hi s h tid (d+1) r key vl):CX x T (L+1) (mkT L i ks us) lo hi s h tid d r key vl:=by
  intro g ok ht htx lv hb hk hv hd hf hp
  obtain ⟨hr,hz,hw⟩:=lv.wf
  have hw:bJ (WF L) lo hi ks us:=hw
  have hr:right (au L ks us)=true:=hr
  have hz:size (au L ks us)≤1024:=hz
  obtain ⟨hs,hi'⟩:=lv.st i (by show i∈i::bp (L+1) us;simp)
  obtain ⟨pa1,pa2,pa3⟩:=gC (key:=key) hr
  obtain ⟨u,hu,wu,-⟩:=hw.at pa3
  obtain ⟨cp1,cp2,cp3⟩:=iR hw hb _ pa3 pa1 pa2
  have hum:u∈us:=List.mem_of_getElem? hu
  have hpg:=gg (i:=i) (ks:=ks) hu
  have hnd:=lv.nd
  have hst:=lv.st
  rw[hpg] at hnd hst
  have hpr:aP (L+1) (mkT L i ks us)=((us.take (place (au L ks us) key)).map (aP L)).flatten++(aP L u++((us.drop (place (au L ks us) key+1)).map (aP L)).flatten):=ng (f:=aP L) hu
  have hon:∀u∈us,On s L u:=dL.1 lv.on.2
  have lu:Live s L (dQ lo ks (place (au L ks us) key)) (eV hi ks (place (au L ks us) key)) u:=by
   refine ⟨hon u hum,wu,?_,fun j hj=>hst j (by simp[hj])⟩
   simp only[List.nodup_cons,List.nodup_append] at hnd
   exact hnd.2.2.1.1
  have hpA:∀v∈us,v.pg<16384:=fun v hv=>by
   have:=(lv.st v.pg (by
    show v.pg∈i::bp (L+1) us
    exact List.mem_cons_of_mem _ (gD hv _ (by simp[aW])))).2
   have:=ok.np1
   omega
  have hH:Has s i (au L ks us):=lv.on.1
  have W:=CT (val:=vl) (Q:=fun s1 R=>cu s1∧Mv s s1 (fun j=>j∈aW L u) (fun j=>j∈cy L R)∧free s≤free s1+2*(L+1)∧s1.p.length≤s.p.length+8*(2*(L+1))∧Ez L (dQ lo ks (place (au L ks us) key)) (eV hi ks (place (au L ks us) key)) u (gf (aP L u) key vl) s1 R)
   (Q2:=fun s1 R s2 R2=>cu s2∧Mv s1 s2 (fun j=>j=i) (top R2)∧free s1≤free s2+2∧s2.p.length≤s1.p.length+16∧Std (L+1) lo hi (nks ks (place (au L ks us) key) R) (nus us (place (au L ks us) key) R) s2 R2) g ok ht htx hi' hs hH hr hz hu pa3 ab ab
   (fun h1 g1 ht1=>(ih u _ _ h1 g1 ok ht1 htx lu cp3 hk hv ab ab ab).mono fun q h' ⟨s1,R,e,st,pr⟩=>⟨s1,R,e,st.pg,st.sm,st.no,st.ok,st.mv,st.fr,st.pl,pr⟩)
   (fun s1 R h1 ⟨o1,o2,o3,o4,o5⟩ g1 ht1 hne=>by
    have md:=nV o2 hnd o5.nd hst
    have hp2:∀v∈rt R,v.pg<16384:=fun v hv=>by
     have:=(md.st v.pg (by simp[CW hv])).2
     have:=ok.np1
     omega
    obtain ⟨c1,c2,c3,c4⟩:=nU hw hr hz pa3 o5.wf hpA hp2
    have e1:=(md.bt i (.inl rfl)).1
    have e2:=o2.np
    exact (yp (L:=L+1) (lo:=lo) (hi:=hi) (ks:=nks ks (place (au L ks us) key) R) (kids:=nus us (place (au L ks us) key) R) g1 o1 ht1 htx ab ab c2 c3 c1 ab ab).mono fun q h' ⟨s2,R2,e,st,sd⟩=>⟨s2,R2,e,st.pg,st.sm,st.no,st.ok,st.mv,st.fr,st.pl,sd⟩)
  obtain ⟨q,h',ca,n1,m1,s1,R,⟨o1,o2,o3,o4,o5⟩,sm,no,cs⟩:=W
  refine ⟨q,h',ca,n1,m1,?_⟩
  clear ca ih
  have md:=nV o2 hnd o5.nd hst
  have hp2:∀v∈rt R,v.pg<16384:=fun v hv=>by
   have:=(md.st v.pg (by simp[CW hv])).2
   have:=ok.np1
   omega
  obtain ⟨c1,c2,c3,c4⟩:=nU hw hr hz pa3 o5.wf hpA hp2
  have hps:((nus us (place (au L ks us) key) R).map (aP L)).flatten=gf (aP (L+1) (mkT L i ks us)) key vl:=by
   rw[hpr,qm cp1 cp2,vb,←o5.ps];rfl
  have hkA:∀v∈nus us (place (au L ks us) key) R,On s1 L v:=by
   intro v hv
   unfold nus at hv
   simp only[List.mem_append] at hv
   rcases hv with hv|hv|hv
   ·exact (hon v (List.mem_of_mem_take hv)).congr fun j hj=>(md.bt j (.inr (.inl (gD hv j hj)))).2
   ·exact F3 o5 v hv
   ·exact (hon v (List.mem_of_mem_drop hv)).congr fun j hj=>(md.bt j (.inr (.inr (gD hv j hj)))).2
  have hpn:=ED (us:=us) (k:=place (au L ks us) key) (R:=R)
  generalize hJ:place (au L ks us) key=J at*
  rcases cs with ⟨rfl,e1,e2,gp⟩|⟨hne,s2,R2,rfl,gp,u1,u2,u3,u4,sd⟩
  ·have hks:nks ks J R=ks:=by unfold nks rk;rw[e2];simp
   rw[hks] at c1 c2 c3 c4
   have hin:=vd hu e1 e2 ks
   refine ⟨s1,(mkT L i ks (nus us J R),none),rfl,⟨gp,o1,md.mv.congr (fun j=>by rw[hpg]) (fun j=>?_),ab,ab,sm,no,n1⟩,⟨?_,fun q hq=>(by cases hq),⟨c2,c4 e2,c1⟩,?_,?_,?_⟩⟩
   ·show j∈(i::bp (L+1) (nus us J R))++[]↔_
    rw[hpn,List.append_nil]
   ·refine ⟨?_,dL.2 hkA⟩
    show Has s1 i (au L ks (nus us J R))
    rw[hin]
    exact hH.congr (md.bt i (.inl rfl)).2
   ·show ((nus us J R).map (aP L)).flatten++[]=_
    rw[List.append_nil,hps]
   ·show ((i::bp (L+1) (nus us J R))++[]).Nodup
    rw[hpn,List.append_nil]
    exact md.nd
   ·exact CV hu o5.pot (List.append_nil (α:=Tr L) _) (fun q hq=>by cases hq)
  ·have hq0:∀j,j∈bp (L+1) (nus us J R)→¬j=i:=by
    intro j hj e
    rw[hpn] at hj
    subst e
    exact (List.nodup_cons.1 md.nd).1 hj
   have hq1:∀j,j∈bp (L+1) (nus us J R)→stt s1 j≠0:=by
    intro j hj
    rw[hpn] at hj
    have:=(md.st j (List.mem_cons_of_mem _ hj)).1
    omega
   have ap:=u2.apart (Q:=fun j=>j∈bp (L+1) (nus us J R)) hq0 hq1
   have mm:=u2.ext (Q:=fun j=>j∈bp (L+1) (nus us J R)) hq0 hq1
   have hkd:bp (L+1) R2.1.kids++more (fun t:Tr (L+1)=>bp (L+1) t.kids) R2.2=bp (L+1) (nus us J R):=by
    rw[←sd.kd,AI]
    obtain ⟨t1,o⟩:=R2
    cases o<;>rfl
   have hmem:∀j,j∈cy (L+1) R2↔top R2 j∨j∈bp (L+1) (nus us J R):=by
    intro j
    rw[←hkd]
    obtain ⟨t1,o⟩:=R2
    unfold cy top
    cases o with
    |none=>
     show j∈(t1.pg::bp (L+1) t1.kids)++[]↔_
     simp[more]
    |some q=>
     show j∈(t1.pg::bp (L+1) t1.kids)++(q.2.pg::bp (L+1) q.2.kids)↔_
     simp only[more,List.mem_append,List.mem_cons,Option.some.injEq,exists_eq_left']
     constructor
     ·rintro ((a|a)|(a|a))<;>simp[a]
     ·rintro ((a|a)|(a|a))<;>simp[a]
   have m1':Mv s s1 (fun j=>j∈aW (L+1) (mkT L i ks us)) (fun j=>j=i∨j∈bp (L+1) (nus us J R)):=md.mv.congr (fun j=>by rw[hpg]) (fun j=>by rw[hpn];simp)
   have hnk:(bp (L+1) (nus us J R)).Nodup:=by rw[hpn];exact (List.nodup_cons.1 md.nd).2
   have hk2:∀v∈nus us J R,On s2 L v:=fun v hv=>(hkA v hv).congr fun j hj=>(ap j (by rw[eW];exact gD hv j hj)).2.2
   have hkk:∀v:Tr L,v∈(R2.1.kids:List (Tr L))→v∈nus us J R:=fun v hv=>by
    rw[←sd.kd]
    exact List.mem_append_left (α:=Tr L) _ hv
   refine ⟨s2,R2,rfl,⟨gp,u1,(m1'.trans mm).congr (fun j=>Iff.rfl) hmem,ab,ab,sm,no,n1⟩,⟨⟨sd.h1,dL.2 fun v hv=>hk2 v (hkk v hv)⟩,fun q hq=>⟨(sd.h2 q hq).1,dL.2 fun v hv=>hk2 v ?_⟩,sd.wf,?_,?_,?_⟩⟩
   ·rw[←sd.kd,hq]
    exact List.mem_append_right (α:=Tr L) _ hv
   ·rw[sd.ps,←hps];rfl
   ·rw[←hkd] at hnk ap
    have hh2:=sd.h2
    obtain ⟨t1,o⟩:=R2
    cases o with
    |none=>
     simp only[more,List.append_nil] at hnk ap
     show ((t1.pg::bp (L+1) t1.kids)++[]).Nodup
     rw[List.append_nil,List.nodup_cons]
     exact ⟨fun hm=>(ap _ hm).1 (.inl rfl),hnk⟩
    |some q=>
     simp only[more,List.nodup_append] at hnk
     have hne2:=(hh2 q rfl).2
     have ap:∀j,j∈bp (L+1) t1.kids∨j∈bp (L+1) q.2.kids→¬top (t1,some q) j:=fun j hj=>(ap j (by simpa [more] using hj)).1
     show ((t1.pg::bp (L+1) t1.kids)++(q.2.pg::bp (L+1) q.2.kids)).Nodup
     simp only[List.nodup_append,List.nodup_cons,List.mem_cons]
     refine ⟨⟨fun hm=>ap _ (.inl hm) (.inl rfl),hnk.1⟩,⟨fun hm=>ap _ (.inr hm) (.inr ⟨q,rfl,rfl⟩),hnk.2.1⟩,?_⟩
     rintro a (rfl|ha) b (rfl|hb) e
     ·exact hne2 e
     ·exact ap _ (.inr hb) (.inl e.symm)
     ·exact ap _ (.inl ha) (.inr ⟨q,rfl,e⟩)
     ·exact hnk.2.2 a ha b hb e
   ·refine CV hu o5.pot sd.kd fun q hq=>?_
    obtain ⟨n2,n3,n4⟩:=sd.cn q hq (Nat.succ_pos _)
    exact ⟨fun e=>sd.nf q hq (c4 e),n2,n3,n4⟩
theorem E9:∀(L:Nat) (t:Tr L) (lo:Bs) (hi:Option Bs) (s:PgS) (h:H) (tid d:Nat) (r:Int) (key vl:Bs),CX x T L t lo hi s h tid d r key vl
 |0,t,lo,hi,s,h,tid,d,r,key,vl=>fun g ok ht htx lv hb hk hv hd hf hp=>by
  obtain ⟨i,ks,vs⟩:=(t:Nd Bs)
  obtain ⟨h1,h2,h3,h4⟩:=lv.wf
  obtain ⟨hs,hi'⟩:=lv.st i (by simp[aW])
  refine (qf (lo:=lo) (hi:=hi) g ok ht htx hi' hs lv.on.1 h1 h2 h4 hb hk hv ab hf ab).mono ?_
  rintro q h' ⟨s',R,rfl,st,pr⟩
  refine ⟨s',R,rfl,⟨st.pg,st.ok,st.mv.congr (fun j=>?_) (fun j=>?_),st.fr,st.pl,st.sm,st.no,st.ln⟩,pr⟩
  ·simp[aW,bp]
  ·obtain ⟨t1,o⟩:=R
   cases o with
   |none=>simp[cy,more,aW,bp,top]
   |some q=>simp[cy,more,aW,bp,top]
 |L+1,t,lo,hi,s,h,tid,d,r,key,vl=>AJ (i:=t.pg) (ks:=t.ks) (us:=t.kids) fun u lo hi h=>E9 L u lo hi s h tid (d+1) r key vl
end
def opg {L:Nat}:Option (Tr L)→Int
 |none=> -1
 |some t=>(t.pg:Nat)
def fj (L:Nat):Option (Tr L)→List Nat
 |none=>[]
 |some t=>aW L t
structure yu (L:Nat) (lo:Bs) (hi:Option Bs) (t:Tr L) (key:Bs) (s':PgS) (o:Option (Tr L)):Prop where
 on:∀t',o=some t'→On s' L t'
 wf:∀t',o=some t'→WF L lo hi t'
 ps:(match o with|none=>[]|some t'=>aP L t')=eE (aP L t) key
 nd:(fj L o).Nodup
 cnt:∀t',o=some t'→∀j,fh L j t'≤fh L j t∧exT L j t'≤exT L j t
section
variable {x:PgI} {s:PgS} {T:List Nat} {h:H}
theorem cu.old (ok:cu s) {i:Nat} (hi:i<s.np) (h:stt s i=1):cu {s with st:=s.st.set i 3}:=ok.set hi ah ah (by unfold stt at h;omega)
theorem CY {i:Nat} (g:PgH x s T h) (ok:cu s) (hi:i<s.np) (hs:stt s i=1∨stt s i=2):
  aJ Tryz.prog 48 [.ptr x.P 0,.int .i64 (i:Int)] h fun q h'=>q= .int .i64 0∧∃s',Stp x T s h (fun j=>j=i) (fun _=>False) 0 s' h':=by
 have si:i<s.st.length:=by rw[ok.st];exact hi
 rcases hs with hs|hs
 ·refine ⟨_,_,jY g ok hi hs,Nat.le_refl _,Nat.le_refl _,rfl,{s with st:=s.st.set i 3},g.nP af,ok.old hi hs,CO hs si,?_,Nat.le_refl _,cI.nP,aq.set g.oI,Nat.le_refl _⟩
  refine Nat.le_of_eq (Eq.symm (se (s:=s) (s':={s with st:=s.st.set i 3}) rfl fun j=>?_))
  show stt s j=0↔(s.st.set i 3).getD j 0=0
  rw[eC si]
  by_cases e:j=i
  ·subst e;rw[if_pos rfl,hs];decide
  ·rw[if_neg e];rfl
 ·have g2:=g.tB (ws:=setW s.ws i false) (by simp[setW])
  have g3:=g2.nP (st:=s.st.set i 0) af
  refine ⟨_,_,qM g ok hi hs,Nat.le_refl _,Nat.le_refl _,rfl,_,g3,ok.drop hi,Ey hs si,?_,Nat.le_refl _,cI.tB.trans cI.nP (Nat.le_refl _),aq.trans (aq.set g.oU) (aq.set g2.oI) (Nat.le_refl _) (Nat.le_refl _),Nat.le_refl _⟩
  unfold free
  refine yn fun j hj a=>?_
  show decide ((s.st.set i 0).getD j 0=0)=true
  rw[eC si]
  have a:=of_decide_eq_true a
  by_cases e:j=i
  ·simp[e]
  ·rw[if_neg e];exact decide_eq_true a
theorem AK {tid d:Nat} {r:Int} {lo:Bs} {hi:Option Bs} {i:Nat} {ks vs:List Bs} {key:Bs} (g:PgH x s T h) (ok:cu s) (ht:h.objs tid=some (trO x r)) (htx:Tid x tid) (hi':i<s.np) (hs:stt s i=1∨stt s i=2) (hH:Has s i (aB ks vs)) (hr:right (aB ks vs)=true) (hz:size (aB ks vs)≤1024)
  (hw:∀k∈ks,inB lo hi k) (hfo:bI (aB ks vs) key=true) (hd:d≤20) (hf:1≤free s) (hp:s.p.length+16<900000):
  aJ Tryz.prog 46 [.ptr tid 0,.int .i64 (i:Int),.int .i64 (d:Int),.str key] h fun q h'=>∃s' o,q= .int .i64 (opg o)∧Stp x T s h (fun j=>j=i) (fun j=>j∈fj 0 o) 1 s' h'∧yu 0 lo hi ⟨i,ks,vs⟩ key s' o:=by
 refine f46.bC af ?_
 unfold c46 zz
 have hlt:tid<h.n:=by
  rcases Nat.lt_or_ge tid h.n with q|q
  ·exact q
  ·rw[g.fresh _ q] at ht;cases ht
 obtain ⟨ks',vs',p1,p3,p4,p6,p7,p8⟩:=AH hr hfo
 have hsm:=cx (L:=0) hr (by have:size (aB ks vs)≤1024:=hz;show size (aB ks vs)≤1355;omega)
 have cp:=Cg (aB ks vs) hsm.1 hsm.2 key
 rw[p1,hfo] at cp
 have hsm':=cx (L:=0) (ks:=ks') (kids:=vs') p3 (by show size (aB ks' vs')≤1355;omega)
 have hnd:=iY g ok ht hi' (by show stt s i≠0;omega) ab hd hH.1
 rw[hH.2] at hnd
 refine rf0 @and_self ?_
 refine an.ba (vals:=[.ptr tid 0,.int .i64 (i:Int),.int .i64 (d:Int)]) ae xA4 hnd fun q h2 ⟨hq,g2,k2,no2⟩ n2 _=>?_
 subst hq
 have ht2:=(k2 tid ab).trans ht
 have g3:=(g2.new (aC (aB ks vs))).new (aC (aB ks' vs'))
 have ln3:(H.new (H.new h2 (aC (aB ks vs))) (aC (aB ks' vs'))).n=h2.n+1+1:=rfl
 have ht3:(H.new (H.new h2 (aC (aB ks vs))) (aC (aB ks' vs'))).objs tid=some (trO x r):=(aO (Nat.lt_succ_of_lt ab)).trans ((aO ab).trans ht2)
 have sm3:cI x h (H.new (H.new h2 (aC (aB ks vs))) (aC (aB ks' vs'))):=(eB k2).trans (cS.trans cS (Nat.le_succ _)) ab
 have no3:aq h (H.new (H.new h2 (aC (aB ks vs))) (aC (aB ks' vs'))):=aq.trans no2 (aq.trans bP bP (Nat.le_succ _) (Nat.le_succ _)) ab ab
 have nn3:=bZ (h:=H.new h2 (aC (aB ks vs))) (o:=aC (aB ks' vs'))
 unfold aD at cp
 unfold aD
 refine an.evF xAc ?_
 rw[bB]
 refine an.nil ?_
 have lks:(strs (aB ks' vs').keys).length=ks'.length:=by simp[strs,aB]
 refine rf1 (cj3 @and_self @Bool.not_true lks) cp ?_
 rw[bB]
 refine Wp.le (s':=⟨tm [(0,.ptr tid 0),(1,.int .i64 i),(10,.ptr (h2.n+1) 0),(34,.bool (decide (((ks'.length:Nat):Int)=0)))],H.new (H.new h2 (aC (aB ks vs))) (aC (aB ks' vs'))⟩) (aM.of (bA ?_) (OLe.refl _) (fun y hy=>hy) (Nat.le_refl _) (Nat.le_refl _)) ?_
 ·exact xSb
 have nn3:(H.new (H.new h2 (aC (aB ks vs))) (aC (aB ks' vs'))).objs (h2.n+1)=some (aC (aB ks' vs')):=nn3
 generalize H.new (H.new h2 (aC (aB ks vs))) (aC (aB ks' vs'))=h3 at*
 by_cases hk0:ks'.length=0
 ·have d0:decide (((ks'.length:Nat):Int)=0)=true:=decide_eq_true ab
  have ht4:=ht3
  unfold trO at ht4
  refine rf0 (cj2 ht4 d0) ?_
  refine an.ba (vals:=[.ptr x.P 0,.int .i64 (i:Int)]) ae xA4 (CY g3 ok hi' hs) fun q h4 ⟨hq,s',st⟩ n4 _=>?_
  subst hq
  refine an.cJ xA2 xAb (by exact ⟨Nat.le_refl _,Nat.le_refl _⟩) (fc) ?_
  refine an.nil ?_
  refine rf0 @and_self ?_
  refine Wp.ret ?_
  have st2:=st.pre sm3 no3 ab
  have e0:ks'=[]:=List.length_eq_zero_iff.1 hk0
  refine ⟨trivial,.int .i64 (-1),?_,s',none,rfl,⟨st2.pg,st2.ok,st2.mv.congr (fun j=>Iff.rfl) (fun j=>by simp[fj]),by have:=st2.fr;omega,by have:=st2.pl;omega,st2.sm,st2.no,st2.ln⟩,⟨fun t' e=>(by cases e),fun t' e=>(by cases e),?_,List.nodup_nil,fun t' e=>(by cases e)⟩⟩
  ·simp only[go_sem]
   exact rfl
  ·show []=eE (List.zipWith Pr.mk ks vs) key
   rw[←p7,e0];rfl
 ·have d0:decide (((ks'.length:Nat):Int)=0)=false:=decide_eq_false ab
  unfold aC at nn3
  refine rf0 (cj2 nn3 d0) ?_
  have hz':size (aB ks' vs')≤1024:=by omega
  refine an.ba (vals:=[.ptr tid 0,.int .i64 (i:Int),aD (aB ks' vs')]) ae xA4 (tN g3 ok ht3 htx hsm'.1 (mi p3 hz') hi' hs hf ab) fun q h4 ⟨s',k,hq,st,hh⟩ n4 _=>?_
  subst hq
  refine an.evF xAc ?_
  refine an.nil ?_
  refine Wp.ret ?_
  have st2:=st.pre sm3 no3 ab
  refine ⟨trivial,.int .i64 (k:Nat),?_,s',some ⟨k,ks',vs'⟩,rfl,⟨st2.pg,st2.ok,st2.mv.congr (fun j=>Iff.rfl) (fun j=>by simp[fj,aW,bp]),st2.fr,st2.pl,st2.sm,st2.no,st2.ln⟩,⟨fun t' e=>(by cases e;exact ⟨hh,trivial⟩),fun t' e=>(by cases e;exact ⟨p3,hz',by show 0<ks'.length;omega,fun k hk=>hw k (p6 k hk)⟩),?_,by simp[fj,aW,bp],fun t' e j=>(by cases e;exact ⟨Nat.le_refl _,Nat.le_refl _⟩)⟩⟩
  ·simp only[go_sem]
   exact rfl
  ·show List.zipWith Pr.mk ks' vs'=eE (List.zipWith Pr.mk ks vs) key
   exact p7
end
end Go.Proofs.YtbgmofhgfnmaiaaGreat.Tree
end
