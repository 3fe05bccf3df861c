/- Parts of a proof: a layer of abstract values over the model, the functions' walks, plain laws. -/
import Derived.Deep.CondSized
import Derived.IntWalk
import Derived.KernelRfl
import Derived.Laws.Append
import Derived.Laws.AppendOwn
import Derived.Laws.BytesArg
import Derived.Laws.ComplexArith
import Derived.Laws.Cover3
import Derived.Laws.Entries
import Derived.Laws.FloatBits
import Derived.Laws.IdiomCopy
import Derived.Laws.IdiomStrings
import Derived.Laws.Pointers
import Derived.Laws.Small
import Derived.Laws.Strings
import Derived.Laws.StructEq
import Derived.Lib.Small
import Derived.Lib.Walk
import Derived.MapKept
import Derived.OpenShut
import Derived.Orders
import Derived.OrdersIn
import Derived.ProofKit
import Derived.RangeFuncRecord
import Derived.RangeFuncSeq
import Derived.ReadAgain
import Derived.Scope
import Derived.Shelf.Lay
import Derived.Shelf.SlSortCmp.InsertionK
import Derived.Shelf.SlSortCmp.WholeK
import Derived.SizedLaws
import Derived.Test.YtjnoobmaedgooaaGreatProg
import Derived.Test.YtjnoobmaedgooaaGreatRows
import Derived.WalkKit
import Derived.Test.YtjnoobmaedgooaaGreatAWA
set_option linter.unusedSimpArgs false
set_option linter.unusedVariables false
section
namespace Go.Av
open Go
theorem Eb (s:List UInt8) (i:Nat):(ByteArray.mk s.toArray)[i]! =s.getD i 0:=by
 by_cases h:i<s.length
 ·have h2:i<(ByteArray.mk s.toArray).size:=by simpa [ByteArray.size] using h
  rw[getElem!_pos _ i h2]
  simp[ByteArray.getElem_eq_getElem_data,h]
 ·have h2:¬i<(ByteArray.mk s.toArray).size:=by simpa [ByteArray.size] using h
  rw[getElem!_neg _ i h2]
  simp[h]
  rfl
theorem Bo (P:Program) (w:World) (s:List UInt8) (n:Int):(Extern.BytealgIndexByte.indexByte #[.string ⟨s.toArray⟩,.int .u8 n]).run P w= .ok (.int .i64 (match (List.range s.length).find? fun i=>s.getD i 0 == UInt8.ofNat n.toNat with|some i=>(i:Int)|none=> -1)) w:=by
 have hs:(ByteArray.mk s.toArray).size=s.length:=by simp[ByteArray.size]
 have hf:(fun i=>(ByteArray.mk s.toArray)[i]! == n.toNat.toUInt8)=fun i=>s.getD i 0 == UInt8.ofNat n.toNat:=by
  funext i;rw[Eb]
 change Sem.run P (match (List.range (ByteArray.mk s.toArray).size).find? fun i=>(ByteArray.mk s.toArray)[i]! == n.toNat.toUInt8 with|some i=>pure (goInt i)|none=>pure (goInt (-1))) w=_
 rw[hs,hf]
 cases (List.range s.length).find? fun i=>s.getD i 0 == UInt8.ofNat n.toNat<;>rfl
open Classical in
section
variable {P:Program} {G:aD} {w:World} {t:Tm} {a:Act} {o:Oper} {h:H} {x:AV}
theorem wH {op:AOp} (h:dQ P o=some op):∃k xs,op= .raw k xs:=by
 unfold dQ at h
 repeat' split at h
 all_goals first
  |(cases h;done)
  |(cases h;exact ⟨_,_,rfl⟩)
  |(simp only[Option.map_eq_some_iff] at h;obtain ⟨_,_,rfl⟩:=h;exact ⟨_,_,rfl⟩)
theorem uJ (k:RK) (xs:List Opd):cOp P o≠some (.raw k xs):=by
 intro h
 unfold cOp at h
 repeat' split at h
 all_goals first
  |(cases h;done)
  |(simp at h;done)
  |skip
theorem ry {op:AOp} (h:dQ P o=some op):∀c,o.op≠ .defer c:=by
 intro c e
 unfold dQ at h
 rw[e] at h
 cases h
theorem pP (ht:bk G w t a) {e:TypeId}:∀{l:List (Nat × Operand)} {ps:List (Nat × Nat)} {xs:List Opd} {cs cs':List AV} {vs:List Value},fQ P e l=some (ps,xs)→iJ ps (xs.map (ev t)) cs=some cs'→aq G w cs vs→
   ∃vs',Instr.fill (fun i=>some (i*P.cellsOf e,P.cellsOf e)) vs.toArray (l.map fun p=>(p.1,a.eval p.2))=some vs'.toArray∧aq G w cs' vs'
 |[],ps,xs,cs,cs',vs,h1,h2,h3=>by
  simp only[fQ,Option.some.injEq,Prod.mk.injEq] at h1
  obtain ⟨rfl,rfl⟩:=h1
  simp[iJ] at h2;subst h2
  exact ⟨vs,by simp[Instr.fill],h3⟩
 |(i,x)::l,ps,xs,cs,cs',vs,h1,h2,h3=>by
  simp only[fQ] at h1
  split at h1
  ·rename_i b r hb hr
   simp only[Option.some.injEq,Prod.mk.injEq] at h1
   obtain ⟨rfl,rfl⟩:=h1
   simp only[List.map_cons,iJ] at h2
   split at h2
   ·rename_i hc
    obtain ⟨c1,c2,c3⟩:=hc
    have rx:=ar hb ht
    obtain ⟨s1,s2⟩:=cq rx c3
    have hsz:(a.eval x).cells.size=P.cellsOf e:=by have:=s1.length;simpa [c1] using this
    have hl:=h3.length
    have hnew:aq G w (setAt cs (i*P.cellsOf e) (cellsOf (ev t b))) (vs.take (i*P.cellsOf e)++(a.eval x).cells.toList++vs.drop (i*P.cellsOf e+P.cellsOf e)):=by
     unfold setAt
     rw[c1]
     exact ((h3.take _).append s1).append (h3.drop _)
    obtain ⟨vs',e1,e2⟩:=pP ht (ps:=r.1) (xs:=r.2) hr h2 hnew
    refine ⟨vs',?_,e2⟩
    rw[List.map_cons,lN (place:=fun i=>some (i*P.cellsOf e,P.cellsOf e)) (off:=i*P.cellsOf e) rfl hsz (by simp;omega)]
    exact e1
   ·cases h2
  ·cases h1
theorem hJ {name:String} {g:Array Value→Sem Value} (hg:Extern.allGenericRows.lookup name=none) (ht:Extern.allTypedRows.lookup name=none) (ha:Extern.allRows.lookup name=some g) (hn:Extern.allNextRows.lookup name=none)
  {fn:Func} (h:fn.name=name) (ho:Extern.allNextRows.lookup fn.origin=none):Extern.find fn=some g∧Extern.findNext fn=none:=by
 unfold Extern.find Extern.findNext
 simp[h,hg,ht,ha,hn,ho]
theorem zi {k:FloatKind} {xs:List Opd} (hc:dQ P o=some (.raw (.i2f k) xs)):∃src dst z b q,o.op= .convert src dst z∧opd P src z=some b∧P.underlying src=some (.int q)∧P.underlying dst=some (.float k)∧xs=[b]:=by
 unfold dQ at hc
 repeat' split at hc
 all_goals first
  |(cases hc;done)
  |(simp at hc;done)
  |(cases hc;exact ⟨_,_,_,_,_,‹_›,‹_›,‹_›,‹_›,rfl⟩)
theorem zj {k:IntKind} {xs:List Opd} (hc:dQ P o=some (.raw (.f2i k) xs)):∃src dst z b q,o.op= .convert src dst z∧opd P src z=some b∧P.underlying src=some (.float q)∧P.underlying dst=some (.int k)∧xs=[b]:=by
 unfold dQ at hc
 repeat' split at hc
 all_goals first
  |(cases hc;done)
  |(simp at hc;done)
  |(cases hc;exact ⟨_,_,_,_,_,‹_›,‹_›,‹_›,‹_›,rfl⟩)
theorem wI {sz len:Nat} {n:Option Nat} {xs:List Opd} (hc:dQ P o=some (.raw (.aidx sz n len) xs)):∃ty z i b c e,o.op= .index ty z i∧opd P ty z=some b∧opd P 0 i=some c∧P.underlying ty=some (.array len e)∧(P.info? e).isSome=true∧(P.underlying e).isSome=true∧sz=P.cellsOf e∧n=(if aT P e then some (P.cellsOf e) else none)∧xs=[b,c]:=by
 unfold dQ at hc
 repeat' split at hc
 all_goals first
  |(cases hc;done)
  |(simp at hc;done)
  |(rename_i hq hg;cases hc;exact ⟨_,_,_,_,_,_,‹_›,‹_›,‹_›,‹_›,hq.1,hq.2,rfl,by simp[hg],rfl⟩)
theorem uK {sz len:Nat} {xs:List Opd} (hc:dQ P o=some (.raw (.paddr sz len) xs)):∃ty z i b c e,o.op= .indexAddr ty z i∧opd P 0 z=some b∧opd P 0 i=some c∧P.underlying ty=some (.array len e)∧(P.info? e).isSome=true∧sz=P.cellsOf e∧xs=[b,c]:=by
 unfold dQ at hc
 repeat' split at hc
 all_goals first
  |(cases hc;done)
  |(simp at hc;done)
  |(rename_i hq;cases hc;exact ⟨_,_,_,_,_,_,‹_›,‹_›,‹_›,‹_›,hq,rfl,rfl⟩)
theorem rA {zero:List AV} {ps:List (Nat × Nat)} {xs:List Opd} (hc:dQ P o=some (.raw (.abuild zero ps) xs)):∃ty parts n e z,o.op= .build ty parts∧P.underlying ty=some (.array n e)∧(P.info? ty).bind (·.zero)=some z∧bL P ty z=some (.agg zero)∧fQ P e parts.toList=some (ps,xs)∧(P.info? e).isSome=true:=by
 unfold dQ at hc
 repeat' split at hc
 all_goals first
  |(cases hc;done)
  |(simp at hc;done)
  |(rename_i hq;cases hc;exact ⟨_,_,_,_,_,‹_›,‹_›,‹_›,‹_›,‹_›,hq⟩)
theorem wJ {xs:List Opd} (hc:dQ P o=some (.raw .cplx xs)):∃c z1 z2 b1 b2,o.op= .call c∧c.callee= .builtin .complex∧c.args.toList=[z1,z2]∧opd P 0 z1=some b1∧opd P 0 z2=some b2∧xs=[b1,b2]:=by
 unfold dQ at hc
 repeat' split at hc
 all_goals first
  |(cases hc;done)
  |(simp at hc;done)
  |(cases hc;exact ⟨_,_,_,_,_,‹_›,‹_›,‹_›,‹_›,‹_›,rfl⟩)
theorem uL {re:Bool} {xs:List Opd} (hc:dQ P o=some (.raw (.cpart re) xs)):∃c z b,o.op= .call c∧c.callee= .builtin (if re then .real else .imag)∧c.args.toList=[z]∧opd P 0 z=some b∧xs=[b]:=by
 unfold dQ at hc
 repeat' split at hc
 all_goals first
  |(cases hc;done)
  |(simp at hc;done)
  |(simp only[Option.map_eq_some_iff,Option.some.injEq,AOp.raw.injEq,RK.cpart.injEq] at hc;obtain ⟨b,hb,rfl,rfl⟩:=hc;exact ⟨_,_,_,‹_›,by simpa using ‹_›,‹_›,hb,rfl⟩)
theorem pQ {k:RK} {xs:List Opd} (hk:k= .fbits∨k= .fofbits) (hc:dQ P o=some (.raw k xs)):∃c z b f fn,o.op= .call c∧c.callee= .value (.func f)∧c.args.toList=[z]∧opd P 0 z=some b∧xs=[b]∧P.funcs[f]? =some fn∧fn.body.isNone=true∧fn.origin= "" ∧fn.name=(match k with| .fbits=> "math.Float64bits" |_=> "math.Float64frombits"):=by
 rcases hk with rfl|rfl
 all_goals
  unfold dQ at hc
  repeat' split at hc
  all_goals first
   |(cases hc;done)
   |(simp at hc;done)
   |(rename_i hq;simp only[Option.map_eq_some_iff,Option.some.injEq,AOp.raw.injEq,true_and] at hc;obtain ⟨b,hb,rfl⟩:=hc;exact ⟨_,_,_,_,_,‹_›,‹_›,‹_›,hb,rfl,‹_›,hq.1,hq.2.2,hq.2.1⟩)
theorem uM {xs:List Opd} (hc:dQ P o=some (.raw .ibyte xs)):∃c z1 z2 b1 b2 f fn,o.op= .call c∧c.callee= .value (.func f)∧c.args.toList=[z1,z2]∧opd P 0 z1=some b1∧opd P 0 z2=some b2∧xs=[b1,b2]∧P.funcs[f]? =some fn∧fn.body.isNone=true∧fn.origin= "" ∧fn.name= "internal/bytealg.IndexByteString" :=by
 unfold dQ at hc
 repeat' split at hc
 all_goals first
  |(cases hc;done)
  |(simp at hc;done)
  |(cases hc;rename_i hq _ _ _ _ _ _;exact ⟨_,_,_,_,_,_,_,‹_›,‹_›,‹_›,‹_›,‹_›,rfl,‹_›,hq.1,hq.2.2,hq.2.1⟩)
  |(cases hc;rename_i hq _ _ _ _;exact ⟨_,_,_,_,_,_,_,‹_›,‹_›,‹_›,‹_›,‹_›,rfl,‹_›,hq.1,hq.2.2,hq.2.1⟩)
theorem rB:Extern.allGenericRows.lookup "internal/bytealg.IndexByteString" =none∧Extern.allTypedRows.lookup "internal/bytealg.IndexByteString" =none∧Extern.allNextRows.lookup "internal/bytealg.IndexByteString" =none:=⟨by kernel_rfl,by kernel_rfl,by kernel_rfl⟩
theorem CD:Extern.allRows.lookup "internal/bytealg.IndexByteString" =some Extern.BytealgIndexByte.indexByte:=by kernel_rfl
theorem wK {c:Call} {z1 z2:Operand} {f:FuncId} {fn:Func} {g:Array Value→Sem Value} {v:Value} {ty:TypeId} (hcal:c.callee= .value (.func f)) (ha:c.args= #[z1,z2]) (hf:P.funcs[f]? =some fn) (hb:fn.body.isNone=true) (hn:fn.name≠ "runtime.NumGoroutine")
  (h1:Extern.find fn=some g) (h2:Extern.findNext fn=none) (hg:(g #[a.eval z1,a.eval z2]).run P w= .ok v w):(do let d ←resolve a.eval c ty;invoke d.target d.args:Sem Next).run P w= .ok (.value v) w:=by
 have hb':fn.body=none:=by simpa using hb
 have he:a.eval (.func f)= .func (.func f) #[] #[]:=rfl
 simp[resolve,hcal,ha,he,Deferred.ofValue,invoke,callFunc,hf,hn,hb',h1,h2,hg]
theorem iL {k:IntKind} {n:Int} {v:Value} (h:ak G w (.int k n) v):v= .int k n:=by simpa [ak] using h
theorem jX {u v:Value} (h:ak G w (.sc u) v):v=u:=by simpa [ak] using h
theorem rC:Extern.allNextRows.lookup "" =none:=by kernel_rfl
theorem rD:Extern.allGenericRows.lookup "math.Float64bits" =none∧Extern.allTypedRows.lookup "math.Float64bits" =none∧Extern.allNextRows.lookup "math.Float64bits" =none:=⟨by kernel_rfl,by kernel_rfl,by kernel_rfl⟩
theorem rE:Extern.allGenericRows.lookup "math.Float64frombits" =none∧Extern.allTypedRows.lookup "math.Float64frombits" =none∧Extern.allNextRows.lookup "math.Float64frombits" =none:=⟨by kernel_rfl,by kernel_rfl,by kernel_rfl⟩
theorem CE:Extern.allRows.lookup "math.Float64bits" =some Extern.MathFloatBits.float64bits:=by kernel_rfl
theorem CG:Extern.allRows.lookup "math.Float64frombits" =some Extern.MathFloatBits.float64frombits:=by kernel_rfl
theorem pR {c:Call} {z:Operand} {f:FuncId} {fn:Func} {g:Array Value→Sem Value} {v:Value} {ty:TypeId} (hcal:c.callee= .value (.func f)) (ha:c.args= #[z]) (hf:P.funcs[f]? =some fn) (hb:fn.body.isNone=true) (hn:fn.name≠ "runtime.NumGoroutine")
  (h1:Extern.find fn=some g) (h2:Extern.findNext fn=none) (hg:(g #[a.eval z]).run P w= .ok v w):(do let d ←resolve a.eval c ty;invoke d.target d.args:Sem Next).run P w= .ok (.value v) w:=by
 have hb':fn.body=none:=by simpa using hb
 have he:a.eval (.func f)= .func (.func f) #[] #[]:=rfl
 simp[resolve,hcal,ha,he,Deferred.ofValue,invoke,callFunc,hf,hn,hb',h1,h2,hg]
theorem rF {k:IntKind} {n:Int}:ak G w (.int k n) (.int k n):=by simp[ak]
theorem pS {u:Value}:ak G w (.sc u) u:=by simp[ak]
theorem uN {k:RK} {xs:List Opd} (hc:dQ P o=some (.raw k xs)) (hx:fq k (xs.map (ev t))=some x) (ht:bk G w t a):Plain P G w a o x:=by
 cases k with
 |i2f k=>
  obtain ⟨src,dst,z,b,q,hop,h1,h2,h3,rfl⟩:=zi hc
  have r1:=ar h1 ht
  simp only[List.map_cons,List.map_nil,fq] at hx
  split at hx<;>try (cases hx;done)
  rename_i e
  simp only[List.cons.injEq,and_true] at e
  rw[e] at r1
  cases hx
  refine ⟨_,?_,pS⟩
  simp only[execOp,hop,iL r1]
  simp[run_convert_int_float w src dst _ _ _ (by rw[h2];rfl) h3]
 |f2i k=>
  obtain ⟨src,dst,z,b,q,hop,h1,h2,h3,rfl⟩:=zj hc
  have r1:=ar h1 ht
  simp only[List.map_cons,List.map_nil,fq] at hx
  split at hx<;>try (cases hx;done)
  rename_i e
  simp only[List.cons.injEq,and_true] at e
  rw[e] at r1
  simp only[Option.map_eq_some_iff] at hx
  obtain ⟨n,hn,rfl⟩:=hx
  refine ⟨_,?_,rF⟩
  simp only[execOp,hop,jX r1]
  simp[run_convert_float_int w src dst _ _ _ _ (by rw[h2];rfl) h3 hn]
 |cplx=>
  obtain ⟨c,z1,z2,b1,b2,hop,hcal,ha,h1,h2,rfl⟩:=wJ hc
  have r1:=ar h1 ht
  have r2:=ar h2 ht
  have ha':c.args= #[z1,z2]:=by rw[←Array.toArray_toList (xs:=c.args),ha]
  simp only[List.map_cons,List.map_nil,fq] at hx
  split at hx<;>try (cases hx;done)
  rename_i e
  simp only[List.cons.injEq,and_true] at e
  rw[e.1] at r1
  rw[e.2] at r2
  split at hx<;>cases hx
  rename_i ek
  subst ek
  refine ⟨_,?_,pS⟩
  simp[execOp,hop,resolve,hcal,ha',jX r1,jX r2,invoke,builtin,run_complex]
 |cpart re=>
  obtain ⟨c,z,b,hop,hcal,ha,h1,rfl⟩:=uL hc
  have r1:=ar h1 ht
  have ha':c.args= #[z]:=by rw[←Array.toArray_toList (xs:=c.args),ha]
  simp only[List.map_cons,List.map_nil,fq] at hx
  split at hx<;>try (cases hx;done)
  rename_i e
  simp only[List.cons.injEq,and_true] at e
  rw[e] at r1
  cases hx
  cases re
  ·refine ⟨_,?_,pS⟩
   simp at hcal
   simp[execOp,hop,resolve,hcal,ha',jX r1,invoke,builtin,run_imag]
  ·refine ⟨_,?_,pS⟩
   simp at hcal
   simp[execOp,hop,resolve,hcal,ha',jX r1,invoke,builtin,run_real]
 |fbits=>
  obtain ⟨c,z,b,f,fn,hop,hcal,ha,h1,rfl,hf,hb,ho,hn⟩:=pQ (.inl rfl) hc
  obtain ⟨e1,e2⟩:=hJ rD.1 rD.2.1 CE rD.2.2 hn (by rw[ho];exact rC)
  have r1:=ar h1 ht
  have ha':c.args= #[z]:=by rw[←Array.toArray_toList (xs:=c.args),ha]
  simp only[List.map_cons,List.map_nil,fq] at hx
  split at hx<;>try (cases hx;done)
  rename_i e
  simp only[List.cons.injEq,and_true] at e
  rw[e] at r1
  cases hx
  refine ⟨_,?_,rF⟩
  simp only[execOp,hop]
  exact pR hcal ha' hf hb (by rw[hn];simp) e1 e2 (by rw[jX r1];rfl)
 |fofbits=>
  obtain ⟨c,z,b,f,fn,hop,hcal,ha,h1,rfl,hf,hb,ho,hn⟩:=pQ (.inr rfl) hc
  obtain ⟨e1,e2⟩:=hJ rE.1 rE.2.1 CG rE.2.2 hn (by rw[ho];exact rC)
  have r1:=ar h1 ht
  have ha':c.args= #[z]:=by rw[←Array.toArray_toList (xs:=c.args),ha]
  simp only[List.map_cons,List.map_nil,fq] at hx
  split at hx<;>try (cases hx;done)
  rename_i e
  simp only[List.cons.injEq,and_true] at e
  rw[e] at r1
  cases hx
  refine ⟨_,?_,pS⟩
  simp only[execOp,hop]
  exact pR hcal ha' hf hb (by rw[hn];simp) e1 e2 (by rw[iL r1];rfl)
 |ibyte=>
  obtain ⟨c,z1,z2,b1,b2,f,fn,hop,hcal,ha,h1,h2,rfl,hf,hb,ho,hn⟩:=uM hc
  obtain ⟨e1,e2⟩:=hJ rB.1 rB.2.1 CD rB.2.2 hn (by rw[ho];exact rC)
  have r1:=ar h1 ht
  have r2:=ar h2 ht
  have ha':c.args= #[z1,z2]:=by rw[←Array.toArray_toList (xs:=c.args),ha]
  simp only[List.map_cons,List.map_nil,fq] at hx
  split at hx<;>try (cases hx;done)
  rename_i s n q
  simp only[List.cons.injEq,and_true] at q
  rw[q.1] at r1
  rw[q.2] at r2
  split at hx<;>cases hx
  rename_i hq
  refine ⟨_,?_,rF⟩
  simp only[execOp,hop]
  refine wK hcal ha' hf hb (by rw[hn];simp) e1 e2 ?_
  have r1':a.eval z1= .string ⟨s.toArray⟩:=by simpa [ak] using r1
  rw[r1',iL r2]
  exact Bo P w s n
 |aidx sz n len=>
  obtain ⟨ty,z,i,b,c,e,hop,h1,h2,hu,hi,hui,rfl,rfl,rfl⟩:=wI hc
  have r1:=ar h1 ht
  have r2:=ar h2 ht
  simp only[List.map_cons,List.map_nil,fq] at hx
  split at hx<;>try (cases hx;done)
  rename_i q
  simp only[List.cons.injEq,and_true] at q
  rw[q.1] at r1
  rw[q.2] at r2
  split at hx<;>try (cases hx;done)
  rename_i hq
  simp only[ak] at r1
  obtain ⟨vs,hv,hr⟩:=r1
  obtain ⟨v,e1,e2⟩:=pH P w e _ _ vs hi hui hr hx
  exact ⟨v,by simp[execOp,hop,Instr.index,run_underlying hu,hv,iL r2,asIntOf,hq.1,hq.2,bm P w e hi,e1],e2⟩
 |paddr sz len=>
  obtain ⟨ty,z,i,b,c,e,hop,h1,h2,hu,hi,rfl,rfl⟩:=uK hc
  have r1:=ar h1 ht
  have r2:=ar h2 ht
  simp only[List.map_cons,List.map_nil,fq] at hx
  split at hx<;>try (cases hx;done)
  ·rename_i q
   simp only[List.cons.injEq,and_true] at q
   rw[q.1] at r1
   rw[q.2] at r2
   split at hx<;>cases hx
   rename_i hq
   simp only[ak] at r1
   obtain ⟨hd,hv⟩:=r1
   refine .mk (v:= .pointer (some ⟨G.ι _,_,none⟩)) ?_ (by simp only[ak];exact ⟨hd,rfl⟩)
   simp[execOp,hop,Instr.indexAt,run_underlying hu,hv,iL r2,asIntOf,Instr.sureAddr,hq.1,hq.2,bm P w e hi,add_plain]
  ·rename_i q
   simp only[List.cons.injEq,and_true] at q
   rw[q.1] at r1
   rw[q.2] at r2
   split at hx<;>cases hx
   rename_i hq
   simp only[ak] at r1
   obtain ⟨B,off,vs,hv,hr,him⟩:=r1
   refine .mk (v:= .pointer (some ⟨B,_,none⟩)) ?_ (by simp only[ak];exact ⟨B,_,_,rfl,hr.drop _,him.drop _⟩)
   simp[execOp,hop,Instr.indexAt,run_underlying hu,hv,iL r2,asIntOf,Instr.sureAddr,hq.1,hq.2,bm P w e hi,add_plain]
 |abuild zero ps=>
  obtain ⟨ty,parts,n,e,z,hop,hu,hz,hzc,hps,hi⟩:=rA hc
  simp only[fq,Option.map_eq_some_iff] at hx
  obtain ⟨cs,hcs,rfl⟩:=hx
  have r:=cP (G:=G) (w:=w) hzc
  simp only[ak] at r
  obtain ⟨vs,rfl,hr⟩:=r
  obtain ⟨vs',e1,e2⟩:=pP ht hps hcs hr
  refine ⟨.agg vs'.toArray,?_,by simp only[ak];exact ⟨vs',rfl,e2⟩⟩
  obtain ⟨i,hi1,hi2⟩:=Option.bind_eq_some_iff.1 hz
  have hmap:(parts.map fun (i,x)=>(i,a.eval x)).toList=parts.toList.map fun p=>(p.1,a.eval p.2):=by simp
  simp only[execOp,hop,Instr.build,Sem.run_bind,zeroValue,typeInfo,run_program,hi1,hi2,Result.andThen_ok,Sem.run_pure,run_underlying hu,bm P w e hi,Value.cells,hmap,e1]
end
end Go.Av
end
section
namespace Go.Av
structure aE where
 dst:Option Nat
 guard:Option (Nat × Bool)
 op:AOp
inductive AC where
 |skip
 |reg (items:List aE) (pairs:Option (List (Nat × Nat)))
 |seq (a b:AC)
 |cond (c:Opd) (a b:AC)
 |block (id:Nat) (a:AC)
 |loop (a:AC)
 |exit (id:Nat)
 |ret
 |scope (a:AC)
 |label (l:Nat)
 |goto (l:Nat)
 |jY (g:Opd) (ps:List Nat) (asg body:AC)
def aX:AOp→List Opd
 | .mov x| .box x| .eqN _ x| .un _ x| .conv _ x| .load _ x| .faddr _ x| .fld _ _ x| .ext x _| .nilck x| .len _ x| .clr _ _ x| .mlen x| .eqM _ x| .cap x| .ifc _ x| .pan x=>[x]
 | .pick a b c| .mput a b c=>[a,b,c]
 | .alloc _| .mkmap| .dead=>[]
 | .build _ parts=>parts.map fun p=>p.2.2
 | .buildSl _ parts=>parts
 | .store _ x y| .bin _ x y| .eqB _ x y| .eqA _ _ x y| .mm _ x y| .mlook _ _ x y| .mdel x y| .eqP _ x y| .eqQ _ x y| .iaddr _ x y| .idx x y| .mksl _ _ _ x y| .app _ _ _ x y| .appz _ _ _ x y=>[x,y]
 | .mkfn _ a b=>a++b
 | .slc _ _ x a b c=>x::(a.toList++b.toList++c.toList)
 | .call _ l=>l
 | .callv x l=>x::l
 | .raw _ l=>l
def tmpsOf (l:List Opd):List Nat:=l.filterMap fun| .t i=>some i|_=>none
def oH (ops:Array Oper):Option (Nat × Bool)→Option (Option (Nat × Bool))
 |none=>some none
 |some (j,w)=>match (ops[j]?).bind (·.dst) with
  |some d=>some (some (d,w))
  |none=>none
def wL (P:Program) (o:Oper):Option AOp:=some (match cOp P o with
 |some q=>q
 |none=>(dQ P o).getD .dead)
def nz:AOp→Bool
 | .raw _ _=>true
 |_=>false
theorem wM {P:Program} {o:Oper} {k:RK} {xs:List Opd} (h:wL P o=some (.raw k xs)):dQ P o=some (.raw k xs):=by
 simp only[wL,Option.some.injEq] at h
 split at h
 ·rename_i q hc
  subst h
  exact absurd hc (uJ _ _)
 ·cases hb:dQ P o with
  |none=>rw[hb] at h;simp at h
  |some q=>rw[hb] at h;simp at h;rw[h]
theorem fv {P:Program} {o:Oper} {op:AOp} (h:wL P o=some op) (hn:op≠ .dead) (hr:nz op=false):cOp P o=some op:=by
 simp only[wL,Option.some.injEq] at h
 cases hc:cOp P o with
 |none=>
  rw[hc] at h
  simp only at h
  cases hb:dQ P o with
  |none=>rw[hb] at h;exact absurd h.symm hn
  |some q=>
   rw[hb] at h
   obtain ⟨k,xs,rfl⟩:=wH hb
   simp at h
   subst h
   simp[nz] at hr
 |some q=>rw[hc] at h;simp at h;rw[h]
def bA (P:Program) (N:Nat) (ops:Array Oper) (o:Oper):Option aE:=
 match wL P o,oH ops o.guard with
 |some op,some g=>if o.dst.all (fun d=>decide (d<N))&&(tmpsOf (aX op)).all (fun i=>(names ops o).contains i) then some ⟨o.dst,g,op⟩ else none
 |_,_=>none
def dm (P:Program) (N:Nat) (ops:Array Oper):List Oper→Option (List aE)
 |[]=>some []
 |o::l=>match bA P N ops o,dm P N ops l with
  |some a,some r=>some (a::r)
  |_,_=>none
def bS:AOp→Bool
 | .alloc _| .box _| .load _ _| .store _ _ _| .conv .s2b _| .conv .s2s _| .mksl _ _ _ _ _| .app _ _ _ _ _| .appz _ _ _ _ _| .clr _ _ _| .mkmap| .mlook _ _ _ _| .mput _ _ _| .mdel _ _| .mlen _| .eqQ _ _ _| .buildSl _ _| .call _ _| .callv _ _| .pan _=>true
 |_=>false
def tidy (ops:Array Oper):Bool:=
 let b:=Region.before ops
 let l:=ops.toList.zipIdx
 (l.all fun (o,i)=>o.after.all fun e=> !Region.binds .any e||decide (e.on<i))&&
 l.all fun (o,i)=>match o.dst with
  |none=>true
  |some d=>l.all fun (o',j)=>i == j|| !(names ops o').contains d||(b.getD j 0).testBit i||(b.getD i 0).testBit j
def oI (ops:Array Oper) (items:List aE):List (Nat × Nat):=
 let b:=Region.before ops
 (List.range ops.size).flatMap fun j=>(List.range j).filterMap fun i=>
  if (match items[i]?,items[j]? with|some x,some y=>bS x.op&&bS y.op|_,_=>false)&& !(b.getD j 0).testBit i then some (i,j) else none
def dG:Code→Bool
 | .rangeFunc _ _ _ _=>false
 | .seq a b=>dG a&&dG b
 | .cond _ a b=>dG a&&dG b
 | .block _ a=>dG a
 | .loop a=>dG a
 | .scope a=>dG a
 |_=>true
def okR (c:Code) (ro:Option Nat):Prop:=ro=none∨dG c=true
def cCode (P:Program) (N:Nat):Code→Option AC
 | .skip=>some .skip
 | .region _ ops draw=>match dm P N ops ops.toList with
  |some items=>if draw then (if P.follows .mixedOrders&&tidy ops then some (.reg items (some (oI ops items))) else none) else some (.reg items none)
  |none=>none
 | .seq a b=>match cCode P N a,cCode P N b with
  |some x,some y=>some (.seq x y)
  |_,_=>none
 | .cond c a b=>match opd P 0 c,cCode P N a,cCode P N b with
  |some c,some x,some y=>some (.cond c x y)
  |_,_,_=>none
 | .block id a=>(cCode P N a).map (.block id)
 | .loop a=>(cCode P N a).map .loop
 | .exit id=>some (.exit id)
 | .ret=>some .ret
 | .scope a=>(cCode P N a).map .scope
 | .label l=>some (.label l)
 | .goto l=>some (.goto l)
 | .rangeFunc g ps asg body=>match opd P 0 g,cCode P N asg,cCode P N body with
  |some g,some x,some y=>if dG asg&&dG body then some (.jY g ps.toList x y) else none
  |_,_,_=>none
 | .refuse _=>none
def aa (x y:AV):Prop:=∀G w v,ak G w x v→ak G w y v
theorem aa.refl (x:AV):aa x x:=fun _ _ _ h=>h
theorem aa.trans {x y z:AV} (a:aa x y) (b:aa y z):aa x z:=fun G w v h=>b G w v (a G w v h)
theorem aa.any (x:AV):aa x .any:=fun _ _ _ _=>by simp[ak]
def al (l m:List AV):Prop:=∀G w vs,aq G w l vs→aq G w m vs
theorem al.refl (l:List AV):al l l:=fun _ _ _ h=>h
theorem al.nil:al [] []:=al.refl _
theorem al.cons {x y:AV} {l m:List AV} (a:aa x y) (b:al l m):al (x::l) (y::m):=by
 intro G w vs h
 simp only[aq] at h ⊢
 obtain ⟨v,us,e,h1,h2⟩:=h
 exact ⟨v,us,e,a G w v h1,b G w us h2⟩
theorem aa.cap {sz:Nat} {xs:List AV} {c:Cap}:aa (.sl sz xs c) (.sl sz xs .any):=by
 intro G w v h
 simp only[ak] at h ⊢
 rcases h with ⟨a,b,_⟩|⟨B,off,C,vs,h1,h2,h3,h4,h5,h6⟩
 ·exact .inl ⟨a,b,by simp[fF]⟩
 ·exact .inr ⟨B,off,C,vs,h1,h2,h3,h4,h5,by simp[bH]⟩
theorem aa.nil {sz sz':Nat} {c:Cap}:aa (.sl sz [] c) (.sl sz' [] .any):=by
 intro G w v h
 simp only[ak] at h ⊢
 rcases h with ⟨a,b,_⟩|⟨B,off,C,vs,h1,h2,h3,h4,h5,h6⟩
 ·exact .inl ⟨a,b,by simp[fF]⟩
 ·have hv:vs=[]:=by simpa using h3
  subst hv
  exact .inr ⟨B,off,C,[],h1,h2,by simp,by simp[av],Imm.nil,by simp[bH]⟩
theorem aa.agg {l m:List AV} (a:al l m):aa (.agg l) (.agg m):=by
 intro G w v h
 simp only[ak] at h ⊢
 obtain ⟨vs,e,h⟩:=h
 exact ⟨vs,e,a G w vs h⟩
theorem aa.tup {l m:List AV} (a:al l m):aa (.tup l) (.tup m):=by
 intro G w v h
 simp only[ak] at h ⊢
 obtain ⟨vs,e,h⟩:=h
 exact ⟨vs,e,a G w vs h⟩
section
variable {P:Program}
def aM (P:Program) (f:FuncId) (args:List AV) (h:H) (r:AV) (h':H):Prop:=
 ∀G w vs,aq G w args vs→aK G h w→bD G h h'→Calls P f vs.toArray w fun e w'=>∃v G',e= .returned v∧Trans G w h G' w' h'∧aK G' h' w'∧ak G' w' r v
def H0 (n m:Nat):H:= .only af [] n m
def aB (P:Program) (f:FuncId) (args:List AV) (r:AV):Prop:=∀n m,aM P f args (H0 n m) r (H0 n m)
structure St where
 t:Tm
 h:H
inductive aC where
 |normal
 |exit (id:Nat)
 |goto (l:Nat)
 |ret
 |panic (v:Value)
def aC.cU:aC→Exit→Prop
 | .normal,.normal=>True
 | .exit i,.exit j=>i=j
 | .goto i,.goto j=>i=j
 | .ret,.ret=>True
 | .panic v,.panic l=>l=[{v:=v,recovered:=false}]
 |_,_=>False
def Marks (G:aD) (w:World) (h:H) (l:List Deferred):Prop:=l.Nodup∧∀d∈l,∃D,d= {target:= .collected D,args:= #[]}∧w.heap[D]? =some (.deferred (some []))∧¬h.O G D∧¬h.T G D
theorem tl {w:World} {B:Nat} {o:Go.Obj} (h:w.heap[B]? =some o):B<w.heap.size:=by
 rcases Nat.lt_or_ge B w.heap.size with hb|hb
 ·exact hb
 ·have:w.heap[B]? =none:=by simp;omega
  rw[this] at h;cases h
theorem Marks.mono {G G':aD} {w w':World} {h h':H} {l:List Deferred} (m:Marks G w h l) (T:Trans G w h G' w' h'):Marks G' w' h' l:=by
 refine ⟨m.1,fun d hd=>?_⟩
 obtain ⟨D,e,h1,h2,h3⟩:=m.2 d hd
 have hB:=tl h1
 exact ⟨D,e,(T.keep D hB h2 h3).trans h1,fun x=>h2 (T.O_new D hB x),fun x=>h3 (T.T_new D hB x)⟩
structure Rel (N:Nat) (s:St) (G:aD) (w:World) (a:Act):Prop where
 size:a.tmps.size=N
 t:bk G w s.t a
 h:aK G s.h w
 df:Marks G w s.h a.defers
def jB (w:World) (l l':List Deferred):Prop:=∀d∈l',d∈l∨∃D,w.heap.size≤D∧d= {target:= .collected D,args:= #[]}
theorem jB.refl {w:World} {l:List Deferred}:jB w l l:=fun d h=> .inl h
theorem jB.trans {w w':World} {l l' l'':List Deferred} (a:jB w l l') (hs:w.heap.size≤w'.heap.size) (b:jB w' l' l''):jB w l l'':=by
 intro d h
 rcases b d h with h|⟨D,h1,h2⟩
 ·exact a d h
 ·exact .inr ⟨D,by omega,h2⟩
def Run (P:Program) (N:Nat) (c:Code) (s:St) (e:aC) (s':St):Prop:=
 (s.h.n≤s'.h.n∧s.h.m≤s'.h.m)∧∀ro,okR c ro→∀G w a,Rel N s G w a→bD G s.h s'.h→c.wpIn (rd ro) 0 P (fun e' a' w'=>e.cU e'∧jB w a.defers a'.defers∧∃G',Trans G w s.h G' w' s'.h∧Rel N s' G' w' a') a w
def Wp (P:Program) (N:Nat) (c:AC) (s:St) (Q:aC→St→Prop):Prop:=
 ∀code,cCode P N code=some c→∃e s',Run P N code s e s'∧Q e s'
variable {N:Nat} {s:St} {Q:aC→St→Prop}
theorem okR.seq {a b:Code} {ro:Option Nat} (h:okR (.seq a b) ro):okR a ro∧okR b ro:=by
 rcases h with h|h
 ·exact ⟨.inl h,.inl h⟩
 ·simp only[dG,Bool.and_eq_true] at h
  exact ⟨.inr h.1,.inr h.2⟩
theorem okR.cond {z:Operand} {a b:Code} {ro:Option Nat} (h:okR (.cond z a b) ro) (c:Bool):okR (if c then a else b) ro:=by
 rcases h with h|h
 ·exact .inl h
 ·simp only[dG,Bool.and_eq_true] at h
  cases c
  ·exact .inr h.2
  ·exact .inr h.1
theorem okR.block {id:Nat} {a:Code} {ro:Option Nat} (h:okR (.block id a) ro):okR a ro:=h
theorem okR.loop {a:Code} {ro:Option Nat} (h:okR (.loop a) ro):okR a ro:=h
theorem okR.scope {a:Code} {ro:Option Nat} (h:okR (.scope a) ro):okR a ro:=h
theorem okR.find {l:Nat} {ro:Option Nat}:∀{c rest:Code},okR c ro→findLabel c l=some rest→okR rest ro:=by
 intro c rest h hf
 rcases h with h|h
 ·exact .inl h
 ·right
  induction c generalizing rest with
  |seq a b iha ihb=>
   simp only[dG,Bool.and_eq_true] at h
   simp only[findLabel] at hf
   split at hf
   ·rename_i r hr
    cases hf
    simp only[dG,Bool.and_eq_true]
    exact ⟨iha hr h.1,h.2⟩
   ·exact ihb hf h.2
  |label l'=>
   simp only[findLabel] at hf
   split at hf
   ·cases hf;rfl
   ·cases hf
  |_=>simp[findLabel] at hf
theorem Wp.mono {c:AC} {Q':aC→St→Prop} (h:Wp P N c s Q) (hq:∀e s',Q e s'→Q' e s'):Wp P N c s Q':=
 fun code hc=>let ⟨e,s',r,q⟩:=h code hc;⟨e,s',r,hq e s' q⟩
theorem uO {code:Code} (h:cCode P N code=some .skip):code= .skip:=by
 unfold cCode at h
 split at h<;>(try rfl)<;>(try cases h)
 all_goals (repeat' split at h)<;>(try cases h)<;>simp at h
theorem Wp.skip (h:Q .normal s):Wp P N .skip s Q:=by
 intro code hc
 obtain rfl:=uO hc
 exact ⟨.normal,s,⟨⟨Nat.le_refl _,Nat.le_refl _⟩,fun ro okc G w a r _=>wpIn_skip ⟨trivial,.refl,G,Trans.refl _ _ _,r⟩⟩,h⟩
theorem uP {code:Code} {id:Nat} (h:cCode P N code=some (.exit id)):code= .exit id:=by
 unfold cCode at h
 split at h<;>(try rfl)<;>(try cases h)
 all_goals (repeat' split at h)<;>(try cases h)<;>(try rfl)<;>simp at h
theorem Wp.exit {id:Nat} (h:Q (.exit id) s):Wp P N (.exit id) s Q:=by
 intro code hc
 obtain rfl:=uP hc
 exact ⟨.exit id,s,⟨⟨Nat.le_refl _,Nat.le_refl _⟩,fun ro okc G w a r _=>wpIn_exit ⟨rfl,.refl,G,Trans.refl _ _ _,r⟩⟩,h⟩
theorem wN {code:Code} (h:cCode P N code=some .ret):code= .ret:=by
 unfold cCode at h
 split at h<;>(try rfl)<;>(try cases h)
 all_goals (repeat' split at h)<;>(try cases h)<;>(try rfl)<;>simp at h
theorem Wp.ret (h:Q .ret s):Wp P N .ret s Q:=by
 intro code hc
 obtain rfl:=wN hc
 exact ⟨.ret,s,⟨⟨Nat.le_refl _,Nat.le_refl _⟩,fun ro okc G w a r _=>wpIn_ret ⟨trivial,.refl,G,Trans.refl _ _ _,r⟩⟩,h⟩
theorem wO {code:Code} {x y:AC} (h:cCode P N code=some (.seq x y)):∃a b,code= .seq a b∧cCode P N a=some x∧cCode P N b=some y:=by
 cases code<;>simp only[cCode] at h<;>(try cases h)
 ·(repeat' split at h)<;>cases h
 ·split at h
  ·cases h;exact ⟨_,_,rfl,‹_›,‹_›⟩
  ·cases h
 ·(repeat' split at h)<;>cases h
 all_goals first|(simp at h;done)|((repeat' split at h)<;>cases h;done)
def aC.andThen (K:St→Prop) (Q:aC→St→Prop):aC→St→Prop
 | .normal,s=>K s
 |e,s=>Q e s
theorem Wp.seq {x y:AC} (h:Wp P N x s (aC.andThen (fun s'=>Wp P N y s' Q) Q)):Wp P N (.seq x y) s Q:=by
 intro code hc
 obtain ⟨a,b,rfl,ha,hb⟩:=wO hc
 obtain ⟨e,s1,r1,q1⟩:=h a ha
 cases e with
 |normal=>
  obtain ⟨e2,s2,r2,q2⟩:=q1 b hb
  obtain ⟨⟨l1,l2⟩,r1⟩:=r1
  obtain ⟨⟨l3,l4⟩,r2⟩:=r2
  refine ⟨e2,s2,⟨⟨by omega,by omega⟩,fun ro okc G w ac r F=>wpIn_seq (wpIn_mono (r1 ro okc.seq.1 G w ac r (F.sub (Nat.le_refl _) l3 (Nat.le_refl _) l4)) ?_)⟩,q2⟩
  rintro e' a' w' ⟨h1,h2,G',T1,r'⟩
  cases e'<;>simp only[aC.cU] at h1
  refine wpIn_mono (r2 ro okc.seq.2 G' w' a' r' (F.step T1)) ?_
  rintro e'' a'' w'' ⟨k1,k2,G'',T2,r''⟩
  exact ⟨k1,h2.trans T1.size_le k2,G'',T1.trans r.h r'.h T2,r''⟩
 |exit id=>
  refine ⟨.exit id,s1,⟨r1.1,fun ro okc G w ac r F=>wpIn_seq (wpIn_mono (r1.2 ro okc.seq.1 G w ac r F) ?_)⟩,q1⟩
  rintro e' a' w' ⟨h1,h2⟩
  cases e'<;>simp only[aC.cU] at h1
  exact ⟨h1,h2⟩
 |goto l=>
  refine ⟨.goto l,s1,⟨r1.1,fun ro okc G w ac r F=>wpIn_seq (wpIn_mono (r1.2 ro okc.seq.1 G w ac r F) ?_)⟩,q1⟩
  rintro e' a' w' ⟨h1,h2⟩
  cases e'<;>simp only[aC.cU] at h1
  exact ⟨h1,h2⟩
 |ret=>
  refine ⟨.ret,s1,⟨r1.1,fun ro okc G w ac r F=>wpIn_seq (wpIn_mono (r1.2 ro okc.seq.1 G w ac r F) ?_)⟩,q1⟩
  rintro e' a' w' ⟨h1,h2⟩
  cases e'<;>simp only[aC.cU] at h1
  exact ⟨trivial,h2⟩
 |panic v=>
  refine ⟨.panic v,s1,⟨r1.1,fun ro okc G w ac r F=>wpIn_seq (wpIn_mono (r1.2 ro okc.seq.1 G w ac r F) ?_)⟩,q1⟩
  rintro e' a' w' ⟨h1,h2⟩
  cases e'<;>simp only[aC.cU] at h1
  exact ⟨h1,h2⟩
theorem uQ {code:Code} {c:Opd} {x y:AC} (h:cCode P N code=some (.cond c x y)):∃z a b,code= .cond z a b∧opd P 0 z=some c∧cCode P N a=some x∧cCode P N b=some y:=by
 cases code<;>simp only[cCode] at h<;>(try cases h)
 ·(repeat' split at h)<;>cases h
 ·(repeat' split at h)<;>cases h
 ·split at h
  ·cases h;exact ⟨_,_,_,rfl,‹_›,‹_›,‹_›⟩
  ·cases h
 all_goals first|(simp at h;done)|((repeat' split at h)<;>cases h;done)
theorem Wp.cond {c:Opd} {x y:AC} {b:Bool} (hb:ev s.t c= .bool b) (h:Wp P N (if b then x else y) s Q):Wp P N (.cond c x y) s Q:=by
 intro code hc
 obtain ⟨z,p,q,rfl,h1,h2,h3⟩:=uQ hc
 obtain ⟨e,s',r,q⟩:=h (if b then p else q) (by cases b<;>simpa)
 refine ⟨e,s',⟨r.1,fun ro okc G w a rel F=>?_⟩,q⟩
 have hz:a.eval z= .bool b:=by
  have:=ar h1 rel.t
  rw[hb] at this
  simpa only[ak] using this
 exact wpIn_cond hz (by have:=r.2 ro (okc.cond b) G w a rel F;cases b<;>exact this)
theorem Wp.cond_true {c:Opd} {x y:AC} (hb:ev s.t c= .bool true) (h:Wp P N x s Q):Wp P N (.cond c x y) s Q:=Wp.cond hb h
theorem Wp.cond_false {c:Opd} {x y:AC} (hb:ev s.t c= .bool false) (h:Wp P N y s Q):Wp P N (.cond c x y) s Q:=Wp.cond hb h
theorem Wp.gA {c:Opd} {x y:AC} {b:Bool} (hb:ev s.t c= .bool b) (ht:b=true→Wp P N x s Q) (hf:b=false→Wp P N y s Q):Wp P N (.cond c x y) s Q:=by
 cases b
 ·exact Wp.cond hb (hf rfl)
 ·exact Wp.cond hb (ht rfl)
def aC.inBlock (id:Nat) (Q:aC→St→Prop):aC→St→Prop
 | .exit i,s=>if i=id then Q .normal s else Q (.exit i) s
 |e,s=>Q e s
theorem rG {code:Code} {id:Nat} {x:AC} (h:cCode P N code=some (.block id x)):∃a,code= .block id a∧cCode P N a=some x:=by
 cases code<;>simp only[cCode] at h<;>(try cases h)
 ·(repeat' split at h)<;>cases h
 ·(repeat' split at h)<;>cases h
 ·(repeat' split at h)<;>cases h
 ·simp only[Option.map_eq_some_iff] at h
  obtain ⟨a,h1,h2⟩:=h
  cases h2
  exact ⟨_,rfl,h1⟩
 all_goals first|(simp at h;done)|((repeat' split at h)<;>cases h;done)
theorem Wp.block {id:Nat} {x:AC} (h:Wp P N x s (aC.inBlock id Q)):Wp P N (.block id x) s Q:=by
 intro code hc
 obtain ⟨a,rfl,ha⟩:=rG hc
 obtain ⟨e,s1,r1,q1⟩:=h a ha
 cases e with
 |normal=>
  refine ⟨.normal,s1,⟨r1.1,fun ro okc G w ac r F=>wpIn_block (wpIn_mono (r1.2 ro okc.block G w ac r F) ?_)⟩,q1⟩
  rintro e' a' w' ⟨h1,h2⟩
  cases e'<;>simp only[aC.cU] at h1
  exact ⟨trivial,h2⟩
 |goto l=>
  refine ⟨.goto l,s1,⟨r1.1,fun ro okc G w ac r F=>wpIn_block (wpIn_mono (r1.2 ro okc.block G w ac r F) ?_)⟩,q1⟩
  rintro e' a' w' ⟨h1,h2⟩
  cases e'<;>simp only[aC.cU] at h1
  exact ⟨h1,h2⟩
 |ret=>
  refine ⟨.ret,s1,⟨r1.1,fun ro okc G w ac r F=>wpIn_block (wpIn_mono (r1.2 ro okc.block G w ac r F) ?_)⟩,q1⟩
  rintro e' a' w' ⟨h1,h2⟩
  cases e'<;>simp only[aC.cU] at h1
  exact ⟨trivial,h2⟩
 |panic v=>
  refine ⟨.panic v,s1,⟨r1.1,fun ro okc G w ac r F=>wpIn_block (wpIn_mono (r1.2 ro okc.block G w ac r F) ?_)⟩,q1⟩
  rintro e' a' w' ⟨h1,h2⟩
  cases e'<;>simp only[aC.cU] at h1
  exact ⟨h1,h2⟩
 |exit i=>
  simp only[aC.inBlock] at q1
  by_cases hi:i=id
  ·rw[if_pos hi] at q1
   refine ⟨.normal,s1,⟨r1.1,fun ro okc G w ac r F=>wpIn_block (wpIn_mono (r1.2 ro okc.block G w ac r F) ?_)⟩,q1⟩
   rintro e' a' w' ⟨h1,h2⟩
   cases e'<;>simp only[aC.cU] at h1
   subst h1
   simp only[Exit.inBlock,hi,if_true]
   exact ⟨trivial,h2⟩
  ·rw[if_neg hi] at q1
   refine ⟨.exit i,s1,⟨r1.1,fun ro okc G w ac r F=>wpIn_block (wpIn_mono (r1.2 ro okc.block G w ac r F) ?_)⟩,q1⟩
   rintro e' a' w' ⟨h1,h2⟩
   cases e'<;>simp only[aC.cU] at h1
   subst h1
   simp only[Exit.inBlock,hi,if_false]
   exact ⟨rfl,h2⟩
structure aI (s s':St):Prop where
 n:s.h.n≤s'.h.n
 m:s.h.m≤s'.h.m
 go:∀N G w a,Rel N s G w a→bD G s.h s'.h→∃G',Trans G w s.h G' w s'.h∧Rel N s' G' w a
theorem aI.refl (s:St):aI s s:=⟨Nat.le_refl _,Nat.le_refl _,fun N G w a r _=>⟨G,Trans.refl _ _ _,r⟩⟩
theorem aI.trans {s s' s'':St} (a:aI s s') (b:aI s' s''):aI s s'':=by
 refine ⟨Nat.le_trans a.n b.n,Nat.le_trans a.m b.m,fun N G w ac r F=>?_⟩
 obtain ⟨G1,T1,r1⟩:=a.go N G w ac r (F.sub (Nat.le_refl _) b.n (Nat.le_refl _) b.m)
 obtain ⟨G2,T2,r2⟩:=b.go N G1 w ac r1 (F.step T1)
 exact ⟨G2,T1.trans r.h r1.h T2,r2⟩
def cD:Obj→Obj→Prop
 | .cells cs,.cells cs'=>al cs cs'
 | .map es,.map es'=>es=es'
 | .loop N t ps a b st p,o'=>o'= .loop N t ps a b st p
 | .raw c,o'=>o'= .raw c
 |_,_=>False
theorem cD.refl (o:Obj):cD o o:=by cases o<;>simp[cD,al.refl]
def HLe (h h':H):Prop:=(∀j o',h'.objs j=some o'→∃o,h.objs j=some o∧cD o o')∧∀t∈h'.toks,t∈h.toks
theorem H.sub.le {h h':H} (s:h'.sub h):HLe h h':=⟨fun j o x=>⟨o,s.1 j o x,cD.refl o⟩,s.2⟩
theorem kS.sub {G:aD} {w:World} {o o':Obj} {x:Option Go.Obj} (h:kS G w o x) (s:cD o o'):kS G w o' x:=by
 cases o<;>cases o'<;>simp only[cD] at s
 ·simp only[kS] at h ⊢
  obtain ⟨vs,rest,T,fr,h1,h2,h3⟩:=h
  exact ⟨vs,rest,T,fr,h1,s G w vs h2,h3⟩
 ·subst s;exact h
 all_goals (rw [s];exact h)
theorem aK.le {G:aD} {w:World} {h h':H} (R:aK G h w) (s:HLe h h'):aK G h' w where
 obj id o' ho':=by
  obtain ⟨o,ho,hs⟩:=s.1 id o' ho'
  obtain ⟨a,b,c,d⟩:=R.obj id o ho
  exact ⟨a,b,c,d.sub hs⟩
 inj id id' o o' ho ho':=by
  obtain ⟨p,hp,-⟩:=s.1 id o ho
  obtain ⟨p',hp',-⟩:=s.1 id' o' ho'
  exact R.inj id id' p p' hp hp'
 tok t ht:=R.tok t (s.2 t ht)
 tinj t ht t' ht':=R.tinj t (s.2 t ht) t' (s.2 t' ht')
theorem Trans.le {G:aD} {w:World} {h h':H} (s:HLe h h') (n:h.n≤h'.n) (m:h.m≤h'.m):Trans G w h G w h' where
 dom_le _ x:=x
 dom_new _:= .inl
 ι_eq _ _:=rfl
 tdom_le _ x:=x
 tdom_new _:= .inl
 τ_eq _ _:=rfl
 n_le:=n
 m_le:=m
 size_le:=Nat.le_refl _
 os:=rfl
 output:=rfl
 form _ _:=aU.refl _
 keep _ _ _ _:=rfl
 own_keep _ _ _:=Iff.rfl
 lim_keep _ _ _ _:=rfl
 tok_keep _ _ _ _ e he:=⟨fun _ _=>rfl,fun e' he'=>by rw[he] at he';cases he';exact Nat.le_refl _⟩
 O_new _ _:=fun ⟨id,o,ho,e⟩=>let ⟨o',ho',_⟩:=s.1 id o ho;⟨id,o',ho',e⟩
 T_new _ _:=fun ⟨t,ht,e⟩=>⟨t,s.2 t ht,e⟩
 objs_new j o x:=let ⟨o',ho',_⟩:=s.1 j o x;.inl ⟨o',ho'⟩
 toks_new t x:= .inl (s.2 t x)
theorem aI.mk' {t t':Tm} {h h':H} (ht:∀i,aa (t i) (t' i)) (hh:HLe h h') (n:h.n≤h'.n) (m:h.m≤h'.m):aI ⟨t,h⟩ ⟨t',h'⟩:=
 ⟨n,m,fun N G w a r _=>⟨G,Trans.le hh n m,⟨r.size,fun i=>ht i G w _ (r.t i),r.h.le hh,r.df.mono (Trans.le hh n m)⟩⟩⟩
theorem aI.tok (t:Tm) (h:H):aI ⟨t,h⟩ ⟨t,{h with toks:=h.m::h.toks,m:=h.m+1}⟩:=by
 refine ⟨Nat.le_refl _,Nat.le_succ _,fun N G w a r F=>?_⟩
 have hm:¬G.tdom h.m:=F.2 h.m (Nat.le_refl _) (Nat.lt_succ_self _)
 let G':aD:={G with tdom:=fun x=>G.tdom x∨x=h.m,τ:=upd G.τ h.m none}
 have hτ:G'.τ h.m=none:=by simp[G',upd]
 have hne:∀x,G.tdom x→G'.τ x=G.τ x:=fun x hx=>by
  simp only[G',upd]
  rw[if_neg]
  rintro rfl;exact hm hx
 have T:Trans G w h G' w {h with toks:=h.m::h.toks,m:=h.m+1}:=by
  constructor
  ·exact fun _ x=>x
  ·exact fun _=> .inl
  ·exact fun _ _=>rfl
  ·exact fun _=> .inl
  ·rintro x (hx|rfl)
   ·exact .inl hx
   ·exact .inr ⟨Nat.le_refl _,Nat.lt_succ_self _⟩
  ·exact hne
  ·exact Nat.le_refl _
  ·exact Nat.le_succ _
  ·exact Nat.le_refl _
  ·rfl
  ·rfl
  ·exact fun _ _=>aU.refl _
  ·exact fun _ _ _ _=>rfl
  ·exact fun _ _ _=>Iff.rfl
  ·exact fun _ _ _ _=>rfl
  ·exact fun _ _ _ _ e he=>⟨fun _ _=>rfl,fun e' he'=>by
    have:G.lim _=some e':=he'
    rw[he] at this;cases this;exact Nat.le_refl _⟩
  ·exact fun _ _ x=>x
  ·rintro B _ ⟨x,hx,e,hte⟩
   rcases List.mem_cons.1 hx with rfl|hx
   ·rw[hτ] at hte;cases hte
   ·exact ⟨x,hx,e,by rw[←hte];exact (hne x (r.h.tok x hx).1).symm⟩
  ·exact fun j o x=> .inl ⟨o,x⟩
  ·intro x hx
   rcases List.mem_cons.1 hx with rfl|hx
   ·exact .inr ⟨Nat.le_refl _,Nat.lt_succ_self _⟩
   ·exact .inl hx
 refine ⟨G',T,r.size,fun i=>ak.mono r.h T _ _ (r.t i),⟨?_,r.h.inj,?_,?_⟩,r.df.mono T⟩
 ·intro id o ho
  obtain ⟨q1,q2,q3,q4⟩:=r.h.obj id o ho
  exact ⟨q1,q2,q3,q4.mono r.h T⟩
 ·intro x hx
  rcases List.mem_cons.1 hx with rfl|hx
  ·exact ⟨.inr rfl,fun B e hte=>by rw[hτ] at hte;cases hte⟩
  ·obtain ⟨q1,q2⟩:=r.h.tok x hx
   exact ⟨.inl q1,fun B e hte=>q2 B e (by rw[←hne x q1];exact hte)⟩
 ·intro x hx x' hx' B e e' h1 h2
  rcases List.mem_cons.1 hx with rfl|hx
  ·rw[hτ] at h1;cases h1
  ·rcases List.mem_cons.1 hx' with rfl|hx'
   ·rw[hτ] at h2;cases h2
   ·exact r.h.tinj x hx x' hx' B e e' (by rw[←hne x (r.h.tok x hx).1];exact h1) (by rw[←hne x' (r.h.tok x' hx').1];exact h2)
theorem Run.le {c:Code} {s' s'':St} {e:aC} (h:aI s s') (r:Run P N c s' e s''):Run P N c s e s'':=by
 obtain ⟨⟨rn,rm⟩,rr⟩:=r
 refine ⟨⟨Nat.le_trans h.n rn,Nat.le_trans h.m rm⟩,fun ro okc G w a rel F=>?_⟩
 obtain ⟨G1,T1,rel1⟩:=h.go N G w a rel (F.sub (Nat.le_refl _) rn (Nat.le_refl _) rm)
 refine wpIn_mono (rr ro okc G1 w a rel1 (F.step T1)) ?_
 rintro e' a' w' ⟨h1,h2,G',T,r'⟩
 exact ⟨h1,h2,G',T1.trans rel.h rel1.h T,r'⟩
theorem Wp.le {c:AC} {s':St} (h:aI s s') (hw:Wp P N c s' Q):Wp P N c s Q:=
 fun code hc=>let ⟨e,s'',r,q⟩:=hw code hc;⟨e,s'',r.le h,q⟩
theorem nA {code:Code} {x:AC} (h:cCode P N code=some (.loop x)):∃a,code= .loop a∧cCode P N a=some x:=by
 cases code<;>simp only[cCode] at h<;>(try cases h)
 ·(repeat' split at h)<;>cases h
 ·(repeat' split at h)<;>cases h
 ·(repeat' split at h)<;>cases h
 ·simp at h
 ·simp only[Option.map_eq_some_iff] at h
  obtain ⟨a,h1,h2⟩:=h
  cases h2
  exact ⟨_,rfl,h1⟩
 all_goals first|(simp at h;done)|((repeat' split at h)<;>cases h;done)
theorem rH {F:Fence} {n:Nat} {β:Type} {c:Code} {Q:Exit→Act→World→Prop} (I:β→Act→World→Prop) (μ:β→Nat)
  (round:∀b a w,I b a w→c.wpIn F n P (Exit.then (fun a' w'=>∃b',I b' a' w'∧μ b'<μ b) Q) a w) {b:β} {a:Act} {w:World} (h₀:I b a w):(Code.loop c).wpIn F n P Q a w:=by
 intro fr k cs hro hb hr
 have key:∀j b a w,μ b=j→I b a w→∃e a' w',Q e a' w'∧ArrivesIn (Machine.fenced P F) P (lone (fr.atR a (.code c:: .inLoop c::k)) cs w) fr k cs e a' w':=by
  intro j
  induction j using Nat.strongRecOn with
  |_ j ih=>
   intro b a w hn hI
   obtain ⟨e,a₁,w₁,hq,harr⟩:=round b a w hI fr (.inLoop c::k) cs hro hb hr
   cases e with
   |normal=>
    obtain ⟨b₁,hI₁,hlt⟩:=hq
    obtain ⟨e₂,a₂,w₂,hq₂,harr₂⟩:=ih (μ b₁) (hn▸hlt) b₁ a₁ w₁ rfl hI₁
    exact ⟨e₂,a₂,w₂,hq₂,.of_steps (StepsIn.trans harr (.one (fenced_calm hb hr rfl) stepR_inLoop)) harr₂⟩
   |exit id=>exact ⟨_,a₁,w₁,hq,.pass (x:= .inLoop c) rfl (fun _ _=> .inl (by simp)) harr⟩
   |goto l=>exact ⟨_,a₁,w₁,hq,.pass (x:= .inLoop c) rfl (fun _ _=> .inl (by simp)) harr⟩
   |ret=>exact ⟨_,a₁,w₁,hq,.pass (x:= .inLoop c) rfl (fun _ _=> .inl (by simp)) harr⟩
   |panic ch=>exact ⟨_,a₁,w₁,hq,.pass (x:= .inLoop c) rfl (fun _ _=> .inl (by simp)) harr⟩
   |outgrown=>exact ⟨_,a₁,w₁,hq,.pass (x:= .inLoop c) rfl (fun _ _=> .inl (by simp)) harr⟩
 obtain ⟨e,a',w',hq,harr⟩:=key _ b a w rfl h₀
 exact ⟨e,a',w',hq,.of_steps (.one (fenced_calm hb hr rfl) stepR_loop) harr⟩
inductive jh {β:Type} (P:Program) (N:Nat) (c:Code) (S:β→St) (μ:β→Nat):β→aC→St→Prop where
 |last {b:β} {e:aC} {s':St} (r:Run P N c (S b) e s') (hne:e≠ .normal):jh P N c S μ b e s'
 |more {b b':β} {e:aC} {s1 s':St} (r:Run P N c (S b) .normal s1) (hle:aI s1 (S b')) (hlt:μ b'<μ b) (rest:jh P N c S μ b' e s'):jh P N c S μ b e s'
theorem jh.nm {β:Type} {c:Code} {S:β→St} {μ:β→Nat} {b:β} {e:aC} {s':St} (h:jh P N c S μ b e s'):(S b).h.n≤s'.h.n∧(S b).h.m≤s'.h.m:=by
 induction h with
 |last r _=>exact r.1
 |more r hle _ _ ih=>have:=r.1;have:=hle.n;have:=hle.m;omega
theorem Wp.loop {β:Type} (S:β→St) (I:β→Prop) (μ:β→Nat) {c:AC} (b0:β) (h0:I b0) (hs:aI s (S b0))
  (round:∀b,I b→Wp P N c (S b) (aC.andThen (fun s'=>∃b',I b'∧μ b'<μ b∧aI s' (S b')) Q)):Wp P N (.loop c) s Q:=by
 intro code hc
 obtain ⟨x,rfl,hx⟩:=nA hc
 have ex:∀n b,μ b=n→I b→∃e s',jh P N x S μ b e s'∧Q e s':=by
  intro n
  induction n using Nat.strongRecOn with
  |_ n ih=>
   intro b hn hb
   obtain ⟨e,s1,r1,q1⟩:=round b hb x hx
   cases e with
   |normal=>
    obtain ⟨b',i1,i2,i3⟩:=q1
    obtain ⟨e,s',r',q'⟩:=ih (μ b') (hn▸i2) b' rfl i1
    exact ⟨e,s',.more r1 i3 i2 r',q'⟩
   |exit id=>exact ⟨_,s1,.last r1 (by simp),q1⟩
   |goto l=>exact ⟨_,s1,.last r1 (by simp),q1⟩
   |ret=>exact ⟨_,s1,.last r1 (by simp),q1⟩
   |panic v=>exact ⟨_,s1,.last r1 (by simp),q1⟩
 obtain ⟨e,s',hcm,q⟩:=ex _ b0 rfl h0
 refine ⟨e,s',Run.le hs ⟨hcm.nm,fun ro okc G0 w0 a0 rel0 F0=>?_⟩,q⟩
 refine rH (fun b a w=>jh P N x S μ b e s'∧jB w0 a0.defers a.defers∧∃G,Trans G0 w0 (S b0).h G w (S b).h∧Rel N (S b) G w a∧bD G (S b).h s'.h) μ ?_ ⟨hcm,.refl,G0,Trans.refl _ _ _,rel0,F0⟩
 rintro b a w ⟨hcm,hd,G,T,rel,F⟩
 cases hcm with
 |last r hne=>
  refine wpIn_mono (r.2 ro okc.loop G w a rel F) ?_
  rintro e' a' w' ⟨h1,h2,G',T',r'⟩
  have:e'≠ .normal:=by
   rintro rfl
   cases e<;>simp[aC.cU] at h1 hne
  have hgoal:e.cU e'∧jB w0 a0.defers a'.defers∧∃G',Trans G0 w0 (S b0).h G' w' s'.h∧Rel N s' G' w' a':=⟨h1,hd.trans T.size_le h2,G',T.trans rel0.h rel.h T',r'⟩
  cases e'<;>first|exact hgoal|exact absurd rfl this
 |more r hle hlt rest=>
  have nm:=rest.nm
  refine wpIn_mono (r.2 ro okc.loop G w a rel (F.sub (Nat.le_refl _) (Nat.le_trans hle.n nm.1) (Nat.le_refl _) (Nat.le_trans hle.m nm.2))) ?_
  rintro e' a' w' ⟨h1,h2,G',T',r'⟩
  cases e'<;>simp only[aC.cU] at h1
  rename_i b' s1
  have F1:=F.step T'
  obtain ⟨G2,T2,r2⟩:=hle.go N G' w' a' r' (F1.sub (Nat.le_refl _) nm.1 (Nat.le_refl _) nm.2)
  have T3:=(T.trans rel0.h rel.h T').trans rel0.h r'.h T2
  exact ⟨b',⟨rest,hd.trans T.size_le h2,G2,T3,r2,F1.step T2⟩,hlt⟩
def dA:AC→Nat→Option AC
 | .seq a b,l=>match dA a l with
  |some r=>some (.seq r b)
  |none=>dA b l
 | .label l',l=>if l'=l then some .skip else none
 |_,_=>none
theorem rI {l:Nat}:∀{c:Code} {x:AC},cCode P N c=some x→match findLabel c l with|some rest=>∃y,cCode P N rest=some y∧dA x l=some y|none=>dA x l=none:=by
 intro c
 induction c with
 |seq a b iha ihb=>
  intro x h
  obtain ⟨a',b',he,h1,h2⟩:∃a' b',x= .seq a' b'∧cCode P N a=some a'∧cCode P N b=some b':=by
   simp only[cCode] at h
   split at h
   ·cases h;exact ⟨_,_,rfl,‹_›,‹_›⟩
   ·cases h
  subst he
  have ga:=iha h1
  have gb:=ihb h2
  simp only[findLabel,dA]
  cases hf:findLabel a l with
  |some rest=>
   rw[hf] at ga
   obtain ⟨y,y1,y2⟩:=ga
   simp only[y2]
   exact ⟨_,by simp only[cCode,y1,h2],rfl⟩
  |none=>
   rw[hf] at ga
   simp only at ga
   simp only[ga]
   exact gb
 |label l'=>
  intro x h
  simp only[cCode,Option.some.injEq] at h
  subst h
  simp only[findLabel,dA]
  by_cases e:l'=l
  ·simp only[e,beq_self_eq_true,if_true]
   exact ⟨.skip,rfl,rfl⟩
  ·have:(l' == l)=false:=by simpa using e
   simp only[this,if_neg e,Bool.false_eq_true,if_false]
 |skip=>intro x h;simp only[cCode,Option.some.injEq] at h;subst h;simp[findLabel,dA]
 |region id ops draw=>
  intro x h
  simp only[cCode] at h
  (repeat' split at h)<;>cases h<;>simp[findLabel,dA]
 |cond z a b _ _=>
  intro x h
  simp only[cCode] at h
  split at h<;>cases h
  simp[findLabel,dA]
 |block id a _=>intro x h;simp only[cCode,Option.map_eq_some_iff] at h;obtain ⟨_,_,rfl⟩:=h;simp[findLabel,dA]
 |loop a _=>intro x h;simp only[cCode,Option.map_eq_some_iff] at h;obtain ⟨_,_,rfl⟩:=h;simp[findLabel,dA]
 |rangeFunc g ps a b _ _=>
  intro x h
  simp only[cCode] at h
  (repeat' split at h)<;>cases h<;>simp[findLabel,dA]
 |exit id=>intro x h;simp only[cCode,Option.some.injEq] at h;subst h;simp[findLabel,dA]
 |scope a _=>intro x h;simp only[cCode,Option.map_eq_some_iff] at h;obtain ⟨_,_,rfl⟩:=h;simp[findLabel,dA]
 |goto l'=>intro x h;simp only[cCode,Option.some.injEq] at h;subst h;simp[findLabel,dA]
 |ret=>intro x h;simp only[cCode,Option.some.injEq] at h;subst h;simp[findLabel,dA]
 |refuse=>intro x h;simp[cCode] at h
def iM (F:Fence) (n:Nat) (P:Program) (c cur:Code) (Q:Exit→Act→World→Prop) (a:Act) (w:World):Prop:=
 ∀(b:Frame) (k:List Item) (cs:List Frame),b.roundOf=F.round→F.fn b.fn→F.room (cs.length+1+n)→
  ∃e a' w',Q e a' w'∧ArrivesIn (Machine.fenced P F) P (lone (b.atR a (.code cur:: .inScope c::k)) cs w) b k cs e a' w'
theorem pT {b:Frame} {a:Act} {k:List Item} {cs:List Frame} {w:World} {c:Code}:step P (lone (b.atR a (.code (.scope c)::k)) cs w)= .next (lone (b.atR a (.code c:: .inScope c::k)) cs w):=
 step_lone_go (by simp[stepG,stepG.exec,Frame.atR])
theorem nh {b:Frame} {a:Act} {k:List Item} {cs:List Frame} {w:World} {c:Code}:step P (lone (b.atR a (.inScope c::k)) cs w)= .next (lone (b.atR a k) cs w):=
 step_lone_go (by simp[stepG,stepG.exec,Frame.atR])
theorem iM.start {F:Fence} {n:Nat} {c:Code} {Q:Exit→Act→World→Prop} {a:Act} {w:World} (h:iM F n P c c Q a w):(Code.scope c).wpIn F n P Q a w:=by
 intro b k cs hro hb hr
 obtain ⟨e,a₁,w₁,hq,harr⟩:=h b k cs hro hb hr
 exact ⟨e,a₁,w₁,hq,.of_steps (.one (fenced_calm hb hr rfl) pT) harr⟩
def Exit.within (F:Fence) (n:Nat) (P:Program) (c:Code) (Q:Exit→Act→World→Prop):Exit→Act→World→Prop
 | .goto l,a,w=>match findLabel c l with
  |some rest=>iM F n P c rest Q a w
  |none=>Q (.goto l) a w
 |e,a,w=>Q e a w
theorem iM.step {F:Fence} {n:Nat} {c cur:Code} {Q:Exit→Act→World→Prop} {a:Act} {w:World} (h:cur.wpIn F n P (Exit.within F n P c Q) a w):iM F n P c cur Q a w:=by
 intro b k cs hro hb hr
 obtain ⟨e,a₁,w₁,hq,harr⟩:=h b (.inScope c::k) cs hro hb hr
 cases e with
 |normal=>exact ⟨.normal,a₁,w₁,hq,StepsIn.trans harr (.one (fenced_calm hb hr rfl) nh)⟩
 |exit id=>exact ⟨.exit id,a₁,w₁,hq,fun k' hk=>harr.1 k' (by simp[exitTo,hk]),fun h1 h2=>harr.2 h1 (by simp[exitTo,h2])⟩
 |goto l=>
  simp only[Exit.within] at hq
  cases hf:findLabel c l with
  |some rest=>
   rw[hf] at hq
   obtain ⟨e₂,a₂,w₂,hq₂,harr₂⟩:=hq b k cs hro hb hr
   exact ⟨e₂,a₂,w₂,hq₂,.of_steps (harr.1 _ (by simp[gotoIn,hf])) harr₂⟩
  |none=>
   rw[hf] at hq
   exact ⟨.goto l,a₁,w₁,hq,fun k' hk=>harr.1 k' (by simp[gotoIn,hf,hk]),fun h1 h2=>harr.2 h1 (by simp[gotoIn,hf,h2])⟩
 |ret=>exact ⟨_,a₁,w₁,hq,harr⟩
 |panic ch=>exact ⟨_,a₁,w₁,hq,harr⟩
 |outgrown=>exact ⟨_,a₁,w₁,hq,harr⟩
def zo (P:Program) (N:Nat) (c cur:Code) (s:St) (e:aC) (s':St):Prop:=
 (s.h.n≤s'.h.n∧s.h.m≤s'.h.m)∧∀ro,okR c ro→okR cur ro→∀G w a,Rel N s G w a→bD G s.h s'.h→iM (rd ro) 0 P c cur (fun e' a' w'=>e.cU e'∧jB w a.defers a'.defers∧∃G',Trans G w s.h G' w' s'.h∧Rel N s' G' w' a') a w
def WpS (P:Program) (N:Nat) (c cur:AC) (s:St) (Q:aC→St→Prop):Prop:=
 ∀code ccur,cCode P N code=some c→cCode P N ccur=some cur→∃e s',zo P N code ccur s e s'∧Q e s'
theorem rJ {code:Code} {x:AC} (h:cCode P N code=some (.scope x)):∃a,code= .scope a∧cCode P N a=some x:=by
 cases code<;>simp only[cCode] at h<;>(try cases h)
 all_goals first
  |(simp only[Option.map_eq_some_iff] at h
    obtain ⟨a,h1,h2⟩:=h
    cases h2
    exact ⟨_,rfl,h1⟩)
  |(simp at h;done)
  |((repeat' split at h)<;>cases h;done)
theorem rK {code:Code} {l:Nat} (h:cCode P N code=some (.label l)):code= .label l:=by
 cases code<;>simp only[cCode] at h<;>(try cases h)<;>(try rfl)
 all_goals first|((repeat' split at h)<;>cases h;done)|(simp at h;done)
theorem uR {code:Code} {l:Nat} (h:cCode P N code=some (.goto l)):code= .goto l:=by
 cases code<;>simp only[cCode] at h<;>(try cases h)<;>(try rfl)
 all_goals first|((repeat' split at h)<;>cases h;done)|(simp at h;done)
theorem Wp.label {l:Nat} (h:Q .normal s):Wp P N (.label l) s Q:=by
 intro code hc
 obtain rfl:=rK hc
 exact ⟨.normal,s,⟨⟨Nat.le_refl _,Nat.le_refl _⟩,fun ro okc G w a r _=>wpIn_label ⟨trivial,.refl,G,Trans.refl _ _ _,r⟩⟩,h⟩
theorem Wp.goto {l:Nat} (h:Q (.goto l) s):Wp P N (.goto l) s Q:=by
 intro code hc
 obtain rfl:=uR hc
 exact ⟨.goto l,s,⟨⟨Nat.le_refl _,Nat.le_refl _⟩,fun ro okc G w a r _=>wpIn_goto ⟨rfl,.refl,G,Trans.refl _ _ _,r⟩⟩,h⟩
theorem Wp.scope {c:AC} (h:WpS P N c c s Q):Wp P N (.scope c) s Q:=by
 intro code hc
 obtain ⟨x,rfl,hx⟩:=rJ hc
 obtain ⟨e,s',r,q⟩:=h x x hx hx
 exact ⟨e,s',⟨r.1,fun ro okc G w a rel F=>(r.2 ro okc.scope okc.scope G w a rel F).start⟩,q⟩
theorem zo.le {c cur:Code} {s' s'':St} {e:aC} (h:aI s s') (r:zo P N c cur s' e s''):zo P N c cur s e s'':=by
 obtain ⟨⟨rn,rm⟩,rr⟩:=r
 refine ⟨⟨Nat.le_trans h.n rn,Nat.le_trans h.m rm⟩,fun ro okc okd G w a rel F=>?_⟩
 obtain ⟨G1,T1,rel1⟩:=h.go N G w a rel (F.sub (Nat.le_refl _) rn (Nat.le_refl _) rm)
 intro b k cs hro hb hr
 obtain ⟨e',a',w',⟨h1,h2,G',T,r'⟩,harr⟩:=rr ro okc okd G1 w a rel1 (F.step T1) b k cs hro hb hr
 exact ⟨e',a',w',⟨h1,h2,G',T1.trans rel.h rel1.h T,r'⟩,harr⟩
theorem WpS.le {c cur:AC} {s':St} (h:aI s s') (hw:WpS P N c cur s' Q):WpS P N c cur s Q:=
 fun code ccur h1 h2=>let ⟨e,s'',r,q⟩:=hw code ccur h1 h2;⟨e,s'',r.le h,q⟩
def aC.within (P:Program) (N:Nat) (c:AC) (Q:aC→St→Prop):aC→St→Prop
 | .goto l,s=>match dA c l with
  |some rest=>WpS P N c rest s Q
  |none=>Q (.goto l) s
 |e,s=>Q e s
theorem WpS.step {c cur:AC} (h:Wp P N cur s (aC.within P N c Q)):WpS P N c cur s Q:=by
 intro code ccur hc hcur
 obtain ⟨e,s1,r1,q1⟩:=h ccur hcur
 cases e with
 |normal=>
  refine ⟨.normal,s1,⟨r1.1,fun ro okc okd G w ac r F=> .step (wpIn_mono (r1.2 ro okd G w ac r F) ?_)⟩,q1⟩
  rintro e' a' w' ⟨h1,h2⟩
  cases e'<;>simp only[aC.cU] at h1
  exact ⟨trivial,h2⟩
 |ret=>
  refine ⟨.ret,s1,⟨r1.1,fun ro okc okd G w ac r F=> .step (wpIn_mono (r1.2 ro okd G w ac r F) ?_)⟩,q1⟩
  rintro e' a' w' ⟨h1,h2⟩
  cases e'<;>simp only[aC.cU] at h1
  exact ⟨trivial,h2⟩
 |panic v=>
  refine ⟨.panic v,s1,⟨r1.1,fun ro okc okd G w ac r F=> .step (wpIn_mono (r1.2 ro okd G w ac r F) ?_)⟩,q1⟩
  rintro e' a' w' ⟨h1,h2⟩
  cases e'<;>simp only[aC.cU] at h1
  exact ⟨h1,h2⟩
 |exit i=>
  refine ⟨.exit i,s1,⟨r1.1,fun ro okc okd G w ac r F=> .step (wpIn_mono (r1.2 ro okd G w ac r F) ?_)⟩,q1⟩
  rintro e' a' w' ⟨h1,h2⟩
  cases e'<;>simp only[aC.cU] at h1
  exact ⟨h1,h2⟩
 |goto l=>
  simp only[aC.within] at q1
  have hfl:=rI (l:=l) hc
  cases hf:findLabel code l with
  |none=>
   rw[hf] at hfl
   simp only at hfl
   rw[hfl] at q1
   refine ⟨.goto l,s1,⟨r1.1,fun ro okc okd G w ac r F=> .step (wpIn_mono (r1.2 ro okd G w ac r F) ?_)⟩,q1⟩
   rintro e' a' w' ⟨h1,h2⟩
   cases e'<;>simp only[aC.cU] at h1
   subst h1
   simp only[Exit.within,hf]
   exact ⟨rfl,h2⟩
  |some rest=>
   rw[hf] at hfl
   obtain ⟨y,y1,y2⟩:=hfl
   rw[y2] at q1
   obtain ⟨e2,s2,r2,q2⟩:=q1 code rest hc y1
   obtain ⟨⟨l1,l2⟩,r1⟩:=r1
   obtain ⟨⟨l3,l4⟩,r2⟩:=r2
   refine ⟨e2,s2,⟨⟨by omega,by omega⟩,fun ro okc okd G w ac r F=> .step (wpIn_mono (r1 ro okd G w ac r (F.sub (Nat.le_refl _) l3 (Nat.le_refl _) l4)) ?_)⟩,q2⟩
   rintro e' a' w' ⟨h1,h2,G',T1,r'⟩
   cases e'<;>simp only[aC.cU] at h1
   subst h1
   simp only[Exit.within,hf]
   intro b k cs hro hb hr
   obtain ⟨e'',a'',w'',⟨k1,k2,G'',T2,r''⟩,harr⟩:=r2 ro okc (okc.find hf) G' w' a' r' (F.step T1) b k cs hro hb hr
   exact ⟨e'',a'',w'',⟨k1,h2.trans T1.size_le k2,G'',T1.trans r.h r'.h T2,r''⟩,harr⟩
end
end Go.Av
end
section
namespace Go.Av
section
variable {P:Program} {N:Nat}
theorem hR {ρ ρ':Opd→AV}:∀{l:List (Nat × Nat × Opd)} {cs:List AV},(∀x∈l.map (fun p=>p.2.2),ρ x=ρ' x)→cK ρ l cs=cK ρ' l cs
 |[],_,_=>rfl
 |(off,n,x)::l,cs,h=>by
  have hx:ρ x=ρ' x:=h x (by simp)
  simp only[cK,hx]
  split
  ·exact hR fun y hy=>h y (by simp at hy ⊢;exact .inr hy)
  ·rfl
theorem uS {ρ ρ':Opd→AV} {h:H} {op:AOp} (hh:∀x∈aX op,ρ x=ρ' x):aop ρ h op=aop ρ' h op:=by
 cases op with
 |build z parts=>simp only[aop,hR (l:=parts) hh]
 |raw k xs=>
  have e1:xs.map ρ=xs.map ρ':=List.map_congr_left fun x hx=>hh x (by simpa [aX] using hx)
  simp only[aop,e1]
 |buildSl sz parts=>
  have e1:parts.map ρ=parts.map ρ':=List.map_congr_left hh
  have e2:parts.all (fun x=>decide ((cellsOf (ρ x)).length=sz∧shaped (ρ x)=true))=parts.all (fun x=>decide ((cellsOf (ρ' x)).length=sz∧shaped (ρ' x)=true)):=by
   rw[Bool.eq_iff_iff]
   simp only[List.all_eq_true]
   exact ⟨fun k x hx=>by rw[←hh x hx];exact k x hx,fun k x hx=>by rw[hh x hx];exact k x hx⟩
  simp only[aop,e1,e2]
 |mkfn fn a b=>
  have e1:a.map ρ=a.map ρ':=List.map_congr_left fun x hx=>hh x (by simp[aX,hx])
  have e2:b.map ρ=b.map ρ':=List.map_congr_left fun x hx=>hh x (by simp[aX,hx])
  simp only[aop,e1,e2]
 |slc str sz x a b c=>
  have e0:ρ x=ρ' x:=hh x (by simp[aX])
  have e1:∀y:Option Opd,(∀z∈y.toList,ρ z=ρ' z)→y.map ρ=y.map ρ':=by
   intro y hy;cases y with
   |none=>rfl
   |some z=>simp[hy z (by simp)]
  have e2:(c.map fun m=>some (ρ m))=(c.map fun m=>some (ρ' m)):=by
   cases c with
   |none=>rfl
   |some z=>simp[hh z (by simp[aX])]
  simp only[aop,e0,e1 a (fun z hz=>hh z (by simp only[aX,List.mem_cons,List.mem_append];exact .inr (.inl (.inl hz)))),e1 b (fun z hz=>hh z (by simp only[aX,List.mem_cons,List.mem_append];exact .inr (.inl (.inr hz)))),e2]
 |call f l=>rfl
 |callv x l=>rfl
 |alloc z=>rfl
 |dead=>rfl
 |pan x=>rfl
 |_=>simp[aX] at hh;simp only[aop,hh]
def fY (l:List Nat) (t:Tm):Tm:=fun i=>if l.contains i then t i else .any
theorem er {l:List Nat} {G:aD} {w:World} {t:Tm} {a:Act} (h:TOn l G w t a):bk G w (fY l t) a:=by
 intro i
 unfold fY
 split
 ·rename_i hh;exact h i (by simpa using hh)
 ·simp[ak]
theorem hX {l:List Nat} {t:Tm} {xs:List Opd} (h:(tmpsOf xs).all (fun i=>l.contains i)=true):∀x∈xs,ev (fY l t) x=ev t x:=by
 intro x hx
 cases x with
 |c a=>rfl
 |t i=>
  simp only[ev,fY]
  rw[List.all_eq_true] at h
  have:=h i (by simp only[tmpsOf,List.mem_filterMap];exact ⟨_,hx,rfl⟩)
  rw[if_pos this]
def guardOf (t:Tm) (g:Option (Nat × Bool)):Option Bool:=
 match g with
 |none=>some true
 |some (d,w)=>match t d with
  | .bool b=>some (b == w)
  | .sc (.tuple _)=>some false
  |_=>none
theorem bG {ops:Array Oper} {o:Oper} {g:Option (Nat × Bool)} {t:Tm} {a:Act} {G:aD} {w:World} {b:Bool} (hg:oH ops o.guard=some g) (ht:TOn (names ops o) G w t a) (hb:guardOf t g=some b):
  Region.wanted o (yielded ops a.tmps)=b:=by
 unfold Region.wanted
 cases hog:o.guard with
 |none=>
  rw[hog] at hg
  simp[oH] at hg;subst hg
  simp[guardOf] at hb;simp[hb]
 |some jw=>
  obtain ⟨j,want⟩:=jw
  rw[hog] at hg
  simp only[oH] at hg
  split at hg
  ·rename_i d hd
   cases hg
   simp only[guardOf] at hb
   split at hb
   ·rename_i c hc
    cases hb
    have hr:=ht d (by simp only[names,hog,List.mem_append];right;simp[hd])
    rw[hc] at hr
    simp only[ak] at hr
    have hy:yielded ops a.tmps j=some c:=by
     unfold yielded
     rw[hd]
     simp only[Option.bind_some]
     have:a.tmps[d]? =some (.bool c):=by
      cases hk:a.tmps[d]? with
      |none=>simp[hk] at hr;simp[undef] at hr
      |some v=>simp[hk] at hr;rw[hr]
     rw[this]
    simp only[hy]
    cases c<;>cases want<;>rfl
   ·rename_i xs hc
    cases hb
    have hr:=ht d (by simp only[names,hog,List.mem_append];right;simp[hd])
    rw[hc] at hr
    simp only[ak] at hr
    have hy:yielded ops a.tmps j=none:=by
     unfold yielded
     rw[hd]
     simp only[Option.bind_some]
     cases hk:a.tmps[d]? with
     |none=>rfl
     |some v=>simp[hk] at hr;rw[hr]
    simp only[hy]
    cases want<;>rfl
   ·cases hb
  ·cases hg
theorem dB {o:Oper} {op:AOp} (h:cOp P o=some op):∀c,o.op≠ .defer c:=by
 intro c e
 unfold cOp at h
 rw[e] at h
 cases h
theorem l6 {ro:Option Nat} {n:Nat} {f:FuncId} {args:Array Value} {w:World} {R:Ending→World→Prop} (h:Calls P f args w R):CallsIn (rd ro) n P f args w R:=by
 have h2:CallsIn Fence.wide n P f args w R:=callsIn_wide.2 h
 exact h2
theorem ij {ops:Array Oper} {i:Nat} {o:Oper} {it:aE} {t:Tm} {h h':H} {x:AV} {en:Ent} (ho:ops[i]? =some o) (hit:bA P N ops o=some it) (hg:guardOf t it.guard=some true) (hx:aop (ev t) h it.op=some (x,h',en)):
  ∃h1 h1',Touch h h1 h1' h' en∧dK P ops i o t h1 x h1':=by
 unfold bA at hit
 split at hit
 ·rename_i op g hop hgd
  split at hit<;>cases hit
  rename_i hcond
  simp only[Bool.and_eq_true] at hcond
  have hx':aop (ev (fY (names ops o) t)) h op=some (x,h',en):=by
   rw[uS (hX hcond.2)];exact hx
  obtain ⟨hpl,h1,h1',tc,loc⟩:(∀c,o.op≠ .defer c)∧Loc P o (fY (names ops o) t) h x h' en:=by
   cases hr:nz op with
   |false=>
    have hop:=fv hop (by rintro rfl;simp[aop] at hx) hr
    exact ⟨dB hop,zh hop hx'⟩
   |true=>
    cases op<;>simp[nz] at hr
    have hop:=wM hop
    refine ⟨ry hop,?_⟩
    simp only[aop,Option.map_eq_some_iff,Prod.mk.injEq] at hx'
    obtain ⟨v,hv,rfl,rfl,rfl⟩:=hx'
    exact Loc.plain fun G w a ht=>uN hop hv ht
  refine ⟨h1,h1',tc,fun G w a ht R F K Q hK ro=>?_⟩
  obtain ⟨nx,v,w',G',e1,e2,T1,R1,V⟩:=loc G w a (er ht) R F
  unfold wpOpIn
  rw[ho]
  simp only[bG hgd ht hg,if_true]
  refine ⟨fun _ _=>trivial,?_⟩
  rw[Oper.semAt_eq _ _ _ hpl,e1]
  rcases e2 with rfl|⟨rfl,rfl⟩
  ·rw[Oper.uponIn_value];exact hK G' w' v T1 R1 V
  ·rw[Oper.uponIn_skip];exact hK G' w' undef T1 R1 V
 ·cases hit
theorem gB {ops:Array Oper} {i:Nat} {o:Oper} {it:aE} {t:Tm} {h:H} (ho:ops[i]? =some o) (hit:bA P N ops o=some it) (hg:guardOf t it.guard=some false):
  dK P ops i o t (H0 h.n h.m) (.sc undef) (H0 h.n h.m):=by
 unfold bA at hit
 split at hit
 ·rename_i op g hop hgd
  split at hit<;>cases hit
  intro G w a ht R F K Q hK ro
  unfold wpOpIn
  rw[ho]
  simp only[bG hgd ht hg,if_false,Bool.false_eq_true]
  refine ⟨fun _ _=>trivial,?_⟩
  exact hK G w undef (Trans.refl _ _ _) R (by simp[ak])
 ·cases hit
theorem wP {o:Oper} {f:FuncId} {l:List Opd} (h:cOp P o=some (.call f l)):∃c fn,o.op= .call c∧c.callee= .value (.func f)∧jd P c.argTypes.toList c.args.toList=some l∧P.funcs[f]? =some fn∧fn.body.isSome=true∧fn.name≠ "runtime.NumGoroutine" :=by
 unfold cOp at h
 split at h
 case h_28 c hop=>
  split at h
  case h_8 f' hc=>
   split at h
   ·split at h
    ·rename_i fn hfn hcond
     simp only[Option.map_eq_some_iff] at h
     obtain ⟨l',h1,h2⟩:=h
     cases h2
     exact ⟨c,fn,hop,hc,h1,hfn,hcond.1,hcond.2⟩
    ·cases h
   ·cases h
  all_goals first
   |(cases h;done)
   |((repeat' split at h)<;>(try cases h)<;>simp at h)
 all_goals first
  |(cases h;done)
  |(simp at h;done)
  |((repeat' split at h)<;>(try cases h)<;>(try simp at h);done)
  |skip
theorem nB {o:Oper} {y:Opd} {l:List Opd} (h:cOp P o=some (.callv y l)):∃c z,o.op= .call c∧c.callee= .value z∧opd P 0 z=some y∧jd P c.argTypes.toList c.args.toList=some l:=by
 unfold cOp at h
 split at h
 case h_28 c hop=>
  split at h
  case h_9 z _ hc=>
   split at h
   ·rename_i a l' h1 h2
    cases h
    exact ⟨c,z,hop,hc,h1,h2⟩
   ·cases h
  all_goals first
   |(cases h;done)
   |((repeat' split at h)<;>(try cases h)<;>simp at h)
 all_goals first
  |(cases h;done)
  |(simp at h;done)
  |((repeat' split at h)<;>(try cases h)<;>(try simp at h);done)
theorem gC {f:FuncId} {fn:Func} {args:Array Value} (w:World) (hf:P.funcs[f]? =some fn) (hb:fn.body.isSome=true) (hn:fn.name≠ "runtime.NumGoroutine"):(callFunc f args).run P w= .ok (.enter f args) w:=by
 have hb':fn.body≠none:=by intro h;rw[h] at hb;cases hb
 simp[callFunc,hf,hn,hb']
theorem l7 {o:Oper} {f:FuncId} {vals:List AV} {h1 h1':H} {r:AV} (hc:aM P f vals h1 r h1') {G:aD} {w:World} {a:Act} {vs:List Value} (hv:aq G w vals vs) (R:aK G h1 w) (F:bD G h1 h1') {K:Act→World→Prop} {Q:Exit→Act→World→Prop} {ro:Option Nat} (hd:∀c,o.op≠ .defer c)
  (hK:∀G' w' v,Trans G w h1 G' w' h1'→aK G' h1' w'→ak G' w' r v→K (a.put o.dst v) w') (hrun:(execOp a.eval o).run P w= .ok (.enter f vs.toArray) w):o.wpIn (rd ro) 0 P a w K Q:=by
 refine ⟨fun _ _=>trivial,?_⟩
 rw[Oper.semAt_eq _ _ _ hd,hrun,Oper.uponIn_enter]
 refine ⟨fun h=>by simp[rd,Fence.wide] at h,l6 ?_⟩
 refine (hc G w vs hv R F).mono ?_
 rintro e w' ⟨v,G',rfl,T,R',V⟩
 exact hK G' w' v T R' V
theorem dV {ops:Array Oper} {i:Nat} {o:Oper} {it:aE} {t:Tm} {f:FuncId} {l:List Opd} {vals:List AV} {h1 h1':H} {r:AV} (ho:ops[i]? =some o) (hit:bA P N ops o=some it) (hg:guardOf t it.guard=some true) (hop:it.op= .call f l)
  (hs:al (l.map (ev t)) vals) (hc:aM P f vals h1 r h1'):dK P ops i o t h1 r h1':=by
 unfold bA at hit
 split at hit
 ·rename_i op g hcop hgd
  split at hit<;>cases hit
  rename_i hcond
  simp only[Bool.and_eq_true] at hcond
  simp only at hop
  subst hop
  have hcop:=fv hcop (by simp) rfl
  obtain ⟨c,fn,e1,e2,e3,e4,e5,e6⟩:=wP hcop
  intro G w a ht R F K Q hK ro
  unfold wpOpIn
  rw[ho]
  simp only[bG hgd ht hg,if_true]
  have rr:=eV (P:=P) (er ht) e3
  have el:l.map (ev (fY (names ops o) t))=l.map (ev t):=List.map_congr_left fun x hx=>hX hcond.2 x (by simpa [aX] using hx)
  rw[el] at rr
  refine l7 hc (hs G w _ rr) R F (dB hcop) hK ?_
  have hargs:(c.args.map a.eval)=(c.args.toList.map a.eval).toArray:=by cases c.args;simp
  simp[execOp,e1,resolve,e2,Act.eval,Deferred.ofValue,invoke,hargs,gC w e4 e5 e6]
 ·cases hit
theorem pU {ops:Array Oper} {i:Nat} {o:Oper} {it:aE} {t:Tm} {f:FuncId} {fn:Func} {y:Opd} {l:List Opd} {first caps vals:List AV} {h1 h1':H} {r:AV} (ho:ops[i]? =some o) (hit:bA P N ops o=some it) (hg:guardOf t it.guard=some true) (hop:it.op= .callv y l)
  (hy:ev t y= .clo (.func f) first caps) (hf:P.funcs[f]? =some fn) (hb:fn.body.isSome=true) (hn:fn.name≠ "runtime.NumGoroutine")
  (hs:al (first++l.map (ev t)++caps) vals) (hc:aM P f vals h1 r h1'):dK P ops i o t h1 r h1':=by
 unfold bA at hit
 split at hit
 ·rename_i op g hcop hgd
  split at hit<;>cases hit
  rename_i hcond
  simp only[Bool.and_eq_true] at hcond
  simp only at hop
  subst hop
  have hcop:=fv hcop (by simp) rfl
  obtain ⟨c,z,e1,e2,e3,e4⟩:=nB hcop
  intro G w a ht R F K Q hK ro
  unfold wpOpIn
  rw[ho]
  simp only[bG hgd ht hg,if_true]
  have rr:=eV (P:=P) (er ht) e4
  have rz:=ar (P:=P) e3 (er ht)
  have hcut:=hX (t:=t) hcond.2
  have el:l.map (ev (fY (names ops o) t))=l.map (ev t):=List.map_congr_left fun x hx=>hcut x (by simp[aX,hx])
  rw[el] at rr
  rw[hcut y (by simp[aX]),hy] at rz
  simp only[ak] at rz
  obtain ⟨vs,us,q1,q2,q3⟩:=rz
  refine l7 hc (hs G w _ ((q2.append rr).append q3)) R F (dB hcop) hK ?_
  have hargs:(c.args.map a.eval)=(c.args.toList.map a.eval).toArray:=by cases c.args;simp
  simp[execOp,e1,resolve,e2,q1,Deferred.ofValue,invoke,hargs,gC w hf hb hn]
 ·cases hit
def ae (P:Program) (N:Nat) (items:List aE) (t:Tm) (h:H) (log:List Ent) (K:Tm→H→List Ent→Prop):Prop:=
 ∀ops i,i≤ops.size→dm P N ops (ops.toList.drop i)=some items→
  ∃recs t' h',wD P ops i recs t h t' h'∧K t' h' (log.reverse++recs.map (·.en))∧∀(k:Nat) r it,recs[k]? =some r→items[k]? =some it→bS it.op=false→r.en=aF
theorem ae.nil {t:Tm} {h:H} {log:List Ent} {K:Tm→H→List Ent→Prop} (hk:K t h log.reverse):ae P N [] t h log K:=by
 intro ops i hi hc
 have:i=ops.size:=by
  cases hd:ops.toList.drop i with
  |nil=>have:=List.drop_eq_nil_iff.1 hd;simp at this;omega
  |cons o l=>
   rw[hd] at hc
   simp only[dm] at hc
   split at hc<;>simp at hc
 exact ⟨[],t,h,.nil this,by simpa using hk,by simp⟩
theorem cM {ops:Array Oper} {i:Nat} {it:aE} {its:List aE} (hi:i≤ops.size) (hc:dm P N ops (ops.toList.drop i)=some (it::its)):
  ∃o,ops[i]? =some o∧bA P N ops o=some it∧i+1≤ops.size∧dm P N ops (ops.toList.drop (i+1))=some its:=by
 cases hd:ops.toList.drop i with
 |nil=>rw[hd] at hc;simp[dm] at hc
 |cons o l=>
  rw[hd] at hc
  simp only[dm] at hc
  split at hc
  ·rename_i a r h1 h2
   cases hc
   have hlt:i<ops.toList.length:=by
    rcases Nat.lt_or_ge i ops.toList.length with h|h
    ·exact h
    ·rw[List.drop_eq_nil_of_le h] at hd;cases hd
   have e:=List.drop_eq_getElem_cons hlt
   rw[hd] at e
   obtain ⟨e1,e2⟩:=List.cons.inj e
   have hlt':i<ops.size:=by simpa using hlt
   refine ⟨o,?_,h1,by omega,by rw[←e2];exact h2⟩
   rw[Array.getElem?_eq_getElem hlt',e1];simp
  ·cases hc
theorem ae.step {it:aE} {its:List aE} {t:Tm} {h h' h1 h1':H} {x:AV} {en:Ent} {log:List Ent} {K:Tm→H→List Ent→Prop} (tc:Touch h h1 h1' h' en)
  (run:∀(ops:Array Oper) i o,ops[i]? =some o→bA P N ops o=some it→dK P ops i o t h1 x h1') (hen:bS it.op=false→en=aF)
  (rest:ae P N its (aY t it.dst x) h' (en::log) K):ae P N (it::its) t h log K:=by
 intro ops i hi hc
 obtain ⟨o,ho,hit,hi',hc'⟩:=cM hi hc
 obtain ⟨recs,t',hh',ch,hk,he⟩:=rest ops (i+1) hi' hc'
 have hdst:it.dst=o.dst:=by
  unfold bA at hit
  split at hit
  ·split at hit<;>cases hit;rfl
  ·cases hit
 refine ⟨⟨t,h,h1,h1',h',x,en⟩::recs,t',hh',.cons ho rfl rfl tc (fun _=>run ops i o ho hit) (by rw[←hdst];exact ch),by simpa using hk,?_⟩
 intro k r it' hr hit' ht
 cases k with
 |zero=>simp at hr hit';subst hr hit';exact hen ht
 |succ k=>simp at hr hit';exact he k r it' hr hit' ht
theorem tp {ρ:Opd→AV} {h h':H} {op:AOp} {x:AV} {en:Ent} (ht:bS op=false) (hx:aop ρ h op=some (x,h',en)):en=aF∨∃n y,op= .load n y:=by
 cases op<;>simp[bS] at ht<;>simp only[aop] at hx<;>first
  |(simp only[Option.some.injEq,Prod.mk.injEq] at hx;exact .inl hx.2.2.symm)
  |(simp only[Option.map_eq_some_iff,Prod.mk.injEq] at hx;obtain ⟨_,_,_,_,h⟩:=hx;exact .inl h.symm)
  |((repeat' split at hx)<;>(first|(cases hx;done)|(cases hx;exact .inl rfl)|(simp only[Option.map_eq_some_iff,Prod.mk.injEq] at hx;obtain ⟨_,_,_,_,h⟩:=hx;exact .inl h.symm)|skip))
 all_goals simp_all
def bM:List aE→Tm→H→List Ent→List aE × Tm × H × List Ent
 |[],t,h,l=>([],t,h,l)
 |it::its,t,h,l=>match guardOf t it.guard with
  |some true=>(match aop (ev t) h it.op with
   |some (x,h',en)=>bM its (aY t it.dst x) h' (en::l)
   |none=>(it::its,t,h,l))
  |some false=>bM its (aY t it.dst (.sc undef)) h (aF::l)
  |none=>(it::its,t,h,l)
theorem ae.tq {b:List aE}:∀{items its:List aE} {t t':Tm} {h h':H} {log log':List Ent} {K:Tm→H→List Ent→Prop},bM items t h log=(its,t',h',log')→ae P N (its++b) t' h' log' K→ae P N (items++b) t h log K
 |[],its,t,t',h,h',log,log',K,he,hw=>by simp only[bM,Prod.mk.injEq] at he;obtain ⟨rfl,rfl,rfl,rfl⟩:=he;exact hw
 |it::items,its,t,t',h,h',log,log',K,he,hw=>by
  simp only[bM] at he
  split at he
  ·rename_i hg
   split at he
   ·rename_i x h2 en hx
    have rest:=ae.tq he hw
    intro ops i hi hc
    obtain ⟨o,ho,hit,hi',hc'⟩:=cM hi hc
    obtain ⟨h1,h1',tc,run⟩:=ij ho hit hg hx
    obtain ⟨recs,t',hh',ch,hk,hen⟩:=rest ops (i+1) hi' hc'
    have hdst:it.dst=o.dst:=by
     unfold bA at hit
     split at hit
     ·split at hit<;>cases hit;rfl
     ·cases hit
    refine ⟨⟨t,h,h1,h1',h2,x,en⟩::recs,t',hh',.cons ho rfl rfl tc (fun _=>run) (by rw[←hdst];exact ch),by simpa using hk,?_⟩
    intro k r it' hr hit' ht
    cases k with
    |zero=>
     simp at hr hit';subst hr hit'
     rcases tp ht hx with h|⟨n,y,h⟩
     ·exact h
     ·rw[h] at ht;simp[bS] at ht
    |succ k=>simp at hr hit';exact hen k r it' hr hit' ht
   ·simp only[Prod.mk.injEq] at he;obtain ⟨rfl,rfl,rfl,rfl⟩:=he;exact hw
  ·rename_i hg
   have rest:=ae.tq he hw
   exact ae.step (bF h) (fun ops i o ho hit=>gB ho hit hg) (fun _=>rfl) rest
  ·simp only[Prod.mk.injEq] at he;obtain ⟨rfl,rfl,rfl,rfl⟩:=he;exact hw
theorem ae.eval {items its:List aE} {t t':Tm} {h h':H} {log log':List Ent} {K:Tm→H→List Ent→Prop} (he:bM items t h log=(its,t',h',log')) (hw:ae P N its t' h' log' K):ae P N items t h log K:=by
 have:=ae.tq (b:=[]) he (by rw[List.append_nil];exact hw)
 rwa [List.append_nil] at this
theorem ae.part (k:Nat) {items:List aE} {t t':Tm} {h h':H} {log log':List Ent} {K:Tm→H→List Ent→Prop} (he:bM (items.take k) t h log=([],t',h',log')) (hw:ae P N (items.drop k) t' h' log' K):ae P N items t h log K:=by
 have:=ae.tq (b:=items.drop k) he (by rw[List.nil_append];exact hw)
 rwa [List.take_append_drop] at this
theorem ae.aN {dst:Option Nat} {g:Option (Nat × Bool)} {f:FuncId} {l:List Opd} {its:List aE} {t:Tm} {h:H} {log:List Ent} {K:Tm→H→List Ent→Prop} {vals:List AV} {r:AV} (hg:guardOf t g=some true) (hs:al (l.map (ev t)) vals) (hc:aB P f vals r)
  (rest:ae P N its (aY t dst r) h (aF::log) K):ae P N (⟨dst,g,.call f l⟩::its) t h log K:=
 ae.step (bF h) (fun ops i o ho hit=>dV ho hit hg rfl hs (hc h.n h.m)) (fun _=>rfl) rest
theorem ae.kC {dst:Option Nat} {g:Option (Nat × Bool)} {f:FuncId} {l:List Opd} {its:List aE} {t:Tm} {h h' h1 h1':H} {log:List Ent} {en:Ent} {K:Tm→H→List Ent→Prop} {vals:List AV} {r:AV} (hg:guardOf t g=some true) (hs:al (l.map (ev t)) vals) (hc:aM P f vals h1 r h1')
  (tc:Touch h h1 h1' h' en) (rest:ae P N its (aY t dst r) h' (en::log) K):ae P N (⟨dst,g,.call f l⟩::its) t h log K:=
 ae.step tc (fun ops i o ho hit=>dV ho hit hg rfl hs hc) (fun h=>by simp[bS] at h) rest
end
end Go.Av
end
section
namespace Go.Av
section
variable {P:Program} {N:Nat}
def rowOf (acc:Array Nat) (o:Oper):Nat:=o.after.foldl (fun s e=>if Region.binds .any e then s ||| 2^e.on ||| acc.getD e.on 0 else s) 0
theorem uT {acc:Array Nat} {o:Oper} {j:Nat} (h:(rowOf acc o).testBit j=true):∃e∈o.after,Region.binds .any e=true∧(j=e.on∨(acc.getD e.on 0).testBit j=true):=by
 have key:∀(l:List Edge) (s:Nat),(l.foldl (fun s e=>if Region.binds .any e then s ||| 2^e.on ||| acc.getD e.on 0 else s) s).testBit j=true→s.testBit j=true∨∃e∈l,Region.binds .any e=true∧(j=e.on∨(acc.getD e.on 0).testBit j=true):=by
  intro l
  induction l with
  |nil=>intro s h;exact .inl h
  |cons e l ih=>
   intro s h
   rcases ih _ h with h|⟨e',h1,h2⟩
   ·by_cases hb:Region.binds .any e=true
    ·simp only[hb,if_true,Nat.testBit_or,Bool.or_eq_true] at h
     rcases h with (h|h)|h
     ·exact .inl h
     ·rw[Nat.testBit_two_pow] at h
      exact .inr ⟨e,by simp,hb,.inl (by simpa using h.symm:e.on=j).symm⟩
     ·exact .inr ⟨e,by simp,hb,.inr h⟩
    ·simp only[hb,if_false,Bool.false_eq_true] at h
     exact .inl h
   ·exact .inr ⟨e',by simp[h1],h2⟩
 unfold rowOf at h
 rw[←Array.foldl_toList] at h
 rcases key _ _ h with h|⟨e,h1,h2⟩
 ·simp at h
 ·exact ⟨e,by simpa using h1,h2⟩
theorem pV (ops:Array Oper):∀(i:Nat) o,ops[i]? =some o→∀j,cY ops j i=true→∃e∈o.after,Region.binds .any e=true∧(j=e.on∨cY ops j e.on=true):=by
 have key:∀(l:List Oper) (acc:Array Nat),let B:=l.foldl (fun acc o=>acc.push (rowOf acc o)) acc
   (B.size=acc.size+l.length)∧(∀k,k<acc.size→B.getD k 0=acc.getD k 0)∧∀k o,l[k]? =some o→∀j,(B.getD (acc.size+k) 0).testBit j=true→∃e∈o.after,Region.binds .any e=true∧(j=e.on∨(B.getD e.on 0).testBit j=true):=by
  intro l
  induction l with
  |nil=>intro acc;simp
  |cons o l ih=>
   intro acc
   obtain ⟨a1,a2,a3⟩:=ih (acc.push (rowOf acc o))
   simp only[List.foldl_cons]
   refine ⟨by rw[a1];simp;omega,fun k hk=>?_,fun k o' ho' j hj=>?_⟩
   ·rw[a2 k (by simp;omega)]
    simp[Array.getElem?_push,hk]
    rw[if_neg (by omega)];rfl
   ·cases k with
    |zero=>
     simp at ho';subst ho'
     rw[a2 _ (by simp)] at hj
     simp at hj
     obtain ⟨e,h1,h2⟩:=uT hj
     refine ⟨e,h1,h2.1,h2.2.imp (fun z=>z) fun h=>?_⟩
     have hlt:e.on<acc.size:=by
      rcases Nat.lt_or_ge e.on acc.size with h'|h'
      ·exact h'
      ·simp[h'] at h
     rw[a2 _ (by simp;omega)]
     simp only[Array.getD_eq_getD_getElem?,Array.getElem?_push] at h ⊢
     rw[if_neg (by omega)];exact h
    |succ k=>
     simp at ho'
     have:=a3 k o' ho' j (by simpa [Nat.add_assoc,Nat.add_comm 1 k] using hj)
     exact this
 obtain ⟨a1,a2,a3⟩:=key ops.toList #[]
 have hB:Region.before ops=ops.toList.foldl (fun acc o=>acc.push (rowOf acc o)) #[]:=by
  unfold Region.before
  rw[←Array.foldl_toList]
  rfl
 intro i o ho j hj
 unfold cY at hj ⊢
 rw[hB] at hj ⊢
 exact a3 i o (by simpa using ho) j (by simpa using hj)
theorem zp {ops:Array Oper} (h:tidy ops=true):Tidy ops:=by
 unfold tidy at h
 simp only[Bool.and_eq_true,List.all_eq_true] at h
 obtain ⟨h1,h2⟩:=h
 have hm:∀(i:Nat) o,ops[i]? =some o→(o,i)∈ops.toList.zipIdx:=by
  intro i o ho
  rw[List.mem_iff_getElem?]
  exact ⟨i,by simp[List.getElem?_zipIdx,ho]⟩
 constructor
 ·intro i o ho e he hbd
  have:=h1 (o,i) (hm i o ho)
  rw[Array.all_eq_true_iff_forall_mem] at this
  have:=this e he
  simpa [hbd] using this
 ·exact pV ops
 ·intro i j o o' ho ho' hne d hd hn
  have:=h2 (o,i) (hm i o ho)
  simp only[hd,List.all_eq_true] at this
  have:=this (o',j) (hm j o' ho')
  simp only[Bool.or_eq_true,Bool.not_eq_true',beq_iff_eq] at this
  rcases this with ((h|h)|h)|h
  ·exact absurd h hne
  ·have h3:(names ops o').contains d=true:=by simpa using hn
   rw[h3] at h;cases h
  ·exact .inl h
  ·exact .inr h
def aP:List (Nat × Nat)→List Ent→Prop
 |[],_=>True
 |(i,j)::l,log=>apart (log.getD i aF) (log.getD j aF)∧aP l log
theorem kD:∀{l:List (Nat × Nat)} {log:List Ent},aP l log→∀{i j:Nat},(i,j)∈l→apart (log.getD i aF) (log.getD j aF)
 |(a,b)::l,log,h,i,j,hm=>by
  rcases List.mem_cons.1 hm with e|hm
  ·cases e;exact h.1
  ·exact kD h.2 hm
theorem l8 (e:Ent):apart aF e∧apart e aF:=by
 constructor
 ·exact ⟨fun id h=>by simp[aF] at h,fun id h=>by simp[aF],fun t h=>by simp[aF] at h⟩
 ·exact ⟨fun id h=>by simp[aF],fun id h=>by simp[aF] at h,fun t h=>by simp[aF]⟩
def aR (p:Option (List (Nat × Nat))) (log:List Ent):Prop:=
 match p with
 |none=>True
 |some l=>aP l log
theorem ji {ops:Array Oper}:∀{l:List Oper} {items:List aE},dm P N ops l=some items→items.length=l.length∧∀(k:Nat) o it,l[k]? =some o→items[k]? =some it→bA P N ops o=some it
 |[],items,h=>by simp[dm] at h;subst h;simp
 |o::l,items,h=>by
  simp only[dm] at h
  split at h
  ·rename_i a r h1 h2
   cases h
   obtain ⟨e1,e2⟩:=ji h2
   refine ⟨by simp[e1],fun k o' it ho hit=>?_⟩
   cases k with
   |zero=>simp at ho hit;subst ho hit;exact h1
   |succ k=>simp at ho hit;exact e2 k o' it ho hit
  ·cases h
theorem pW {code:Code} {items:List aE} {p:Option (List (Nat × Nat))} (h:cCode P N code=some (.reg items p)):
  ∃id ops draw,code= .region id ops draw∧dm P N ops ops.toList=some items∧((draw=false∧p=none)∨(draw=true∧P.follows .mixedOrders=true∧tidy ops=true∧p=some (oI ops items))):=by
 cases code<;>simp only[cCode] at h<;>(try cases h)
 ·split at h
  ·rename_i id ops draw _ items' hi
   split at h
   ·split at h<;>cases h
    rename_i hd hcond
    simp only[Bool.and_eq_true] at hcond
    exact ⟨_,_,_,rfl,hi,.inr ⟨hd,hcond.1,hcond.2,rfl⟩⟩
   ·cases h
    rename_i hd
    exact ⟨_,_,_,rfl,hi,.inl ⟨by simpa using hd,rfl⟩⟩
  ·cases h
 all_goals first|((repeat' split at h)<;>cases h;done)|(simp at h;done)
theorem gD (G:aD) (w w':World) (h:H) (e1:w'.heap=w.heap) (e2:w'.os=w.os) (e3:w'.output=w.output):Trans G w h G w' h where
 dom_le _ x:=x
 dom_new _ x:= .inl x
 ι_eq _ _:=rfl
 tdom_le _ x:=x
 tdom_new _ x:= .inl x
 τ_eq _ _:=rfl
 n_le:=Nat.le_refl _
 m_le:=Nat.le_refl _
 size_le:=by rw[e1];exact Nat.le_refl _
 os:=e2
 output:=e3
 form B _:=by rw[e1];exact aU.refl _
 keep _ _ _ _:=by rw[e1]
 own_keep _ _ _:=Iff.rfl
 lim_keep _ _ _ _:=rfl
 tok_keep _ _ _ _ e he:=⟨fun _ _=>gw e1 _,fun e' he'=>by rw[he] at he';cases he';exact Nat.le_refl _⟩
 O_new _ _ x:=x
 T_new _ _ x:=x
 objs_new _ o x:= .inl ⟨o,x⟩
 toks_new _ x:= .inl x
theorem aK.draw {G:aD} {w w':World} {h:H} (R:aK G h w) (e1:w'.heap=w.heap) (e2:w'.os=w.os) (e3:w'.output=w.output):aK G h w' where
 obj id o ho:=by
  obtain ⟨a,b,c,d⟩:=R.obj id o ho
  exact ⟨a,b,by rw[e1];exact c,by rw[e1];exact d.mono R (gD G w w' h e1 e2 e3)⟩
 inj:=R.inj
 tok t ht:=⟨(R.tok t ht).1,fun B e he=>by rw[e1];exact (R.tok t ht).2 B e he⟩
 tinj:=R.tinj
theorem Wp.reg {items:List aE} {p:Option (List (Nat × Nat))} {s:St} {Q:aC→St→Prop} (h:ae P N items s.t s.h [] fun t' h' log=>aR p log∧Q .normal ⟨t',h'⟩):Wp P N (.reg items p) s Q:=by
 intro code hc
 obtain ⟨id,ops,draw,rfl,hi,hd⟩:=pW hc
 obtain ⟨recs,t',h',ch,⟨hp,hq⟩,hen⟩:=h ops 0 (Nat.zero_le _) (by simpa using hi)
 simp only[List.reverse_nil,List.nil_append] at hp
 obtain ⟨nm,-,-⟩:=lY ch
 obtain ⟨cl,ci⟩:=ji hi
 have hN:∀(i:Nat) o d,ops[i]? =some o→o.dst=some d→d<N:=by
  intro i o d ho hdd
  have hlt:i<ops.size:=(Array.getElem?_eq_some_iff.1 ho).1
  have hit:i<items.length:=by rw[cl];simpa using hlt
  have:=ci i o items[i] (by simpa using ho) (List.getElem?_eq_getElem hit)
  generalize items[i]=it at this
  unfold bA at this
  split at this
  ·split at this<;>cases this
   rename_i hcond
   simp only[Bool.and_eq_true] at hcond
   have:=hcond.1
   rw[hdd] at this
   simpa using this
  ·cases this
 refine ⟨.normal,⟨t',h'⟩,⟨nm,fun ro okc G w a r F=>?_⟩,hq⟩
 rcases hd with ⟨rfl,rfl⟩|⟨rfl,hm,ht,rfl⟩
 ·refine wpIn_region ?_
  rw[List.range_eq_range']
  have:=uH ro (Q:=fun e' a' w'=>aC.normal.cU e'∧jB w a.defers a'.defers∧∃G',Trans G w s.h G' w' h'∧Rel N ⟨t',h'⟩ G' w' a') hN ch G w a r.size r.t r.h F
   (fun G' w' a' T1 t1 R1 s1 d1=>⟨trivial,by rw[d1];exact .refl,G',T1,⟨s1,t1,R1,by rw[d1];exact r.df.mono T1⟩⟩)
  simpa using this
 ·refine wpIn_region_any hm ?_
  obtain ⟨a1,a2,-⟩:=gZ ch
  rw[Nat.zero_add] at a1
  have ap:∀i j,i<j→j<ops.size→cY ops i j=false→apart (recs.getD i cJ).en (recs.getD j cJ).en:=by
   intro i j hij hj hanc
   have hir:i<recs.length:=by omega
   have hjr:j<recs.length:=by omega
   have hii:i<items.length:=by rw[cl];simp;omega
   have hjj:j<items.length:=by rw[cl];simp;omega
   have ei:(recs.getD i cJ).en=(recs.map (·.en)).getD i aF:=by simp[List.getD,List.getElem?_eq_getElem hir]
   have ej:(recs.getD j cJ).en=(recs.map (·.en)).getD j aF:=by simp[List.getD,List.getElem?_eq_getElem hjr]
   have gi:(recs.getD i cJ)=recs[i]:=by simp[List.getD,List.getElem?_eq_getElem hir]
   have gj:(recs.getD j cJ)=recs[j]:=by simp[List.getD,List.getElem?_eq_getElem hjr]
   by_cases ti:bS items[i].op=true
   ·by_cases tj:bS items[j].op=true
    ·rw[ei,ej]
     refine kD hp ?_
     unfold oI
     simp only[List.mem_flatMap,List.mem_range,List.mem_filterMap]
     refine ⟨j,hj,i,hij,?_⟩
     unfold cY at hanc
     simp[List.getElem?_eq_getElem hii,List.getElem?_eq_getElem hjj,ti,tj]
     simpa using hanc
    ·rw[gj,hen j _ _ (List.getElem?_eq_getElem hjr) (List.getElem?_eq_getElem hjj) (by simpa using tj)]
     exact (l8 _).2
   ·rw[gi,hen i _ _ (List.getElem?_eq_getElem hir) (List.getElem?_eq_getElem hii) (by simpa using ti)]
    exact (l8 _).1
  let w1:World:={w with drawn:=w.drawn+1}
  have hz:∀k,(Array.replicate ops.size false).getD k false=false:=by intro k;simp[Array.getElem?_replicate];split<;>rfl
  have hz':(fun k=>(Array.replicate ops.size false).getD k false)=fun _=>false:=funext hz
  have vz:∀{β:Type} (u:Nat→Option β) (n:Nat) (v:β),val u (fun _=>false) n v=v:=by
   intro β u n v
   induction n with
   |zero=>rfl
   |succ n ih=>simp only[val,Bool.false_eq_true,if_false,ih]
  have R1:aK G s.h w1:=r.h.draw rfl rfl rfl
  have hk:∀t,t∈(HS recs s.h ops.size h'.n h'.m (fun _=>false)).toks↔t∈s.h.toks:=by
   intro t;rw[jV a1.symm,vz];simp
  have ho:(HS recs s.h ops.size h'.n h'.m (fun _=>false)).objs=s.h.objs:=by
   funext id;simp only[HS];rw[vz]
  refine uI ro (pj:=0) (pv:=undef) (N:=N) (G0:=G) (w0:=w1) (a0:=a) hN (zp ht) ch ap R1 F ?_ (fun i h=>by cases h) (fun h=>by cases h) ops.size (Array.replicate ops.size false) G w1 a (by simp) ?_ ?_ (fun k h=>by cases h) r.size rfl ?_ ?_ ?_ ?_ ?_
  ·intro _ G' w' a' T1 t1 R1' s1 d1
   exact ⟨trivial,by rw[d1];exact .refl,G',(gD G w w1 s.h rfl rfl rfl).trans r.h R1 T1,⟨s1,t1,R1',by rw[d1];exact r.df.mono ((gD G w w1 s.h rfl rfl rfl).trans r.h R1 T1)⟩⟩
  ·unfold count
   exact Nat.le_trans (List.length_filter_le _ _) (by simp)
  ·rw[hz'];intro i o _ h;cases h
  ·rw[hz'];intro d;rw[vz];exact ak.mono r.h (gD G w w1 s.h rfl rfl rfl) _ _ (r.t d)
  ·rw[hz'];exact R1.same ho fun t x=>(hk t).1 x
  ·rw[hz']
   exact (Trans.refl G w1 s.h).same rfl (fun _=>Iff.rfl) ho hk (Nat.le_refl _) nm.1 nm.1 (Nat.le_refl _) nm.2 nm.2
  ·exact fun id x=> .inl x
  ·exact fun id x=> .inl x
def fw (args:List AV):Tm:=fun i=>args.getD i .any
inductive RV where
 |tmp (d:Nat)
 |cell (d:Nat) (n:Option Nat)
def Bp (P:Program):ResultVar→Option RV
 | .tmp t=>some (.tmp t)
 | .cell a t=>if (P.info? t).isSome∧(P.underlying t).isSome then some (.cell a (if aT P t then some (P.cellsOf t) else none)) else none
def l9 (P:Program):List ResultVar→Option (List RV)
 |[]=>some []
 |r::l=>match Bp P r,l9 P l with
  |some a,some m=>some (a::m)
  |_,_=>none
def rv (t:Tm) (h:H):RV→Option AV
 | .tmp d=>some (t d)
 | .cell d n=>match t d with
  | .ptr id off=>match h.objs id with
   |some (.cells cs)=>part off n cs
   |_=>none
  |_=>none
def rvs (t:Tm) (h:H):List RV→Option (List AV)
 |[]=>some []
 |r::l=>match rv t h r,rvs t h l with
  |some a,some m=>some (a::m)
  |_,_=>none
def dL (ds:List RV) (t:Tm) (h:H):Option AV:=
 match rvs t h ds with
 |some [x]=>some x
 |some l=>some (.tup l)
 |none=>none
def iY:aC→Prop
 | .normal| .ret=>True
 |_=>False
theorem wQ {G:aD} {w:World} {n:Nat}:∀{args:List AV} {vs:List Value},aq G w args vs→bk G w (fw args) {tmps:=vs.toArray++Array.replicate n undef,defers:=[]}:=by
 intro args vs h i
 unfold fw
 by_cases hi:i<args.length
 ·obtain ⟨v,h1,h2⟩:=h.get (i:=i) (x:=args[i]) (List.getElem?_eq_getElem hi)
  have e:((vs.toArray++Array.replicate n undef).getD i undef)=v:=by
   have hlt:i<vs.length:=by rw[h.length];exact hi
   rw[List.getElem?_eq_getElem hlt] at h1
   simp[Array.getElem?_append,hlt]
   exact Option.some.inj h1
  rw[e]
  simpa [List.getD,List.getElem?_eq_getElem hi] using h2
 ·have:args.getD i .any= .any:=by simp[List.getD,List.getElem?_eq_none (Nat.le_of_not_lt hi)]
  rw[this];simp[ak]
theorem tv {G:aD} {w:World} {t:Tm} {h:H} {a:Act} (ht:bk G w t a) (R:aK G h w):∀{l:List ResultVar} {ds:List RV} {xs:List AV},l9 P l=some ds→rvs t h ds=some xs→
  ∃vs,(l.mapM (fun| .tmp t=>pure (a.tmps.getD t undef)| .cell b t=>do loadVar t (←asAddr (a.tmps.getD b undef)):ResultVar→Sem Value)).run P w= .ok vs w∧aq G w xs vs
 |[],ds,xs,h1,h2=>by
  simp[l9] at h1;subst h1
  simp[rvs] at h2;subst h2
  exact ⟨[],by simp,.nil⟩
 |r::l,ds,xs,h1,h2=>by
  simp only[l9] at h1
  split at h1
  ·rename_i d ds' e1 e2
   cases h1
   simp only[rvs] at h2
   split at h2
   ·rename_i x xs' e3 e4
    cases h2
    obtain ⟨vs,g1,g2⟩:=tv ht R e2 e4
    cases r with
    |tmp k=>
     simp[Bp] at e1;subst e1
     simp[rv] at e3;subst e3
     refine ⟨a.tmps.getD k undef::vs,?_,.cons (ht k) g2⟩
     simp only[List.mapM_cons,Sem.run_bind,Sem.run_pure,Result.andThen_ok,g1]
    |cell k ty=>
     simp only[Bp] at e1
     split at e1
     ·rename_i hc
      cases e1
      simp only[rv] at e3
      split at e3
      ·rename_i id off hk
       split at e3
       ·rename_i cs ho
        have r1:=ht k
        rw[hk] at r1
        simp only[ak] at r1
        obtain ⟨vs0,rest0,T,fr,hg,hvs,-⟩:=fU R ho
        have hcell:∀j v,vs0[j]? =some v→w.cell? ⟨G.ι id,j,none⟩=some v:=by
         intro j v hj
         have hj':j<vs0.length:=(List.getElem?_eq_some_iff.1 hj).1
         unfold World.cell?;simp only[hg];simpa [List.getElem?_append_left hj'] using hj
        have hl:∃v,(loadVar ty ⟨G.ι id,off,none⟩).run P w= .ok v w∧ak G w x v:=by
         rcases jf hvs e3 with ⟨e,v,q1,q2⟩|⟨m,e,q1,q2⟩
         ·have hagg:aT P ty=false:=by cases hh:aT P ty<;>simp[hh] at e ⊢
          exact ⟨v,fT P w ty _ v hc.2 hagg (hcell _ _ q1),q2⟩
         ·have hagg:aT P ty=true:=by cases hh:aT P ty<;>simp[hh] at e ⊢
          have hm:m=P.cellsOf ty:=by simpa [hagg] using e.symm
          refine ⟨_,ft P w ty (G.ι id) off ((vs0.drop off).take m) hc.1 hc.2 hagg (by simp[hm] at q1 ⊢;omega) (fun j v hj=>hcell _ _ (by
           rw[List.getElem?_take] at hj
           split at hj
           ·simpa [List.getElem?_drop] using hj
           ·cases hj)),q2⟩
        obtain ⟨v,q1,q2⟩:=hl
        refine ⟨v::vs,?_,.cons q2 g2⟩
        have ha:(asAddr (a.tmps.getD k undef)).run P w= .ok ⟨G.ι id,off,none⟩ w:=by rw[r1.2];rfl
        simp only[List.mapM_cons,Sem.run_bind,ha,Sem.run_pure,Result.andThen_ok,q1,g1]
       ·cases e3
      ·cases e3
     ·cases e1
   ·cases h2
  ·cases h1
theorem pX {fn:Func} {ds:List RV} {G:aD} {w:World} {t:Tm} {h:H} {a:Act} {x:AV} (hr:l9 P fn.results.toList=some ds) (ht:bk G w t a) (R:aK G h w) (hx:dL ds t h=some x):∃v,(results fn a.tmps).run P w= .ok v w∧ak G w x v:=by
 unfold dL at hx
 have hxs:∃xs,rvs t h ds=some xs∧((∃y,xs=[y]∧x=y)∨(xs.length≠1∧x= .tup xs)):=by
  split at hx
  ·rename_i y e;cases hx;exact ⟨_,e,.inl ⟨_,rfl,rfl⟩⟩
  ·rename_i l hne e
   cases hx
   refine ⟨_,e,.inr ⟨fun hl=>?_,rfl⟩⟩
   obtain ⟨y,rfl⟩:=List.length_eq_one_iff.1 hl
   exact hne y rfl
  ·cases hx
 obtain ⟨xs,e,hc⟩:=hxs
 obtain ⟨vs,g1,g2⟩:=tv (P:=P) ht R hr e
 have hm':(fn.results.mapM (fun| .tmp t=>pure (a.tmps.getD t undef)| .cell b t=>do loadVar t (←asAddr (a.tmps.getD b undef)):ResultVar→Sem Value)).run P w= .ok vs.toArray w:=by
  rw[Array.mapM_eq_mapM_toList]
  simp only[Sem.run_map,g1,Result.andThen_ok]
 have key:(results fn a.tmps).run P w= .ok (if h:vs.toArray.size=1 then vs.toArray[0] else .tuple vs.toArray) w:=by
  unfold results
  rw[Sem.run_bind]
  exact congrArg (fun x:Result (Array Value)=>x.andThen fun vs w'=>(Pure.pure (if h:vs.size=1 then vs[0] else .tuple vs):Sem Value).run P w') hm'
 rw[key]
 have hl:=g2.length
 rcases hc with ⟨y,rfl,rfl⟩|⟨hn,rfl⟩
 ·simp only[aq] at g2
  obtain ⟨v,us,rfl,q1,rfl⟩:=g2
  exact ⟨v,by simp,q1⟩
 ·have:¬vs.toArray.size=1:=by simp;omega
  rw[dif_neg this]
  refine ⟨_,rfl,?_⟩
  simp only[ak]
  exact ⟨vs,rfl,g2⟩
theorem cF.results {D:Nat} {w:World} (h:w.heap[D]? =some (.deferred (some []))):cF D w (w.putObj D (.deferred none)):=
 ⟨by simp,fun B hB=>World.putObj_heap_other hB,fun c T fr e=>absurd (h.symm.trans e) (by simp),rfl,rfl⟩
theorem oJ {F:Fence} {n:Nat} {fn:Func} {tmps:Array Value} {R:Ending→World→Prop} (Ds:Nat→Prop) (I:World→Prop)
  (hI:∀w D,Ds D→I w→w.heap[D]? =some (.deferred (some []))→I (w.putObj D (.deferred none))) (hend:∀w,I w→∃v,(results fn tmps).run P w= .ok v w∧R (.returned v) w):
  ∀(l:List Deferred) (w:World),l.Nodup→(∀d∈l,∃D,Ds D∧d= {target:= .collected D,args:= #[]}∧w.heap[D]? =some (.deferred (some [])))→I w→LeavesInM F n P fn tmps R l .returning w:=by
 intro l
 induction l with
 |nil=>intro w _ _ hi;exact hend w hi
 |cons d l ih=>
  intro w hn hm hi
  obtain ⟨D,h1,h2,h3⟩:=hm d (by simp)
  refine ⟨by simp,.inl ⟨D,_,by rw[h2],run_takeDeferred h3,ih _ (List.nodup_cons.1 hn).2 (fun d' hd'=>?_) (hI w D h1 hi h3)⟩⟩
  obtain ⟨D',k1,k2,k3⟩:=hm d' (by simp[hd'])
  refine ⟨D',k1,k2,?_⟩
  rw[World.putObj_heap_other ?_]
  ·exact k3
  ·rintro rfl
   exact (List.nodup_cons.1 hn).1 (by rw[h2,←k2];exact hd')
theorem uU {f:FuncId} {fn:Func} {code:Code} {ac:AC} {args:List AV} {h:H} {ds:List RV} {Q:AV→H→Prop} (hf:P.funcs[f]? =some fn) (hb:fn.body=some code) (hc:cCode P fn.ntmps code=some ac) (hr:l9 P fn.results.toList=some ds) (hl:args.length≤fn.ntmps)
  (hw:Wp P fn.ntmps ac ⟨fw args,h⟩ fun e s'=>iY e∧∃r,dL ds s'.t s'.h=some r∧Q r s'.h):∃r h',aM P f args h r h'∧Q r h':=by
 obtain ⟨e,s',run,he,r,hres,hq⟩:=hw code hc
 refine ⟨r,s'.h,?_,hq⟩
 intro G w vs hv R F
 have hlen:=hv.length
 refine callsIn_wide.1 (callsIn_of_wp_marks (F:=rd none) (n:=0) hf hb trivial (wpIn_mono (run.2 none (.inl rfl) G w _ ⟨?_,wQ hv,R,⟨by simp,by simp⟩⟩ F) ?_) rfl)
 ·simp;omega
 ·rintro e' a' w' ⟨h1,h2,G',T,r'⟩
  have key:LeavesInM (rd none) 0 P fn a'.tmps (fun e w'=>∃v G',e= .returned v∧Trans G w h G' w' s'.h∧aK G' s'.h w'∧ak G' w' r v) a'.defers .returning w':=by
   refine oJ (fun D=>w.heap.size≤D∧¬s'.h.O G' D∧¬s'.h.T G' D) (fun w2=>Trans G w h G' w2 s'.h∧aK G' s'.h w2∧bk G' w2 s'.t a') ?_ ?_ _ _ r'.df.1 ?_ ⟨T,r'.h,r'.t⟩
   ·rintro w2 D ⟨d1,d2,d3⟩ ⟨T2,R2,t2⟩ hD
    have tu:=cF.results hD
    exact ⟨T2.bQ tu d1,R2.bQ tu d2,fun i=>ak.bQ tu _ _ (t2 i)⟩
   ·rintro w2 ⟨T2,R2,t2⟩
    obtain ⟨v,q1,q2⟩:=pX (P:=P) hr t2 R2 hres
    exact ⟨v,q1,v,G',rfl,T2,R2,q2⟩
   ·intro d hd
    obtain ⟨D,e,k1,k2,k3⟩:=r'.df.2 d hd
    rcases h2 d hd with h|⟨D',k4,e'⟩
    ·simp at h
    ·rw[e] at e'
     simp only[Deferred.mk.injEq,Target.collected.injEq,and_true] at e'
     subst e'
     exact ⟨D,⟨k4,k2,k3⟩,e,k1⟩
  cases e<;>cases e'<;>simp only[aC.cU,iY] at h1 he<;>exact key
def aG (P:Program) (f:FuncId) (N:Nat) (ac:AC) (ds:List RV):Prop:=∃fn,P.funcs[f]? =some fn∧fn.ntmps=N∧fn.body.bind (cCode P N)=some ac∧l9 P fn.results.toList=some ds
theorem aG.dp {f:FuncId} {ac:AC} {args:List AV} {h:H} {ds:List RV} {Q:AV→H→Prop} (hF:aG P f N ac ds) (hl:args.length≤N) (hw:Wp P N ac ⟨fw args,h⟩ fun e s'=>iY e∧∃r,dL ds s'.t s'.h=some r∧Q r s'.h):∃r h',aM P f args h r h'∧Q r h':=by
 obtain ⟨fn,h1,h2,h3,h4⟩:=hF
 subst h2
 obtain ⟨code,hb,hc⟩:=Option.bind_eq_some_iff.1 h3
 exact uU h1 hb hc h4 hl hw
def tw (x:AV):Prop:=∀G G' w v,G'.own=G.own→G'.lim=G.lim→ak G w x v→ak G' w x v
def oK (l:List AV):Prop:=∀G G' w vs,G'.own=G.own→G'.lim=G.lim→aq G w l vs→aq G' w l vs
theorem aM.pure {f:FuncId} {args:List AV} {n m:Nat} {r r':AV} {h':H} (ha:oK args) (hc:aM P f args (H0 n m) r h') (hs:aa r r') (hp:tw r'):aM P f args (H0 n m) r' (H0 n m):=by
 intro G w vs hv R F
 let G0:aD:={G with dom:=fun _=>False,tdom:=fun _=>False}
 refine (hc G0 w vs (ha G G0 w vs rfl rfl hv) eB ⟨fun _ _ _ h=>h,fun _ _ _ h=>h⟩).mono ?_
 rintro e w' ⟨v,G',rfl,T,R',V⟩
 refine ⟨v,{G' with dom:=G.dom,ι:=G.ι,tdom:=G.tdom,τ:=G.τ},rfl,?_,eB,hp G' _ w' v rfl rfl (hs G' w' v V)⟩
 have hO:∀{G:aD} B,¬(H0 n m).O G B:=fun B=>cG B
 have hT:∀{G:aD} B,¬(H0 n m).T G B:=fun B ⟨t,ht,_⟩=>by simp[H0,H.only] at ht
 constructor
 ·exact fun _ x=>x
 ·exact fun _=> .inl
 ·exact fun _ _=>rfl
 ·exact fun _ x=>x
 ·exact fun _=> .inl
 ·exact fun _ _=>rfl
 ·exact Nat.le_refl _
 ·exact Nat.le_refl _
 ·exact T.size_le
 ·exact T.os
 ·exact T.output
 ·exact T.form
 ·exact fun B hB _ _=>T.keep B hB (hO B) (hT B)
 ·exact fun B hB _=>T.own_keep B hB (hO B)
 ·exact fun B hB _ _=>T.lim_keep B hB (hO B) (hT B)
 ·exact fun B hB x=>absurd x (hT B)
 ·exact fun B _ x=>absurd x (hO B)
 ·exact fun B _ x=>absurd x (hT B)
 ·exact fun j o x=>by simp[H0,H.only,af] at x
 ·exact fun t x=>by simp[H0,H.only] at x
theorem aG.wR {f:FuncId} {ac:AC} {args:List AV} {ds:List RV} {r:AV} (hF:aG P f N ac ds) (hl:args.length≤N) (ha:oK args) (hp:tw r) (hw:∀n m,Wp P N ac ⟨fw args,H0 n m⟩ fun e s'=>iY e∧∃q,dL ds s'.t s'.h=some q∧aa q r):aB P f args r:=by
 intro n m
 obtain ⟨r',h',cZ,hs⟩:=hF.dp (Q:=fun r' _=>aa r' r) hl (hw n m)
 exact cZ.pure ha hs hp
end
end Go.Av
end
section
namespace Go.Av
section
variable {P:Program} {N:Nat} {s:St} {Q:aC→St→Prop}
theorem Wp.bn {items:List aE} {p:Option (List (Nat × Nat))} {y:AC} {t':Tm} {h':H} {log:List Ent} (he:bM items s.t s.h []=([],t',h',log)) (hp:aR p log.reverse) (h:Wp P N y ⟨t',h'⟩ Q):Wp P N (.seq (.reg items p) y) s Q:=
 Wp.seq (Wp.reg (ae.eval he (ae.nil ⟨hp,h⟩)))
theorem Wp.jC {items:List aE} {p:Option (List (Nat × Nat))} {t':Tm} {h':H} {log:List Ent} (he:bM items s.t s.h []=([],t',h',log)) (hp:aR p log.reverse) (h:Q .normal ⟨t',h'⟩):Wp P N (.reg items p) s Q:=
 Wp.reg (ae.eval he (ae.nil ⟨hp,h⟩))
theorem Wp.seqItems {items its:List aE} {p:Option (List (Nat × Nat))} {y:AC} {t':Tm} {h':H} {log:List Ent} (he:bM items s.t s.h []=(its,t',h',log)) (h:ae P N its t' h' log fun t h l=>aR p l∧Wp P N y ⟨t,h⟩ Q):Wp P N (.seq (.reg items p) y) s Q:=
 Wp.seq (Wp.reg (ae.eval he h))
theorem Wp.items {items its:List aE} {p:Option (List (Nat × Nat))} {t':Tm} {h':H} {log:List Ent} (he:bM items s.t s.h []=(its,t',h',log)) (h:ae P N its t' h' log fun t h l=>aR p l∧Q .normal ⟨t,h⟩):Wp P N (.reg items p) s Q:=
 Wp.reg (ae.eval he h)
def tm:List (Nat × AV)→Tm
 |[]=>fun _=> .any
 |(i,v)::l=>upd (tm l) i v
def az (t:Tm):List (Nat × AV)→Prop
 |[]=>True
 |(i,v)::l=>aa (t i) v∧az t l
theorem bE {t:Tm}:∀{l:List (Nat × AV)},az t l→∀i,aa (t i) (tm l i)
 |[],_,i=>aa.any _
 |(k,v)::l,h,i=>by
  simp only[tm,upd]
  split
  ·rename_i e;subst e;exact h.1
  ·exact bE h.2 i
theorem aI.tm {t:Tm} {h:H} {l:List (Nat × AV)} (hs:az t l):aI ⟨t,h⟩ ⟨Av.tm l,h⟩:=aI.mk' (bE hs) h.wm.le (Nat.le_refl _) (Nat.le_refl _)
theorem Wp.CH {β:Type} (S:β→List (Nat × AV)) (I:β→Prop) (μ:β→Nat) {c:AC} {h:H} {t:Tm} (b0:β) (h0:I b0) (hs:az t (S b0))
  (round:∀b,I b→Wp P N c ⟨tm (S b),h⟩ (aC.andThen (fun s'=>∃b',I b'∧μ b'<μ b∧aI s' ⟨tm (S b'),h⟩) Q)):Wp P N (.loop c) ⟨t,h⟩ Q:=
 Wp.loop (fun b=>⟨tm (S b),h⟩) I μ b0 h0 (aI.tm hs) round
theorem az.append {t:Tm}:∀{l m:List (Nat × AV)},az t l→az t m→az t (l++m)
 |[],_,_,h=>h
 |(_,_)::_,_,h,h'=>⟨h.1,az.append h.2 h'⟩
theorem az.self {t:Tm}:∀(L:List Nat),az t (L.map fun i=>(i,t i))
 |[]=>trivial
 |_::L=>⟨aa.refl _,az.self L⟩
theorem Wp.cI {β:Type} (L:List Nat) {K:List (Nat × AV)} {c:AC} {h:H} {t:Tm} (hK:(L.map fun i=>(i,t i))=K) (ch:β→List (Nat × AV)) (I:β→Prop) (μ:β→Nat) (b0:β) (h0:I b0) (hs:az t (ch b0))
  (round:∀b,I b→Wp P N c ⟨tm (K++ch b),h⟩ (aC.andThen (fun s'=>∃b',I b'∧μ b'<μ b∧aI s' ⟨tm (K++ch b'),h⟩) Q)):Wp P N (.loop c) ⟨t,h⟩ Q:=
 Wp.CH (fun b=>K++ch b) I μ b0 h0 (az.append (hK▸az.self L) hs) round
theorem Wp.dM {β:Type} (L:List Nat) {K:List (Nat × AV)} {c:AC} {h:H} {t:Tm} (hK:(L.map fun i=>(i,t i))=K) (ch:β→List (Nat × AV)) (hp:β→H) (I:β→Prop) (μ:β→Nat) (b0:β) (h0:I b0) (hh:h=hp b0) (hs:az t (ch b0))
  (round:∀b,I b→Wp P N c ⟨tm (K++ch b),hp b⟩ (aC.andThen (fun s'=>∃b',I b'∧μ b'<μ b∧aI s' ⟨tm (K++ch b'),hp b'⟩) Q)):Wp P N (.loop c) ⟨t,h⟩ Q:=
 Wp.loop (fun b=>⟨tm (K++ch b),hp b⟩) I μ b0 h0 (hh▸aI.tm (az.append (hK▸az.self L) hs)) round
theorem aa.int {k:IntKind} {a b:Int} (h:a=b):aa (.int k a) (.int k b):=h▸aa.refl _
theorem aa.of_eq {x y:AV} (h:x=y):aa x y:=h▸aa.refl _
def aZ:Cap→Bool
 | .own _=>false
 |_=>true
mutual
def aJ:AV→Bool
 | .sl _ xs c=>aZ c&&aA xs
 | .ref cs=>aA cs
 | .agg cs=>aA cs
 | .tup cs=>aA cs
 | .ptr _ _| .tsl _ _ _ _ _| .mp _| .yld _=>false
 | .clo _ a b=>aA a&&aA b
 | .ifc _ x=>aJ x
 | .slt _ xs ys=>aA xs&&aA ys
 |_=>true
def aA:List AV→Bool
 |[]=>true
 |x::xs=>aJ x&&aA xs
end
mutual
theorem bW:∀(x:AV),aJ x=true→tw x
 | .any,_=>fun _ _ _ _ _ _ h=>h
 | .int _ _,_=>fun _ _ _ _ _ _ h=>h
 | .bool _,_=>fun _ _ _ _ _ _ h=>h
 | .str _,_=>fun _ _ _ _ _ _ h=>h
 | .sc _,_=>fun _ _ _ _ _ _ h=>h
 | .sl sz xs c,hp=>by
  simp only[aJ,Bool.and_eq_true] at hp
  intro G G' w v e1 e2 h
  simp only[ak] at h ⊢
  rcases h with h|⟨B,off,C,vs,h1,h2,h3,h4,h5,h6⟩
  ·exact .inl h
  ·refine .inr ⟨B,off,C,vs,h1,h2,h3,fy xs hp.2 G G' w sz vs e1 e2 h4,fun i v hv=>?_,?_⟩
   ·rw[e1,e2];exact h5 i v hv
   ·cases c with
    |own t=>simp[aZ] at hp
    |any=>trivial
    |exact k=>exact h6
 | .ref cs,hp=>by
  simp only[aJ] at hp
  intro G G' w v e1 e2 h
  simp only[ak] at h ⊢
  obtain ⟨B,off,vs,h1,h2,h3⟩:=h
  exact ⟨B,off,vs,h1,bo cs hp G G' w vs e1 e2 h2,fun i v hv=>by rw[e1,e2];exact h3 i v hv⟩
 | .agg cs,hp=>by
  simp only[aJ] at hp
  intro G G' w v e1 e2 h
  simp only[ak] at h ⊢
  obtain ⟨vs,h1,h2⟩:=h
  exact ⟨vs,h1,bo cs hp G G' w vs e1 e2 h2⟩
 | .tup cs,hp=>by
  simp only[aJ] at hp
  intro G G' w v e1 e2 h
  simp only[ak] at h ⊢
  obtain ⟨vs,h1,h2⟩:=h
  exact ⟨vs,h1,bo cs hp G G' w vs e1 e2 h2⟩
 | .ptr _ _,hp=>by simp[aJ] at hp
 | .tsl _ _ _ _ _,hp=>by simp[aJ] at hp
 | .mp _,hp=>by simp[aJ] at hp
 | .yld _,hp=>by simp[aJ] at hp
 | .slt sz xs ys,hp=>by
  simp only[aJ,Bool.and_eq_true] at hp
  intro G G' w v e1 e2 h
  simp only[ak] at h ⊢
  obtain ⟨B,off,C,us,vs,h1,h2,h3,h4,h5,h6⟩:=h
  exact ⟨B,off,C,us,vs,h1,h2,h3,fy xs hp.1 G G' w sz us e1 e2 h4,fy ys hp.2 G G' w sz vs e1 e2 h5,fun i v hv=>by rw[e1,e2];exact h6 i v hv⟩
 | .clo f a b,hp=>by
  simp only[aJ,Bool.and_eq_true] at hp
  intro G G' w v e1 e2 h
  simp only[ak] at h ⊢
  obtain ⟨vs,us,h1,h2,h3⟩:=h
  exact ⟨vs,us,h1,bo a hp.1 G G' w vs e1 e2 h2,bo b hp.2 G G' w us e1 e2 h3⟩
 | .sup B,_=>fun _ _ _ _ _ _ h=>by simpa only[ak] using h
 | .supb B,_=>fun G G' w v e1 e2 h=>by
  simp only[ak] at h ⊢
  obtain ⟨l,h1,h2|⟨D,off,C,h2,h3,h4⟩⟩:=h
  ·exact ⟨l,h1,.inl h2⟩
  ·exact ⟨l,h1,.inr ⟨D,off,C,h2,h3,fun i v hv=>by rw[e1,e2];exact h4 i v hv⟩⟩
 | .kR k,_=>fun _ _ _ _ _ _ h=>by simpa only[ak] using h
 | .one,_=>fun _ _ _ _ _ _ h=>by simpa only[ak] using h
 | .ifc t x,hp=>by
  simp only[aJ] at hp
  intro G G' w v e1 e2 h
  simp only[ak] at h ⊢
  obtain ⟨u,h1,h2⟩:=h
  exact ⟨u,h1,bW x hp G G' w u e1 e2 h2⟩
theorem bo:∀(l:List AV),aA l=true→oK l
 |[],_=>fun _ _ _ _ _ _ h=>by simpa only[aq] using h
 |x::xs,hp=>by
  simp only[aA,Bool.and_eq_true] at hp
  intro G G' w vs e1 e2 h
  simp only[aq] at h ⊢
  obtain ⟨v,us,h1,h2,h3⟩:=h
  exact ⟨v,us,h1,bW x hp.1 G G' w v e1 e2 h2,bo xs hp.2 G G' w us e1 e2 h3⟩
theorem fy:∀(l:List AV),aA l=true→∀(G G':aD) (w:World) (sz:Nat) (vs:List Value),G'.own=G.own→G'.lim=G.lim→av G w sz l vs→av G' w sz l vs
 |[],_=>fun _ _ _ _ _ _ _ h=>by simpa only[av] using h
 |x::xs,hp=>by
  simp only[aA,Bool.and_eq_true] at hp
  intro G G' w sz vs e1 e2 h
  simp only[av] at h ⊢
  obtain ⟨v,us,h1,h2,h3,h4⟩:=h
  exact ⟨v,us,h1,h2,bW x hp.1 G G' w v e1 e2 h3,fy xs hp.2 G G' w sz us e1 e2 h4⟩
end
theorem aQ {α:Type} {f:α→AV} (h:∀x,aJ (f x)=true):∀l:List α,aA (l.map f)=true
 |[]=>rfl
 |x::l=>by simp[aA,h x,aQ h l]
def strs (l:List (List UInt8)):List AV:=l.map .str
def ints (l:List Int):List AV:=l.map (.int .i64)
theorem nC (l:List Int):aA (ints l)=true:=aQ (fun _=>rfl) l
theorem pY (l:List (List UInt8)):(strs l).length=l.length:=by simp[strs]
theorem cN (l:List Int):(ints l).length=l.length:=by simp[ints]
theorem bp (l:List UInt8):(an l).length=l.length:=by simp[an]
theorem eR (l:List Int) (k:Nat) (d:AV) (h:k<l.length):(ints l).getD k d= .int .i64 (l.getD k 0):=by
 simp[ints,List.getD,List.getElem?_map,List.getElem?_eq_getElem h]
theorem mf (l:List UInt8) (k:Nat) (d:AV) (h:k<l.length):(an l).getD k d=byte (l.getD k 0):=by
 simp[an,List.getD,List.getElem?_map,List.getElem?_eq_getElem h]
theorem bI (l:List UInt8):dF (an l)=some l:=by
 induction l with
 |nil=>rfl
 |cons b l ih=>
  have:dF (List.map byte l)=some l:=ih
  simp[an,dF,qZ,byte,this]
end
def lit:Bool→Bool
 |true=>true
 |false=>true
def pk:Bool→AC→AC→AC
 |true,x,_=>x
 |false,_,y=>y
theorem Wp.aL {P:Program} {N:Nat} {s:St} {Q:aC→St→Prop} {c:Opd} {x y:AC} {b:Bool} (hb:ev s.t c= .bool b) (_:lit b=true) (h:Wp P N (pk b x y) s Q):Wp P N (.cond c x y) s Q:=by
 cases b
 ·exact Wp.cond_false hb h
 ·exact Wp.cond_true hb h
theorem bx:((false=true)=False)∧(∀b:Bool,(true == b)=b)∧(∀b:Bool,(false == b)= !b)∧((!true)=false)∧((!false)=true):=
 ⟨Bool.false_eq_true,Bool.true_beq,Bool.false_beq,Bool.not_true,Bool.not_false⟩
theorem ax:(∀p:Prop,(p∧p)=p)∧(∀p:Prop,(True∧p)=p)∧(∀p:Prop,(p∧True)=p)∧(∀p:Prop,(True∨p)=True)∧(∀p:Prop,(p∨True)=True)∧(∀n:Nat,0*n=0)∧(∀n:Nat,1*n=n)∧(∀n:Nat,0≤n)
  ∧(∀h:Decidable True,@decide True h=true)∧(∀h:Decidable False,@decide False h=false)∧(∀n:Nat,((n:Nat):Int).toNat=n)∧(∀(α:Type) (a b:List α),(a++b).length=a.length+b.length)
  ∧(∀(α:Type) (p:α→Bool) (x:α) (l:List α),List.filter p (x::l)=if p x=true then x::List.filter p l else List.filter p l)∧(∀(α:Type) (p:α→Bool),List.filter p []=[])∧(∀(α:Type) (a b:α),(a≠b)= ¬(a=b))∧((¬True)=False)∧((¬False)=True):=
 ⟨and_self,true_and,and_true,true_or,or_true,Nat.zero_mul,Nat.one_mul,Nat.zero_le,fun _=>decide_true _,fun _=>decide_false _,Int.toNat_natCast,fun _ _ _=>List.length_append,fun _ _ _ _=>List.filter_cons,fun _ _=>List.filter_nil,fun _ _ _=>rfl,not_true_eq_false,not_false_eq_true⟩
attribute [go_sem] undef bM guardOf aop ev aY upd fw H0 H.only af bf cellsOf shaped part bin Bl Bm fq iJ dO q0 lJ dg unop eqB eqP eqN eqA bK oC mm fp dP s6 s7 eqM slice bound jc setAt cK tm
 pY cN bp List.getElem?_cons_zero List.getElem?_cons_succ List.getD_cons_zero List.getD_cons_succ Option.map_some Option.map_none Option.bind_some Option.bind_none List.all_cons List.all_nil Bool.and_self Bool.true_and Bool.and_true
 List.length_cons List.length_nil List.map_cons List.map_nil List.drop_succ_cons List.drop_zero List.take_succ_cons List.take_zero List.drop_nil List.take_nil Nat.zero_add Nat.add_zero List.append_nil List.nil_append List.cons_append Bool.or_false Bool.false_or Bool.or_true Bool.true_or
end Go.Av
end
section
namespace Go.Av
section
variable {P:Program} {N:Nat}
theorem jD (h:H) {tk tk' m':Nat} (htk:tk∈h.toks) (hm:h.m≤m'):Touch h (.only af [tk] h.n h.m) (.only af [tk'] h.n m') {h with toks:=tk'::h.toks.filter (· ≠tk),m:=m'} ⟨[],[],[tk,tk']⟩ where
 sub:=⟨fun j o x=>by simp[H.only,af] at x,fun t x=>by simp only[H.only,List.mem_singleton] at x;subst x;exact htk⟩
 n:=rfl
 m:=rfl
 eq:=H.ext (fun j=>by simp[H.patch,H.only,af];omega) rfl (by
  simp only[H.patch,H.only,List.singleton_append,List.cons.injEq,true_and]
  apply List.filter_congr
  intro y _
  simp) rfl
 rd j x:=by simp[H.only,af] at x
 wr id a b:=by simp only[H.only] at a b;omega
 chg j x hj:=by simp[H.only,af] at x
 tk t x:=by simp only[H.only,List.mem_singleton] at x;subst x;simp
 tn t x:=by simp only[H.only,List.mem_singleton] at x;subst x;simp
 le:=Nat.le_refl _
 lem:=hm
def fH (P:Program) (f:FuncId) (args:Nat→List AV) (r:Nat→AV):Prop:=∀t n m,∃t' m',m≤m'∧aM P f (args t) (.only af [t] n m) (r t') (.only af [t'] n m')
theorem ae.bJ {dst:Option Nat} {g:Option (Nat × Bool)} {f:FuncId} {l:List Opd} {its:List aE} {t:Tm} {h:H} {log:List Ent} {K:Tm→H→List Ent→Prop} {args:Nat→List AV} {r:Nat→AV} (tk:Nat) (hg:guardOf t g=some true) (hs:al (l.map (ev t)) (args tk)) (hk:tk∈h.toks) (hc:fH P f args r)
  (rest:∀tk' m',h.m≤m'→ae P N its (aY t dst (r tk')) {h with toks:=tk'::h.toks.filter (· ≠tk),m:=m'} (⟨[],[],[tk,tk']⟩::log) K):ae P N (⟨dst,g,.call f l⟩::its) t h log K:=by
 obtain ⟨tk',m',hm,ha⟩:=hc tk h.n h.m
 exact ae.kC hg hs ha (jD h hk hm) (rest tk' m' hm)
variable {s:St} {Q:aC→St→Prop}
theorem Wp.oL {β:Type} (L:List Nat) {K:List (Nat × AV)} {c:AC} {h:H} {t:Tm} (hK:(L.map fun i=>(i,t i))=K) (ch:β→Nat→List (Nat × AV)) (I:β→Prop) (μ:β→Nat) (b0:β) (tk:Nat) (h0:I b0) (hh:h.toks=[tk]) (hs:az t (ch b0 tk))
  (round:∀b tk m,I b→Wp P N c ⟨tm (K++ch b tk),{h with toks:=[tk],m:=m}⟩ (aC.andThen (fun s'=>∃b' tk' m',I b'∧μ b'<μ b∧aI s' ⟨tm (K++ch b' tk'),{h with toks:=[tk'],m:=m'}⟩) Q)):Wp P N (.loop c) ⟨t,h⟩ Q:=by
 refine Wp.dM (β:=β × Nat × Nat) L hK (fun j=>ch j.1 j.2.1) (fun j=>{h with toks:=[j.2.1],m:=j.2.2}) (fun j=>I j.1) (fun j=>μ j.1) (b0,tk,h.m) h0 (by cases h;simp only at hh;subst hh;rfl) hs ?_
 rintro ⟨b,tk,m⟩ hb
 refine Wp.mono (round b tk m hb) ?_
 intro e s' h
 cases e with
 |normal=>obtain ⟨b',tk',m',h1,h2,h3⟩:=h;exact ⟨(b',tk',m'),h1,h2,h3⟩
 |exit id=>exact h
 |goto l=>exact h
 |ret=>exact h
 |panic v=>exact h
end
section
variable {P:Program} {N:Nat}
def Bq (P:Program) (f:FuncId) (args:List AV) (objs:Nat→Option Obj) (r:AV):Prop:=∀n m,aM P f args (.only objs [] n m) r (.only objs [] n m)
end
theorem ik (t:Nat):List.filter (fun x=>decide (x≠t)) [t]=[]:=by simp
theorem Br (k:Nat):(k=k+1)=False:=by simp
theorem Bt (k:Nat):(k+1=k)=False:=by simp
attribute [go_sem] Br Bt ik List.mem_singleton List.mem_cons true_or
end Go.Av
end
section
namespace Go.Av
structure Fun where
 N:Nat
 ac:AC
 ds:List RV
inductive FT where
 |leaf
 |node (k:Nat) (F:Fun) (l r:FT)
def FT.get (f:Nat):FT→Option Fun
 | .leaf=>none
 | .node k F l r=>match Nat.beq f k with
  |true=>some F
  |false=>match Nat.ble f k with
   |true=>FT.get f l
   |false=>FT.get f r
def FT.Ok (P:Program):FT→Prop
 | .leaf=>True
 | .node k F l r=>aG P k F.N F.ac F.ds∧l.Ok P∧r.Ok P
def FT.named (P:Program):FT→Bool
 | .leaf=>true
 | .node k F l r=>((P.funcs[k]?).any fun fn=>fn.name != "runtime.NumGoroutine")&&l.named P&&r.named P
theorem FT.oM {P:Program} {f:Nat} {F:Fun}:∀{T:FT},T.Ok P→T.named P=true→T.get f=some F→aG P f F.N F.ac F.ds∧∃fn,P.funcs[f]? =some fn∧fn.body.isSome=true∧fn.name≠ "runtime.NumGoroutine"
 | .leaf,_,_,h=>by cases h
 | .node k F' l r,ok,nm,h=>by
  simp only[FT.named,Bool.and_eq_true] at nm
  simp only[FT.get] at h
  split at h
  ·rename_i e
   cases h
   have e:=Nat.eq_of_beq_eq_true e
   subst e
   refine ⟨ok.1,?_⟩
   obtain ⟨fn,h1,h2,h3,h4⟩:=ok.1
   refine ⟨fn,h1,?_,?_⟩
   ·obtain ⟨code,hb,_⟩:=Option.bind_eq_some_iff.1 h3
    rw[hb];rfl
   ·have:=nm.1.1
    rw[h1] at this
    simpa using this
  ·split at h
   ·exact FT.oM ok.2.1 nm.1.2 h
   ·exact FT.oM ok.2.2 nm.2 h
mutual
def uV:AV→List Nat
 | .sl _ xs _=>eI xs
 | .ref cs=>eI cs
 | .agg cs=>eI cs
 | .tup cs=>eI cs
 | .ptr i _=>[i]
 | .tsl _ i _ _ _=>[i]
 | .mp i=>[i]
 | .yld i=>[i]
 | .slt _ xs ys=>eI xs++eI ys
 | .clo _ a b=>eI a++eI b
 | .ifc _ x=>uV x
 |_=>[]
def eI:List AV→List Nat
 |[]=>[]
 |x::xs=>match uV x with
  |[]=>eI xs
  |l=>l++eI xs
end
def CI:Cap→List Nat
 | .own t=>[t]
 |_=>[]
mutual
def nD:AV→List Nat
 | .sl _ xs c=>CI c++cV xs
 | .ref cs=>cV cs
 | .agg cs=>cV cs
 | .tup cs=>cV cs
 | .clo _ a b=>cV a++cV b
 | .ifc _ x=>nD x
 | .slt _ xs ys=>cV xs++cV ys
 |_=>[]
def cV:List AV→List Nat
 |[]=>[]
 |x::xs=>match nD x with
  |[]=>cV xs
  |l=>l++cV xs
end
def reach (objs:Nat→Option Obj):Nat→List Nat→List Nat→List Nat
 |0,_,seen=>seen
 |_+1,[],seen=>seen
 |k+1,i::todo,seen=>match seen.contains i with
  |true=>reach objs k todo seen
  |false=>match objs i with
   |some (.cells cs)=>reach objs k (eI cs++todo) (i::seen)
   |some (.map es)=>reach objs k (es.flatMap (fun e=>uV e.1++uV e.2)++todo) (i::seen)
   |some (.loop _ _ _ _ _ _ _)=>reach objs k todo seen
   |some (.raw _)=>reach objs k todo seen
   |none=>reach objs k todo seen
def Bu (objs:Nat→Option Obj) (l:List Nat):List Nat:=l.flatMap fun j=>match objs j with
 |some (.cells cs)=>cV cs
 |some (.map es)=>es.flatMap fun e=>nD e.1++nD e.2
 |some (.loop _ _ _ _ _ _ _)=>[]
 |some (.raw _)=>[]
 |none=>[]
def H.cut (h:H) (ids toks:List Nat):H:=⟨fun j=>match ids.contains j with|true=>h.objs j|false=>none,h.n,h.toks.filter fun t=>toks.contains t,h.m⟩
def jj:aC→Bool
 | .normal| .ret=>true
 |_=>false
def mg:List (Nat × Nat)→List Ent→Bool
 |[],_=>true
 |(i,j)::l,log=>
  let e:=log.getD i aF
  let f:=log.getD j aF
  e.wr.all (fun id=> !f.rd.contains id&& !f.wr.contains id)&&f.wr.all (fun id=> !e.rd.contains id&& !e.wr.contains id)&&e.tk.all (fun t=> !f.tk.contains t)&&mg l log
def zq:Option (List (Nat × Nat))→List Ent→Bool
 |none,_=>true
 |some l,log=>mg l log
theorem nE:∀{l:List (Nat × Nat)} {log:List Ent},mg l log=true→aP l log
 |[],_,_=>trivial
 |(i,j)::l,log,h=>by
  simp only[mg,Bool.and_eq_true,List.all_eq_true,Bool.not_eq_true',List.contains_eq_mem,decide_eq_false_iff_not] at h
  exact ⟨⟨fun id hid=>h.1.1.1 id hid,fun id hid=>h.1.1.2 id hid,fun t ht=>h.1.2 t ht⟩,nE h.2⟩
abbrev AR:=Nat→List AV→H→Option (AV × H × Ent)
def CJ (T:FT) (pr:AR) (rn:Nat→AC→St→Option (aC × St)) (f:Nat) (args:List AV) (h:H):Option (AV × H × Ent):=
 match pr f args h with
 |some r=>some r
 |none=>match T.get f with
 |none=>none
 |some F=>match Nat.ble args.length F.N with
  |false=>none
  |true=>match aA args with
   |true=>match rn F.N F.ac ⟨fw args,H0 h.n h.m⟩ with
    |some (e,s')=>match jj e,dL F.ds s'.t s'.h with
     |true,some r=>match aJ r with
      |true=>some (r,h,aF)
      |false=>match Nat.ble h.n s'.h.n&&Nat.ble h.m s'.h.m with
       |true=>some (r,h.patch (H0 h.n h.m) s'.h,⟨[],(List.range (s'.h.n - h.n)).map (h.n+ ·),s'.h.toks⟩)
       |false=>none
     |_,_=>none
    |none=>none
   |false=>
    let ids:=reach h.objs 1000000 (eI args) []
    let h1:=h.cut ids (cV args++Bu h.objs ids)
    match rn F.N F.ac ⟨fw args,h1⟩ with
    |some (e,s')=>match jj e,dL F.ds s'.t s'.h with
     |true,some r=>match Nat.ble h.n s'.h.n&&Nat.ble h.m s'.h.m with
      |true=>some (r,h.patch h1 s'.h,⟨[],ids++(List.range (s'.h.n - h.n)).map (h.n+ ·),h1.toks++s'.h.toks⟩)
      |false=>none
     |_,_=>none
    |none=>none
def iq (call:Nat→List AV→H→Option (AV × H × Ent)):List aE→Tm→H→List Ent→Option (Tm × H × List Ent)
 |[],t,h,l=>some (t,h,l)
 |⟨dst,g,op⟩::its,t,h,l=>match guardOf t g with
  |some true=>match op with
   | .call f args=>match call f (args.map (ev t)) h with
    |some (r,h',en)=>iq call its (aY t dst r) h' (en::l)
    |none=>none
   | .callv y args=>match ev t y with
    | .clo (.func f) first caps=>match call f (first++args.map (ev t)++caps) h with
     |some (r,h',en)=>iq call its (aY t dst r) h' (en::l)
     |none=>none
    |_=>none
   |op=>match aop (ev t) h op with
    |some (x,h',en)=>iq call its (aY t dst x) h' (en::l)
    |none=>none
  |some false=>iq call its (aY t dst (.sc undef)) h (aF::l)
  |none=>none
def AS (l:List (Nat × Obj)) (i:Nat):Option Obj:=match l with
 |[]=>none
 |(j,o)::r=>match Nat.beq i j with
  |true=>some o
  |false=>AS r i
def norm (N:Nat) (s:St):St:=
 let l:=(List.range N).map s.t
 let o:=(List.range s.h.n).filterMap fun j=>(s.h.objs j).map fun x=>(j,x)
 ⟨fun i=>l.getD i .any,{s.h with objs:=AS o}⟩
def CL (rn:AC→St→Option (aC × St)) (nm:St→St):Nat→AC→AC→St→Option (aC × St)
 |0,_,_,_=>none
 |k+1,c,cur,s=>match rn cur s with
  |some (.goto l,s')=>match dA c l with
   |some rest=>CL rn nm k c rest (nm s')
   |none=>some (.goto l,s')
  |r=>r
def run (T:FT) (pr:AR):Nat→Nat→AC→St→Option (aC × St)
 |0,_,_,_=>none
 |k+1,N,c,s=>match c with
  | .skip=>some (.normal,s)
  | .ret=>some (.ret,s)
  | .exit i=>some (.exit i,s)
  | .reg items p=>match iq (CJ T pr (run T pr k)) items s.t s.h [] with
   |some (t,h,l)=>match zq p l.reverse with
    |true=>some (.normal,⟨t,h⟩)
    |false=>none
   |none=>none
  | .seq a b=>match run T pr k N a s with
   |some (.normal,s')=>run T pr k N b s'
   |r=>r
  | .cond c a b=>match ev s.t c with
   | .bool true=>run T pr k N a s
   | .bool false=>run T pr k N b s
   |_=>none
  | .block id a=>match run T pr k N a s with
   |some (.exit i,s')=>match Nat.beq i id with
    |true=>some (.normal,s')
    |false=>some (.exit i,s')
   |r=>r
  | .loop a=>match run T pr k N a s with
   |some (.normal,s')=>run T pr k N (.loop a) (norm N s')
   |r=>r
  | .label _=>some (.normal,s)
  | .goto l=>some (.goto l,s)
  | .scope a=>CL (run T pr k N) (norm N) k a a s
  | .jY _ _ _ _=>none
section
variable {P:Program} {T:FT}
theorem uW {e:aC} (h:jj e=true):iY e:=by cases e<;>simp_all [jj,iY]
theorem uX (h h1 h1':H) {ids:List Nat} (hs:h1.sub h) (n:h1.n=h.n) (m:h1.m=h.m) (hi:∀id,(h1.objs id).isSome→id∈ids) (le:h.n≤h1'.n) (lem:h.m≤h1'.m):
  Touch h h1 h1' (h.patch h1 h1') ⟨[],ids++(List.range (h1'.n - h.n)).map (h.n+ ·),h1.toks++h1'.toks⟩ where
 sub:=hs
 n:=n
 m:=m
 eq:=rfl
 rd id x:= .inr (List.mem_append_left _ (hi id x))
 wr id a b:=List.mem_append_right _ (List.mem_map.2 ⟨id - h.n,by simp;omega,by omega⟩)
 chg id x hx:=absurd (List.mem_append_left _ (hi id x)) hx
 tk t x:=List.mem_append_left _ x
 tn t x:=List.mem_append_right _ x
 le:=by omega
 lem:=by omega
theorem zr (h:H) (ids toks:List Nat):(h.cut ids toks).sub h:=by
 refine ⟨fun j o hj=>?_,fun t ht=>?_⟩
 ·simp only[H.cut] at hj
  split at hj
  ·exact hj
  ·cases hj
 ·simp only[H.cut,List.mem_filter] at ht
  exact ht.1
theorem zt (h:H) (ids toks:List Nat) (id:Nat) (hx:((h.cut ids toks).objs id).isSome):id∈ids:=by
 simp only[H.cut] at hx
 split at hx
 ·rename_i e;simpa using e
 ·cases hx
theorem aM.pZ {f:FuncId} {args:List AV} {r r':AV} {h':H} (ha:oK args) (hc:aM P f args (H0 0 0) r h') (hs:aa r r') (hp:tw r'):aB P f args r':=by
 intro n m G w vs hv R F
 let G0:aD:={G with dom:=fun _=>False,tdom:=fun _=>False}
 refine (hc G0 w vs (ha G G0 w vs rfl rfl hv) eB ⟨fun _ _ _ h=>h,fun _ _ _ h=>h⟩).mono ?_
 rintro e w' ⟨v,G',rfl,T,R',V⟩
 refine ⟨v,{G' with dom:=G.dom,ι:=G.ι,tdom:=G.tdom,τ:=G.τ},rfl,?_,eB,hp G' _ w' v rfl rfl (hs G' w' v V)⟩
 have hO:∀{G:aD} {n m} B,¬(H0 n m).O G B:=fun B=>cG B
 have hT:∀{G:aD} {n m} B,¬(H0 n m).T G B:=fun B ⟨t,ht,_⟩=>by simp[H0,H.only] at ht
 constructor
 ·exact fun _ x=>x
 ·exact fun _=> .inl
 ·exact fun _ _=>rfl
 ·exact fun _ x=>x
 ·exact fun _=> .inl
 ·exact fun _ _=>rfl
 ·exact Nat.le_refl _
 ·exact Nat.le_refl _
 ·exact T.size_le
 ·exact T.os
 ·exact T.output
 ·exact T.form
 ·exact fun B hB _ _=>T.keep B hB (hO B) (hT B)
 ·exact fun B hB _=>T.own_keep B hB (hO B)
 ·exact fun B hB _ _=>T.lim_keep B hB (hO B) (hT B)
 ·exact fun B hB x=>absurd x (hT B)
 ·exact fun B _ x=>absurd x (hO B)
 ·exact fun B _ x=>absurd x (hT B)
 ·exact fun j o x=>by simp[H0,H.only,af] at x
 ·exact fun t x=>by simp[H0,H.only] at x
theorem aG.aw {f:FuncId} {N:Nat} {ac:AC} {args:List AV} {ds:List RV} {r:AV} (hF:aG P f N ac ds) (hl:args.length≤N) (ha:aA args=true) (hp:aJ r=true) (hw:Wp P N ac ⟨fw args,H0 0 0⟩ fun e s'=>iY e∧∃q,dL ds s'.t s'.h=some q∧aa q r):aB P f args r:=by
 obtain ⟨r',h',cZ,hs⟩:=hF.dp (Q:=fun r' _=>aa r' r) hl hw
 exact cZ.pZ (bo _ ha) hs (bW _ hp)
end
end Go.Av
end
section
set_option maxRecDepth 10000
namespace Go.Av
section
variable {P:Program}
theorem aa.own {sz:Nat} {xs:List AV} {t:Nat}:aa (.sl sz xs (.own t)) (.sl sz xs .any):=aa.cap
def OLe (f f':Nat→Option Obj):Prop:=∀j o',f' j=some o'→∃o,f j=some o∧cD o o'
theorem OLe.refl (f:Nat→Option Obj):OLe f f:=fun j o h=>⟨o,h,cD.refl o⟩
theorem OLe.none (f:Nat→Option Obj):OLe f af:=fun j o h=>by cases h
theorem OLe.upd {f f':Nat→Option Obj} {i:Nat} {o o':Obj} (h:OLe f f') (hs:cD o o'):OLe (upd f i (some o)) (upd f' i (some o')):=by
 intro j p hp
 simp only[Go.Av.upd] at hp ⊢
 split at hp
 ·rename_i e;rw[if_pos e];cases hp;exact ⟨o,rfl,hs⟩
 ·rename_i e;rw[if_neg e];exact h j p hp
theorem aI.of {t t':Tm} {f f':Nat→Option Obj} {n n' m m':Nat} {k k':List Nat} (ht:∀i,aa (t i) (t' i)) (ho:OLe f f') (hk:∀x∈k',x∈k) (hn:n≤n') (hm:m≤m'):aI ⟨t,⟨f,n,k,m⟩⟩ ⟨t',⟨f',n',k',m'⟩⟩:=
 aI.mk' ht ⟨ho,hk⟩ hn hm
theorem aa.dW {sz:Nat} {xs:List AV} {k t:Nat} (h:k=xs.length):aa (.sl sz xs (.exact k)) (.sl sz xs (.own t)):=by
 intro G w v hv
 unfold ak at hv ⊢
 rcases hv with ⟨a,b,-⟩|⟨B,off,C,vs,h1,h2,h3,h4,h5,h6⟩
 ·exact .inl ⟨a,b,trivial⟩
 ·exact .inr ⟨B,off,C,vs,h1,h2,h3,h4,h5,.inl (by simp only[bH] at h6;omega)⟩
theorem OLe.put {f f':Nat→Option Obj} {i:Nat} {o o':Obj} (h:OLe f f') (hf:f i=some o) (hs:cD o o'):OLe f (Go.Av.upd f' i (some o')):=by
 intro j p hp
 simp only[Go.Av.upd] at hp
 split at hp
 ·rename_i e;subst e;cases hp;exact ⟨o,hf,hs⟩
 ·exact h j p hp
end
end Go.Av
end
section
namespace Go.Av
open Classical in
section
variable {P:Program} {G:aD} {h:H} {w:World}
def H.DO (h:H) (G:aD) (d:Nat→Bool) (B:Nat):Prop:=∃id o,d id=true∧h.objs id=some o∧G.ι id=B
def H.drop (h:H) (d:Nat→Bool):H:={h with objs:=fun j=>if d j then none else h.objs j}
noncomputable def aD.frz (G:aD) (h:H) (d:Nat→Bool):aD:=
 {G with own:=fun B=>G.own B∧¬h.DO G d B,lim:=fun B=>if h.DO G d B then none else G.lim B}
theorem zu {d:Nat→Bool} {B:Nat} (x:h.DO G d B):h.O G B:=by
 obtain ⟨id,o,-,a,b⟩:=x
 exact ⟨id,o,a,b⟩
theorem aO (d:Nat→Bool):Trans G w h (G.frz h d) w (h.drop d):=by
 have hsub:∀B,(h.drop d).O (G.frz h d) B→h.O G B:=by
  rintro B ⟨id,o,a,b⟩
  simp only[H.drop] at a
  split at a
  ·cases a
  ·exact ⟨id,o,a,b⟩
 constructor
 ·exact fun _ x=>x
 ·exact fun _=> .inl
 ·exact fun _ _=>rfl
 ·exact fun _ x=>x
 ·exact fun _=> .inl
 ·exact fun _ _=>rfl
 ·exact Nat.le_refl _
 ·exact Nat.le_refl _
 ·exact Nat.le_refl _
 ·rfl
 ·rfl
 ·intro B hB
  exact aU.refl _
 ·exact fun _ _ _ _=>rfl
 ·intro B hB hO
  have:¬h.DO G d B:=fun x=>hO (zu x)
  simp[aD.frz,this]
 ·intro B hB hO hT
  have:¬h.DO G d B:=fun x=>hO (zu x)
  simp[aD.frz,this]
 ·intro B hB hT hO e he
  have:¬h.DO G d B:=fun x=>hO (zu x)
  refine ⟨fun _ _=>rfl,fun e' he'=>?_⟩
  simp only[aD.frz,this,if_false] at he'
  rw[he] at he'
  cases he'
  exact Nat.le_refl _
 ·exact fun B _ x=>hsub B x
 ·exact fun B _ x=>x
 ·intro j o a
  simp only[H.drop] at a
  split at a
  ·cases a
  ·exact .inl ⟨o,a⟩
 ·exact fun t x=> .inl x
theorem oN (R:aK G h w) (d:Nat→Bool):aK (G.frz h d) (h.drop d) w:=by
 have hd:∀{id o},(h.drop d).objs id=some o→h.objs id=some o∧d id=false:=by
  intro id o a
  simp only[H.drop] at a
  split at a
  ·cases a
  ·rename_i q;exact ⟨a,by simpa using q⟩
 constructor
 ·intro id o a
  obtain ⟨a,q⟩:=hd a
  obtain ⟨r1,r2,r3,r4⟩:=R.obj id o a
  refine ⟨r1,⟨r2,?_⟩,r3,?_⟩
  ·rintro ⟨id',o',x1,x2,x3⟩
   have:=R.inj _ _ _ _ x2 a x3
   subst this
   rw[x1] at q;cases q
  ·cases o with
   |cells cs=>
    obtain ⟨vs,rest,T,fr,y1,y2,y3⟩:=r4
    exact ⟨vs,rest,T,fr,y1,aq.mono R (aO d) _ _ y2,y3⟩
   |map es=>
    obtain ⟨en,clock,y1,y2⟩:=r4
    exact ⟨en,clock,y1,Entries.mono R (aO d) _ _ y2⟩
   |loop N t ps asg body st pend=>
    obtain ⟨r,y1,y2,y3,y4⟩:=r4
    exact ⟨r,y1,y2,fun i=>ak.mono R (aO d) _ _ (y3 i),y4⟩
   |raw c=>exact r4
 ·intro id id' o o' a b e
  exact R.inj _ _ _ _ (hd a).1 (hd b).1 e
 ·intro t ht
  obtain ⟨r1,r2⟩:=R.tok t ht
  refine ⟨r1,fun B e q=>?_⟩
  obtain ⟨x1,x2,x3⟩:=r2 B e q
  have:¬h.DO G d B:=by
   rintro ⟨id,o,y1,y2,y3⟩
   have:=(R.obj id o y2).2.1
   rw[y3] at this
   exact x2 this
  refine ⟨by simp only[aD.frz,this,if_false];exact x1,fun x=>x2 x.1,x3⟩
 ·exact fun t ht t' ht' B e e' a b=>R.tinj t ht t' ht' B e e' a b
theorem iN {v:Value} (h:One v):v.cells= #[v]:=by
 obtain ⟨a,b⟩:=h
 cases v<;>first|rfl|exact absurd rfl (a _)|exact absurd rfl (b _)
theorem tx (R:aK G h w) {d:Nat→Bool} {id off len:Nat} {c:Option Nat} {cs:List AV} {v:Value} (ho:h.objs id=some (.cells cs)) (hd:d id=true) (hl:off+len≤cs.length) (r:ak G w (.tsl 1 id off len c) v):
  ak (G.frz h d) w (.sl 1 ((cs.drop off).take len) .any) v:=by
 simp only[ak] at r
 obtain ⟨-,⟨C,cc,Tt,fr,rfl,⟨h2,-⟩,-⟩|⟨h0,⟨a,rfl⟩,-⟩⟩:=r
 ·obtain ⟨-,r2,r3,vs,rest,T,fr',y1,y2,y3,y4⟩:=R.obj id _ ho
  have hlen:=aq.length y2
  have hx:aq (G.frz h d) w ((cs.drop off).take len) ((vs.drop off).take len):=aq.mono R (aO d) _ _ (aq.take len (aq.drop off y2))
  have h1:∀v∈(vs.drop off).take len,One v:=fun v hv=>y4 v (List.mem_of_mem_drop (List.mem_of_mem_take hv))
  have he:=cE (sz:=1) hx (fun v hv=>by rw[iN (h1 v hv)];rfl)
  have hfl:((vs.drop off).take len).flatMap (·.cells.toList)=(vs.drop off).take len:=by
   have:∀l:List Value,(∀v∈l,One v)→l.flatMap (·.cells.toList)=l:=by
    intro l
    induction l with
    |nil=>intro _;rfl
    |cons x l ih=>intro hl;rw[List.flatMap_cons,iN (hl x (by simp)),ih (fun v hv=>hl v (by simp[hv]))];rfl
   exact this _ h1
  rw[hfl] at he
  unfold ak
  refine .inr ⟨G.ι id,off,C,(vs.drop off).take len,?_,?_,?_,he,?_,trivial⟩
  ·rw[List.length_take,List.length_drop];congr 1;omega
  ·rw[List.length_take];omega
  ·simp only[List.length_take,List.length_drop];omega
  ·intro i v hi
   have hi':=(List.getElem?_eq_some_iff.1 hi).1
   rw[List.length_take,List.length_drop] at hi'
   have hv1:vs[off+i]? =some v:=by
    rw[List.getElem?_take_of_lt (by omega),List.getElem?_drop] at hi
    exact hi
   refine ⟨?_,h1 v (List.mem_of_getElem? hi),?_,?_⟩
   ·unfold World.cell?
    simp only[y1]
    simp[List.getElem?_append_left (show off+i<vs.length by omega),hv1]
   ·exact fun x=>x.2 ⟨id,_,hd,ho,rfl⟩
   ·intro e he'
    have:h.DO G d (G.ι id):=⟨id,_,hd,ho,rfl⟩
    simp[aD.frz,this] at he'
 ·subst h0
  unfold ak
  exact .inl ⟨by simp,⟨_,rfl⟩,trivial⟩
theorem zy (R:aK G h w) {d:Nat→Bool} {id off:Nat} {cs:List AV} {v:Value} (ho:h.objs id=some (.cells cs)) (hd:d id=true) (r:ak G w (.ptr id off) v):
  ak (G.frz h d) w (.ref (cs.drop off)) v:=by
 simp only[ak] at r
 obtain ⟨-,rfl⟩:=r
 obtain ⟨-,r2,r3,vs,rest,T,fr',y1,y2,y3,y4⟩:=R.obj id _ ho
 unfold ak
 refine ⟨G.ι id,off,vs.drop off,rfl,aq.mono R (aO d) _ _ (aq.drop off y2),?_⟩
 intro i v hi
 have hv1:vs[off+i]? =some v:=by rw[List.getElem?_drop] at hi;exact hi
 have hi':=(List.getElem?_eq_some_iff.1 hv1).1
 refine ⟨?_,y4 v (List.mem_of_getElem? hv1),?_,?_⟩
 ·unfold World.cell?
  simp only[y1]
  simp[List.getElem?_append_left hi',hv1]
 ·exact fun x=>x.2 ⟨id,_,hd,ho,rfl⟩
 ·intro e he'
  have:h.DO G d (G.ι id):=⟨id,_,hd,ho,rfl⟩
  simp[aD.frz,this] at he'
mutual
def unT (h:H) (d:Nat→Bool):AV→AV
 | .tsl sz id off len c=>if sz=1∧d id=true then (match h.objs id with
  |some (.cells cs)=>if off+len≤cs.length then .sl 1 ((cs.drop off).take len) .any else .any
  |_=> .any) else .tsl sz id off len c
 | .ptr id off=>if d id=true then (match h.objs id with
  |some (.cells cs)=> .ref (cs.drop off)
  |_=> .any) else .ptr id off
 | .agg xs=> .agg (oO h d xs)
 | .tup xs=> .tup (oO h d xs)
 | .clo fn a b=> .clo fn (oO h d a) (oO h d b)
 |x=>x
def oO (h:H) (d:Nat→Bool):List AV→List AV
 |[]=>[]
 |x::xs=>unT h d x::oO h d xs
end
mutual
theorem oP (R:aK G h w) (d:Nat→Bool):∀(x:AV) (v:Value),ak G w x v→ak (G.frz h d) w (unT h d x) v
 | .tsl sz id off len c,v,r=>by
  unfold unT
  split
  ·rename_i hs
   obtain ⟨rfl,hd⟩:=hs
   split
   ·rename_i cs ho
    split
    ·rename_i hl
     exact tx R ho hd hl r
    ·simp[ak]
   ·simp[ak]
  ·exact ak.mono R (aO d) _ _ r
 | .agg xs,v,r=>by
  simp only[unT,ak] at r ⊢
  obtain ⟨vs,e,r⟩:=r
  exact ⟨vs,e,iu R d xs vs r⟩
 | .tup xs,v,r=>by
  simp only[unT,ak] at r ⊢
  obtain ⟨vs,e,r⟩:=r
  exact ⟨vs,e,iu R d xs vs r⟩
 | .any,v,r=>by simp[unT,ak]
 | .int k n,v,r=>by unfold unT;exact ak.mono R (aO d) _ _ r
 | .bool b,v,r=>by unfold unT;exact ak.mono R (aO d) _ _ r
 | .str l,v,r=>by unfold unT;exact ak.mono R (aO d) _ _ r
 | .sc x,v,r=>by unfold unT;exact ak.mono R (aO d) _ _ r
 | .sl sz xs c,v,r=>by unfold unT;exact ak.mono R (aO d) _ _ r
 | .ref cs,v,r=>by unfold unT;exact ak.mono R (aO d) _ _ r
 | .ptr id off,v,r=>by
  unfold unT
  split
  ·rename_i hd
   split
   ·rename_i cs ho
    exact zy R ho hd r
   ·simp[ak]
  ·exact ak.mono R (aO d) _ _ r
 | .clo fn a b,v,r=>by
  simp only[unT,ak] at r ⊢
  obtain ⟨vs,us,e,r1,r2⟩:=r
  exact ⟨vs,us,e,iu R d a vs r1,iu R d b us r2⟩
 | .ifc t x,v,r=>by unfold unT;exact ak.mono R (aO d) _ _ r
 | .mp id,v,r=>by unfold unT;exact ak.mono R (aO d) _ _ r
 | .yld id,v,r=>by unfold unT;exact ak.mono R (aO d) _ _ r
 | .slt sz xs ys,v,r=>by unfold unT;exact ak.mono R (aO d) _ _ r
 | .sup B,v,r=>by unfold unT;exact ak.mono R (aO d) _ _ r
 | .supb B,v,r=>by unfold unT;exact ak.mono R (aO d) _ _ r
 | .kR k,v,r=>by unfold unT;exact ak.mono R (aO d) _ _ r
 | .one,v,r=>by unfold unT;exact ak.mono R (aO d) _ _ r
theorem iu (R:aK G h w) (d:Nat→Bool):∀(xs:List AV) (vs:List Value),aq G w xs vs→aq (G.frz h d) w (oO h d xs) vs
 |[],vs,r=>by simpa [oO,aq] using r
 |x::xs,vs,r=>by
  simp only[oO,aq] at r ⊢
  obtain ⟨v,us,e,r1,r2⟩:=r
  exact ⟨v,us,e,oP R d x v r1,iu R d xs us r2⟩
end
theorem Bv (t:Tm) (h:H) (d:Nat→Bool):aI ⟨t,h⟩ ⟨fun i=>unT h d (t i),h.drop d⟩ where
 n:=Nat.le_refl _
 m:=Nat.le_refl _
 go:=fun N G w a r _=>⟨G.frz h d,aO d,⟨r.size,fun i=>oP r.h d _ _ (r.t i),oN r.h d,r.df.mono (aO d)⟩⟩
theorem aM.frz {f:FuncId} {args:List AV} {h h':H} {r:AV} (hc:aM P f args h r h') (d:Nat→Bool):aM P f args h (unT h' d r) (h'.drop d):=by
 intro G w vs hv R F
 refine (hc G w vs hv R F).mono ?_
 rintro e w' ⟨v,G',rfl,T,R',V⟩
 exact ⟨v,G'.frz h' d,rfl,T.trans R R' (aO d),oN R' d,oP R' d _ _ V⟩
theorem aG.zB {f:FuncId} {N:Nat} {ac:AC} {args:List AV} {ds:List RV} {r:AV} (hF:aG P f N ac ds) (hl:args.length≤N) (ha:aA args=true) (hp:aJ r=true) (hw:Wp P N ac ⟨fw args,H0 0 0⟩ fun e s'=>iY e∧∃q,dL ds s'.t s'.h=some q∧aa (unT s'.h (fun _=>true) q) r):aB P f args r:=by
 obtain ⟨r',h',cZ,hs⟩:=hF.dp (Q:=fun r' h'=>aa (unT h' (fun _=>true) r') r) hl hw
 exact (cZ.frz _).pZ (bo _ ha) hs (bW _ hp)
end
end Go.Av
end
section
namespace Go.Av
section
variable {P:Program} {G:aD} {h:H} {w:World}
theorem mh {sz:Nat}:∀(rows:List (List AV)) (vs:List Value),(∀x∈rows,x.length=sz)→aq G w rows.flatten vs→av G w sz (rows.map .agg) vs
 |[],vs,_,h=>by simpa [aq,av] using h
 |x::rows,vs,hl,h=>by
  have hx:=hl x (by simp)
  have h1:=aq.take sz h
  have h2:=aq.drop sz h
  rw[List.flatten_cons,List.take_left' hx] at h1
  rw[List.flatten_cons,List.drop_left' hx] at h2
  have hn:(vs.take sz).length=sz:=by have:=aq.length h1;omega
  simp only[List.map_cons,av]
  refine ⟨.agg (vs.take sz).toArray,vs.drop sz,by simp[Value.cells],by simpa [Value.cells] using hn,?_,mh rows _ (fun y hy=>hl y (by simp[hy])) h2⟩
  simp only[ak]
  exact ⟨_,rfl,h1⟩
theorem kE {sz:Nat}:∀(rows:List (List AV)),(∀x∈rows,x.length=sz)→rows.flatten.length=rows.length*sz
 |[],_=>by simp
 |x::rows,h=>by
  have:=kE rows fun y hy=>h y (by simp[hy])
  have hx:=h x (by simp)
  simp[this,hx,Nat.add_mul];omega
open Classical in
theorem wS (R:aK G h w) {d:Nat→Bool} {sz id:Nat} {rows:List (List AV)} {c:Option Nat} {v:Value} (hr:∀x∈rows,x.length=sz) (ho:h.objs id=some (.cells rows.flatten)) (hd:d id=true) (r:ak G w (.tsl sz id 0 rows.length c) v):
  ak (G.frz h d) w (.sl sz (rows.map .agg) .any) v:=by
 simp only[ak] at r
 obtain ⟨-,⟨C,cc,Tt,fr,rfl,⟨h2,-⟩,-⟩|⟨h0,⟨a,rfl⟩,-⟩⟩:=r
 ·obtain ⟨-,r2,r3,vs,rest,T,fr',y1,y2,y3,y4⟩:=R.obj id _ ho
  have hlen:=aq.length y2
  have hfl:=kE rows hr
  have hx:aq (G.frz h d) w rows.flatten vs:=aq.mono R (aO d) _ _ y2
  unfold ak
  refine .inr ⟨G.ι id,0,C,vs,by simp,by simpa using h2,by simp;omega,mh rows vs hr hx,?_,trivial⟩
  intro i v hi
  have hi':=(List.getElem?_eq_some_iff.1 hi).1
  refine ⟨?_,y4 v (List.mem_of_getElem? hi),?_,?_⟩
  ·unfold World.cell?
   simp only[y1,Nat.zero_add]
   simp[List.getElem?_append_left hi',hi]
  ·exact fun x=>x.2 ⟨id,_,hd,ho,rfl⟩
  ·intro e he'
   have:h.DO G d (G.ι id):=⟨id,_,hd,ho,rfl⟩
   simp[aD.frz,this] at he'
 ·have:rows=[]:=List.length_eq_zero_iff.1 h0
  subst this
  unfold ak
  exact .inl ⟨by simp,⟨_,rfl⟩,trivial⟩
def UpK (h:H) (q r:AV):Prop:=aa q r∨∃(rows:List (List AV)) (id sz:Nat) (rest:List AV),q= .tup (.tsl sz id 0 rows.length none::rest)∧(∀x∈rows,x.length=sz)∧h.objs id=some (.cells rows.flatten)∧aa (.tup (.sl sz (rows.map .agg) .any::rest)) r
theorem aM.upK {f:FuncId} {args:List AV} {h h':H} {q r:AV} (hc:aM P f args h q h') (u:UpK h' q r):aM P f args h r (h'.drop fun _=>true):=by
 intro G w vs hv R F
 refine (hc G w vs hv R F).mono ?_
 rintro e w' ⟨v,G',rfl,T,R',V⟩
 refine ⟨v,G'.frz h' fun _=>true,rfl,T.trans R R' (aO _),oN R' _,?_⟩
 rcases u with hs|⟨rows,id,sz,rest,rfl,hr,ho,hs⟩
 ·exact hs _ _ _ (ak.mono R' (aO _) _ _ V)
 ·refine hs _ _ _ ?_
  simp only[ak,aq] at V ⊢
  obtain ⟨vs',e,v1,us,rfl,V1,V2⟩:=V
  exact ⟨_,e,v1,us,rfl,by simpa only[ak] using wS R' hr ho rfl (by simpa only[ak] using V1),aq.mono R' (aO _) _ _ V2⟩
theorem aG.zC {f:FuncId} {N:Nat} {ac:AC} {args:List AV} {ds:List RV} {r:AV} (hF:aG P f N ac ds) (hl:args.length≤N) (ha:aA args=true) (hp:aJ r=true) (hw:Wp P N ac ⟨fw args,H0 0 0⟩ fun e s'=>iY e∧∃q,dL ds s'.t s'.h=some q∧UpK s'.h q r):aB P f args r:=by
 obtain ⟨r',h',cZ,hs⟩:=hF.dp (Q:=fun r' h'=>UpK h' r' r) hl hw
 exact (cZ.upK hs).pZ (bo _ ha) (aa.refl _) (bW _ hp)
end
end Go.Av
end
section
namespace Go.Av
section
variable {P:Program} {N:Nat} {o:Oper} {t:Tm} {h:H} {en:Ent}
theorem uY {x:AV} (h:shaped x=true):bf x=true∨∃cs,x= .agg cs:=by
 unfold shaped at h
 simp only[Bool.or_eq_true] at h
 rcases h with h|h
 ·exact .inl h
 ·cases x<;>simp at h
  exact .inr ⟨_,rfl⟩
theorem da {G:aD} {w:World} {sz:Nat}:∀{els:List AV} {vs:List Value},av G w sz els vs→els.all shaped=true→aq G w (els.flatMap cellsOf) vs
 |[],vs,h,_=>by simpa [av,aq] using h
 |x::els,vs,h,ha=>by
  simp only[av] at h
  obtain ⟨v,us,rfl,h1,h2,h3⟩:=h
  simp only[List.all_cons,Bool.and_eq_true] at ha
  rw[List.flatMap_cons]
  exact (cC h2 (uY ha.1)).append (da h3 ha.2)
theorem wT {c:Call} {zs zx:Operand} {ys yx:Opd} {T U e:TypeId} {d:TypeDesc} {i:TypeInfo} {s:Nat} {els:List AV} (hop:o.op= .call c) (hc:c.callee= .builtin .append) (ha:c.args.toList=[zs,zx]) (hta:c.argTypes.toList=[T,U])
  (hT:P.underlying T=some (.slice e)) (hU:P.underlying U=some d) (hd:(∃e',d= .slice e')∨d= .string) (hi:P.info? e=some i) (hz:i.zero.any (fun z=>z.cells.size == i.size)=true) (hsz:0<i.size)
  (hys:opd P T zs=some ys) (hyx:opd P U zx=some yx) (hs:ev t ys= .sl s [] (.exact 0)) (hx:∃s' c',ev t yx= .sl s' els c'∧s'=i.size) (hsh:els.all shaped=true) (hne:0<els.length)
  (hb:els.length*i.bytes≤140737488355328) (hlen:els.length<4611686018427387904):
  Loc P o t h (.tsl i.size h.n 0 els.length none) {h with objs:=upd h.objs h.n (some (.cells (els.flatMap cellsOf))),n:=h.n+1} ⟨[],[h.n],[]⟩:=by
 have ha':c.args= #[zs,zx]:=by rw[←Array.toArray_toList (xs:=c.args),ha]
 have hta':c.argTypes= #[T,U]:=by rw[←Array.toArray_toList (xs:=c.argTypes),hta]
 obtain ⟨z,hz1,hz2⟩:∃z,i.zero=some z∧z.cells.size=i.size:=by
  cases hzz:i.zero with
  |none=>rw[hzz] at hz;simp at hz
  |some z=>rw[hzz] at hz;exact ⟨z,rfl,by simpa using hz⟩
 refine ⟨_,_,dT h _,fun G w a ht R F=>?_⟩
 have r1:=ar hys ht
 have r2:=ar hyx ht
 rw[hs] at r1
 obtain ⟨s',c',hx,hs'⟩:=hx
 rw[hx] at r2
 obtain ⟨news,n1,n2,n3⟩:=fV (P:=P) (.inl hs') r2
 have hbase:∃a0,a.eval zs= .slice a0 0 0:=by
  simp only[ak,bH] at r1
  rcases r1 with ⟨-,h,-⟩|⟨B,off,C,vs,q1,-,-,-,-,q6⟩
  ·exact h
  ·subst q6;exact ⟨_,by simpa using q1⟩
 obtain ⟨a0,ha0⟩:=hbase
 obtain ⟨w',C,rest,e1,e2,e3,e4⟩:=cR (ty:=o.type) hT hU hd hi hz1 hz2 hsz n1 (jx a0) (by omega) (Nat.le_refl _) (by simpa using hb) (by simpa using hlen)
 rw[List.nil_append] at e2
 simp only[Nat.zero_add] at e1 e3 e4
 have hnl:=n2.length
 obtain ⟨G',T1,R1,V⟩:=kY (m:=h.m) (sz:=i.size) e2 (da n2 hsh) n3 (gx F (by simp[H.only])) e3 (by omega)
 refine ⟨.value _,_,w',G',?_,.inl rfl,T1,R1,V⟩
 simp[execOp,hop,resolve,hc,ha',hta',invoke,builtin,ha0,e1]
theorem oQ {ty e:TypeId} {len:Nat} {parts:Array (Nat × Operand)} {ys:List Opd} {z:Value} (hop:o.op= .buildSlice ty len parts) (hu:P.underlying ty=some (.slice e)) (hi:(P.info? e).isSome=true) (hn:parts.size=len) (hpos:0<P.cellsOf e)
  (hz:(P.info? e).bind (·.zero)=some z) (hzs:z.cells.size=P.cellsOf e)
  (hys:eK P e 0 parts.toList=some ys) (hs:∀y∈ys,(cellsOf (ev t y)).length=P.cellsOf e∧shaped (ev t y)=true) (hle:ys.length*P.cellsOf e≤16777216):
  Loc P o t h (.tsl (P.cellsOf e) h.n 0 ys.length none) {h with objs:=upd h.objs h.n (some (.cells ((ys.map (ev t)).flatMap cellsOf))),n:=h.n+1} ⟨[],[h.n],[]⟩:=by
 refine ⟨_,_,dT h _,fun G w a ht R F=>?_⟩
 obtain ⟨r1,r2,r3⟩:=fu ht hys
 simp only[Array.length_toList,hn] at r2 r3
 have hsz:∀v∈parts.toList.map (fun p=>a.eval p.2),v.cells.size=P.cellsOf e∧∀u∈v.cells.toList,One u:=by
  intro v hv
  obtain ⟨k,hk⟩:=List.getElem?_of_mem hv
  have hlt:k<(parts.toList.map (fun p=>a.eval p.2)).length:=by
   rcases Nat.lt_or_ge k (parts.toList.map (fun p=>a.eval p.2)).length with h|h
   ·exact h
   ·rw[List.getElem?_eq_none h] at hk;cases hk
  have hlt':k<ys.length:=by simp at hlt;omega
  obtain ⟨u,hu1,hu2⟩:=r1.get (i:=k) (x:=ev t ys[k]) (by simp[List.getElem?_eq_getElem hlt'])
  have e:u=v:=Option.some.inj (hu1.symm.trans hk)
  subst e
  obtain ⟨s1,s2⟩:=hs ys[k] (List.getElem_mem hlt')
  obtain ⟨c1,c2⟩:=cq hu2 s2
  have:=c1.length
  exact ⟨by simpa [s1] using this,cells_one c1 c2⟩
 generalize hV:parts.toList.map (fun p=>a.eval p.2)=vals at*
 have hvl:vals.length=len:=by rw[←hV];simp[hn]
 have he:=cE r1 fun v hv=>(hsz v hv).1
 have hfl:(vals.flatMap (·.cells.toList)).length=len*P.cellsOf e:=by
  have:=he.length;rw[this];simp[r3]
 have hfill:∀cells:Array Value,cells.size=len*P.cellsOf e→Instr.fill (fun i=>some (i*P.cellsOf e,P.cellsOf e)) cells ((parts.map fun (i,x)=>(i,a.eval x)).toList)=some (vals.flatMap (·.cells.toList)).toArray:=by
  intro cells hc
  have hz:(parts.map fun (i,x)=>(i,a.eval x)).toList=(List.range' 0 vals.length).zip vals:=by
   have:∀l:List (Nat × Operand),l.map (fun (i,x)=>(i,a.eval x))=(l.map (·.1)).zip (l.map fun p=>a.eval p.2):=by
    intro l;induction l with
    |nil=>rfl
    |cons p l ih=>simp[ih]
   rw[Array.toList_map,this,r2,hV,hvl]
  rw[hz]
  have:=gy (sz:=P.cellsOf e) (cells:=cells) vals 0 [] cells (by simp) (by simp) (by rw[hc,hvl];simp) (fun v hv=>(hsz v hv).1)
  simpa using this
 have hle':¬(len*P.cellsOf e>16777216):=by rw[←r3];omega
 obtain ⟨G',T1,R1,V⟩:=kY (m:=h.m) (sz:=P.cellsOf e) (len:=len) (C:=len) (rest:=[]) (vs:=vals.flatMap fun v:Value=>v.cells.toList) (cm w (.cells ((vals.flatMap fun v:Value=>v.cells.toList)++[]).toArray e (0,0))) (da he (by
  rw[List.all_map]
  exact List.all_eq_true.2 fun y hy=>(hs y hy).2)) (by
  intro u hu
  obtain ⟨v,hv,hu'⟩:=List.mem_flatMap.1 hu
  exact (hsz v hv).2 u hu') (gx F (by simp[H.only])) ⟨Nat.le_refl _,by
  have:=Nat.le_mul_of_pos_right len hpos
  omega⟩ (by rw[hfl];simp)
 rw[List.append_nil] at T1 R1 V
 refine ⟨.value (.slice (some ⟨w.heap.size,0,none⟩) len len),_,_,G',?_,.inl rfl,T1,R1,by rw[r3];exact V⟩
 obtain ⟨i,hi1,hi2⟩:=Option.bind_eq_some_iff.1 hz
 have hle2:¬(16777216<len*P.cellsOf e):=by omega
 have hmap:∀(zc:Array Value),((Array.range (len*P.cellsOf e)).map (zc[· %zc.size]!)).size=len*P.cellsOf e:=by intro zc;simp
 have hrz:(zeroValue e).run P w= .ok z w:=by simp[zeroValue,typeInfo,hi1,hi2]
 simp only[execOp,hop,Sem.run_bind,Instr.buildSlice,run_underlying hu,Result.andThen_ok,bm P w e hi,if_neg hle2,Sem.run_pure,Sem.run_ite,hrz,hfill _ (hmap _)]
 by_cases h0:len*P.cellsOf e=0
 ·rw[if_pos h0];simp[newRow]
 ·rw[if_neg h0];simp[newRow]
theorem wU {c:Call} {zs zx:Operand} {ys yx:Opd} {T U e:TypeId} {d:TypeDesc} {i:TypeInfo} {s s':Nat} {xs:List AV} {cp c':Cap} (hop:o.op= .call c) (hc:c.callee= .builtin .append) (ha:c.args.toList=[zs,zx]) (hta:c.argTypes.toList=[T,U])
  (hT:P.underlying T=some (.slice e)) (hU:P.underlying U=some d) (hd:(∃e',d= .slice e')∨d= .string) (hi:P.info? e=some i)
  (hys:opd P T zs=some ys) (hyx:opd P U zx=some yx) (hs:ev t ys= .sl s xs cp) (hx:ev t yx= .sl s' [] c'):Loc P o t h (.sl s xs cp) h aF:=by
 have ha':c.args= #[zs,zx]:=by rw[←Array.toArray_toList (xs:=c.args),ha]
 have hta':c.argTypes= #[T,U]:=by rw[←Array.toArray_toList (xs:=c.argTypes),hta]
 refine Loc.plain fun G w a ht=>?_
 have r1:=ar hys ht
 have r2:=ar hyx ht
 rw[hs] at r1
 rw[hx] at r2
 obtain ⟨news,n1,n2,-⟩:=fV (P:=P) (sz:=i.size) (.inr rfl) r2
 have hnn:news=[]:=by simpa [av] using n2
 subst hnn
 obtain ⟨base,len,C,hv,hlC⟩:∃base len C,a.eval zs= .slice base len C∧len≤C:=by
  simp only[ak] at r1
  rcases r1 with ⟨-,⟨a0,h⟩,-⟩|⟨B,off,C,vs,q1,q2,-⟩
  ·exact ⟨_,_,_,h,Nat.le_refl _⟩
  ·exact ⟨_,_,_,q1,q2⟩
 have hrun:=run_append_fits (ty:=o.type) (base:=base) (sLen:=len) (sCap:=C) (w':=w) hT hU hd hi n1 (by simpa using hlC) (by cases base<;>simp[storeCells])
 refine ⟨a.eval zs,?_,r1⟩
 simp[execOp,hop,resolve,hc,ha',hta',invoke,builtin,hv] at hrun ⊢
 rw[hrun]
 rfl
def dr (ρ:Opd→AV) (h:H):AOp→Option (AV × H × Ent)
 | .app false sz bytes s x=>match ρ s,ρ x with
  | .sl s xs c,.sl _ [] _=>some (.sl s xs c,h,aF)
  | .sl _ [] (.exact 0),.sl s' els _=>if s'=sz∧els.all shaped=true∧0<els.length∧els.length*bytes≤140737488355328∧els.length<4611686018427387904 then
    some (.tsl sz h.n 0 els.length none,{h with objs:=upd h.objs h.n (some (.cells (els.flatMap cellsOf))),n:=h.n+1},⟨[],[h.n],[]⟩) else none
  |_,_=>none
 | .buildSl sz parts=>if parts.all (fun x=>(cellsOf (ρ x)).length=sz∧shaped (ρ x))=true∧parts.length*sz≤16777216 then
   some (.tsl sz h.n 0 parts.length none,{h with objs:=upd h.objs h.n (some (.cells ((parts.map ρ).flatMap cellsOf))),n:=h.n+1},⟨[],[h.n],[]⟩) else none
 |_=>none
theorem tz {sz bytes:Nat} {ys yx:Opd} (h:cOp P o=some (.app false sz bytes ys yx)):∃c zs zx T U e e' i,o.op= .call c∧c.callee= .builtin .append∧c.args.toList=[zs,zx]∧c.argTypes.toList=[T,U]∧
  opd P T zs=some ys∧opd P U zx=some yx∧P.underlying T=some (.slice e)∧P.underlying U=some (.slice e')∧P.info? e=some i∧0<i.size∧(i.zero.any fun z=>z.cells.size == i.size)=true∧i.size=sz∧i.bytes=bytes:=by
 unfold cOp at h
 split at h
 case h_28 c hop=>
  split at h
  case h_7 hcal=>
   split at h
   ·rename_i zs zx T U ha hta
    split at h
    ·split at h
     ·split at h
      ·rename_i hq
       cases h
       exact ⟨c,zs,zx,T,U,_,_,_,hop,hcal,ha,hta,‹_›,‹_›,‹_›,‹_›,‹_›,hq.1,hq.2,rfl,rfl⟩
      ·cases h
     ·cases h
    ·(repeat' split at h)<;>(try cases h)<;>simp at h
    ·(repeat' split at h)<;>(try cases h)<;>simp at h
    ·cases h
   ·cases h
  all_goals first
   |(cases h;done)
   |((repeat' split at h)<;>(try cases h)<;>simp at h)
 all_goals first
  |(cases h;done)
  |(simp at h;done)
  |((repeat' split at h)<;>(try cases h)<;>(try simp at h);done)
  |skip
theorem kF {sz:Nat} {ys:List Opd} (h:cOp P o=some (.buildSl sz ys)):∃ty e len parts z,o.op= .buildSlice ty len parts∧P.underlying ty=some (.slice e)∧(P.info? e).isSome=true∧parts.size=len∧0<P.cellsOf e∧(P.info? e).bind (·.zero)=some z∧z.cells.size=P.cellsOf e∧
  eK P e 0 parts.toList=some ys∧sz=P.cellsOf e:=by
 unfold cOp at h
 split at h
 case h_7 ty len parts hop=>
  split at h
  ·split at h
   ·rename_i hq
    simp only[Option.map_eq_some_iff] at h
    obtain ⟨l,h1,h2⟩:=h
    cases h2
    obtain ⟨q1,q2,q3,q4⟩:=hq
    cases hz:(P.info? _).bind (·.zero) with
    |none=>rw[hz] at q4;simp at q4
    |some z=>rw[hz] at q4;exact ⟨ty,_,len,parts,z,hop,‹_›,q2,q1,q3,hz,by simpa using q4,h1,rfl⟩
   ·cases h
  ·cases h
 all_goals first
  |(cases h;done)
  |(simp at h;done)
  |((repeat' split at h)<;>(try cases h)<;>(try simp at h);done)
  |skip
theorem wV {op:AOp} {x:AV} {h':H} (hc:cOp P o=some op) (hx:dr (ev t) h op=some (x,h',en)):Loc P o t h x h' en:=by
 cases op<;>(try (simp [dr] at hx;done))
 case app str sz bytes s x0=>
  cases str<;>(try (simp [dr] at hx;done))
  obtain ⟨c,zs,zx,T,U,e,e',i,hop,hcal,ha,hta,hys,hyx,hT,hU,hi,hs1,hs2,rfl,rfl⟩:=tz hc
  simp only[dr] at hx
  split at hx
  ·cases hx
   exact wU hop hcal ha hta hT hU (.inl ⟨_,rfl⟩) hi hys hyx ‹_› ‹_›
  ·split at hx
   ·rename_i hq
    cases hx
    exact wT hop hcal ha hta hT hU (.inl ⟨_,rfl⟩) hi hs2 hs1 hys hyx ‹_› ⟨_,_,‹_›,hq.1⟩ hq.2.1 hq.2.2.1 hq.2.2.2.1 hq.2.2.2.2
   ·cases hx
  ·cases hx
 case buildSl sz parts=>
  obtain ⟨ty,e,len,ps,z,hop,hu,hi,hn,hpos,hz,hzs,hys,rfl⟩:=kF hc
  simp only[dr] at hx
  split at hx
  ·rename_i hq
   cases hx
   exact oQ hop hu hi hn hpos hz hzs hys (fun y hy=>by simpa using List.all_eq_true.1 hq.1 y hy) hq.2
  ·cases hx
theorem rL {ρ ρ':Opd→AV} {op:AOp} (hx:∀y∈aX op,ρ y=ρ' y):dr ρ h op=dr ρ' h op:=by
 cases op<;>(try rfl)
 case app str sz bytes s x0=>
  cases str
  ·simp only[dr,hx s (by simp[aX]),hx x0 (by simp[aX])]
  ·rfl
 case buildSl sz parts=>
  have e1:parts.map ρ=parts.map ρ':=List.map_congr_left fun y hy=>hx y (by simpa [aX] using hy)
  have e2:parts.all (fun x=>(cellsOf (ρ x)).length=sz∧shaped (ρ x))=parts.all (fun x=>(cellsOf (ρ' x)).length=sz∧shaped (ρ' x)):=by
   refine Bool.eq_iff_iff.2 ?_
   simp only[List.all_eq_true]
   exact ⟨fun h y hy=>by rw[←hx y (by simpa [aX] using hy)];exact h y hy,fun h y hy=>by rw[hx y (by simpa [aX] using hy)];exact h y hy⟩
  simp only[dr,e1,e2]
theorem iO {ops:Array Oper} {i:Nat} {o:Oper} {it:aE} {t:Tm} {h h':H} {x:AV} {en:Ent} (ho:ops[i]? =some o) (hit:bA P N ops o=some it) (hg:guardOf t it.guard=some true) (hx:dr (ev t) h it.op=some (x,h',en)):
  ∃h1 h1',Touch h h1 h1' h' en∧dK P ops i o t h1 x h1':=by
 unfold bA at hit
 split at hit
 ·rename_i op g hop hgd
  split at hit<;>cases hit
  rename_i hcond
  simp only[Bool.and_eq_true] at hcond
  have hop:=fv hop (by rintro rfl;simp[dr] at hx) (by cases op<;>first|rfl|(simp [dr] at hx))
  have hx':dr (ev (fY (names ops o) t)) h op=some (x,h',en):=by
   rw[rL (hX hcond.2)];exact hx
  obtain ⟨h1,h1',tc,loc⟩:=wV hop hx'
  refine ⟨h1,h1',tc,fun G w a ht R F K Q hK ro=>?_⟩
  obtain ⟨nx,v,w',G',e1,e2,T1,R1,V⟩:=loc G w a (er ht) R F
  unfold wpOpIn
  rw[ho]
  simp only[bG hgd ht hg,if_true]
  refine ⟨fun _ _=>trivial,?_⟩
  rw[Oper.semAt_eq _ _ _ (dB hop),e1]
  rcases e2 with rfl|⟨rfl,rfl⟩
  ·rw[Oper.uponIn_value];exact hK G' w' v T1 R1 V
  ·rw[Oper.uponIn_skip];exact hK G' w' undef T1 R1 V
 ·cases hit
theorem ae.opT {dst:Option Nat} {g:Option (Nat × Bool)} {op:AOp} {its:List aE} {t:Tm} {h h':H} {log:List Ent} {en:Ent} {K:Tm→H→List Ent→Prop} {x:AV} (hg:guardOf t g=some true) (hx:dr (ev t) h op=some (x,h',en)) (ht:bS op=true)
  (rest:ae P N its (aY t dst x) h' (en::log) K):ae P N (⟨dst,g,op⟩::its) t h log K:=by
 intro ops i hi hc
 obtain ⟨o,ho,hit,hi',hc'⟩:=cM hi hc
 obtain ⟨h1,h1',tc,run⟩:=iO ho hit hg hx
 obtain ⟨recs,t',hh',ch,hk,hen⟩:=rest ops (i+1) hi' hc'
 have hdst:dst=o.dst:=by
  unfold bA at hit
  split at hit
  ·split at hit<;>cases hit;rfl
  ·cases hit
 refine ⟨⟨t,h,h1,h1',h',x,en⟩::recs,t',hh',.cons ho rfl rfl tc (fun _=>run) (by rw[←hdst];exact ch),by simpa using hk,?_⟩
 intro k r it' hr hit' ht'
 cases k with
 |zero=>
  simp at hr hit';subst hr hit'
  rw[ht] at ht';cases ht'
 |succ k=>simp at hr hit';exact hen k r it' hr hit' ht'
theorem rM (h:H) {id:Nat} {ob:Obj} (ho:h.objs id=some ob):Touch h (.only (upd af id (some ob)) [] h.n h.m) (H0 h.n h.m) {h with objs:=fun j=>if j=id then none else h.objs j} ⟨[],[id],[]⟩ where
 sub:=(di h ho).sub
 n:=rfl
 m:=rfl
 eq:=H.ext (fun j=>by
  simp only[H.patch,H0,H.only,upd,af]
  by_cases e:j=id
  ·subst e;simp
  ·simp[e];omega) rfl (by simp[H.patch,H0,H.only,dS]) rfl
 rd j x:=by
  simp only[H.only,upd,af] at x
  split at x
  ·rename_i e;subst e;simp
  ·cases x
 wr id a b:=by simp only[H0,H.only] at a b;omega
 chg j x hj:=by
  simp only[H.only,upd,af] at x
  split at x
  ·rename_i e;subst e;simp at hj
  ·cases x
 tk t x:=by simp[H.only] at x
 tn t x:=by simp[H0,H.only] at x
 le:=Nat.le_refl _
 lem:=Nat.le_refl _
def ba (P:Program) (N:Nat) (items:List aE) (t:Tm) (h:H) (K:Tm→H→Prop):Prop:=
 ∀ops i,i≤ops.size→dm P N ops (ops.toList.drop i)=some items→∃recs t' h',wD P ops i recs t h t' h'∧K t' h'
theorem ba.step {it:aE} {its:List aE} {t:Tm} {h h':H} {x:AV} {en:Ent} {K:Tm→H→Prop}
  (run:∀(ops:Array Oper) i o,ops[i]? =some o→bA P N ops o=some it→∃h1 h1',Touch h h1 h1' h' en∧dK P ops i o t h1 x h1') (rest:ba P N its (aY t it.dst x) h' K):ba P N (it::its) t h K:=by
 intro ops i hi hc
 obtain ⟨o,ho,hit,hi',hc'⟩:=cM hi hc
 obtain ⟨h1,h1',tc,run⟩:=run ops i o ho hit
 obtain ⟨recs,t',hh',ch,hk⟩:=rest ops (i+1) hi' hc'
 have hdst:it.dst=o.dst:=by
  unfold bA at hit
  split at hit
  ·split at hit<;>cases hit;rfl
  ·cases hit
 exact ⟨⟨t,h,h1,h1',h',x,en⟩::recs,t',hh',.cons ho rfl rfl tc (fun _=>run) (by rw[←hdst];exact ch),hk⟩
theorem ba.op {dst:Option Nat} {g:Option (Nat × Bool)} {op:AOp} {its:List aE} {t:Tm} {h h':H} {en:Ent} {K:Tm→H→Prop} {x:AV} (hg:guardOf t g=some true) (hx:aop (ev t) h op=some (x,h',en))
  (rest:ba P N its (aY t dst x) h' K):ba P N (⟨dst,g,op⟩::its) t h K:=
 ba.step (fun ops i o ho hit=>ij ho hit hg hx) rest
theorem ba.opT {dst:Option Nat} {g:Option (Nat × Bool)} {op:AOp} {its:List aE} {t:Tm} {h h':H} {en:Ent} {K:Tm→H→Prop} {x:AV} (hg:guardOf t g=some true) (hx:dr (ev t) h op=some (x,h',en))
  (rest:ba P N its (aY t dst x) h' K):ba P N (⟨dst,g,op⟩::its) t h K:=
 ba.step (fun ops i o ho hit=>iO ho hit hg hx) rest
theorem ba.kC {dst:Option Nat} {g:Option (Nat × Bool)} {f:FuncId} {l:List Opd} {its:List aE} {t:Tm} {h h' h1 h1':H} {en:Ent} {K:Tm→H→Prop} {vals:List AV} {r:AV} (hg:guardOf t g=some true) (hs:al (l.map (ev t)) vals) (hc:aM P f vals h1 r h1')
  (tc:Touch h h1 h1' h' en) (rest:ba P N its (aY t dst r) h' K):ba P N (⟨dst,g,.call f l⟩::its) t h K:=
 ba.step (fun ops i o ho hit=>⟨h1,h1',tc,dV ho hit hg rfl hs hc⟩) rest
theorem ba.aN {dst:Option Nat} {g:Option (Nat × Bool)} {f:FuncId} {l:List Opd} {its:List aE} {t:Tm} {h:H} {K:Tm→H→Prop} {vals:List AV} {r:AV} (hg:guardOf t g=some true) (hs:al (l.map (ev t)) vals) (hc:aB P f vals r)
  (rest:ba P N its (aY t dst r) h K):ba P N (⟨dst,g,.call f l⟩::its) t h K:=
 ba.kC hg hs (hc h.n h.m) (bF h) rest
end
end Go.Av
end
section
namespace Go.Av
variable {P:Program} {N:Nat} {s:St} {Q:aC→St→Prop}
theorem aI.tmN {t:Tm} {f f':Nat→Option Obj} {n n' m:Nat} {k:List Nat} {l:List (Nat × AV)} (hn:n≤n') (ho:OLe f f') (h:az t l):aI ⟨t,⟨f,n,k,m⟩⟩ ⟨Go.Av.tm l,⟨f',n',k,m⟩⟩:=
 aI.trans (aI.tm h) (aI.of (fun i=>aa.refl _) ho (fun x hx=>hx) hn (Nat.le_refl _))
theorem OLe.skip {f:Nat→Option Obj} {i:Nat} {o:Option Obj} (h:f i=Option.none):OLe (Go.Av.upd f i o) f:=by
 intro j p hp
 refine ⟨p,?_,cD.refl p⟩
 simp only[Go.Av.upd]
 split
 ·rename_i e;subst e;rw[h] at hp;cases hp
 ·exact hp
theorem OLe.at {g:Nat→Option Obj} {k:Nat} {A:Obj} (h:g k=some A):OLe g (Go.Av.upd af k (some A)):=by
 intro j p hp
 simp only[Go.Av.upd,af] at hp
 split at hp
 ·rename_i e;subst e;cases hp;exact ⟨_,h,cD.refl _⟩
 ·cases hp
theorem Wp.mi {β:Type} (L:List Nat) {K:List (Nat × AV)} {c:AC} {h:H} {t:Tm} (hK:(L.map fun i=>(i,t i))=K) (ch:β→List (Nat × AV)) (I:β→Prop) (μ:β→Nat) (b0:β) (h0:I b0) (hs:az t (ch b0))
  (round:∀b n,h.n≤n→I b→Wp P N c ⟨tm (K++ch b),{h with n:=n}⟩ (aC.andThen (fun s'=>∃b' n',h.n≤n'∧I b'∧μ b'<μ b∧aI s' ⟨tm (K++ch b'),{h with n:=n'}⟩) Q)):Wp P N (.loop c) ⟨t,h⟩ Q:=by
 refine Wp.dM (β:=β × Nat) L hK (fun j=>ch j.1) (fun j=>{h with n:=j.2}) (fun j=>h.n≤j.2∧I j.1) (fun j=>μ j.1) (b0,h.n) ⟨Nat.le_refl _,h0⟩ rfl hs ?_
 rintro ⟨b,n⟩ ⟨hn,hb⟩
 refine Wp.mono (round b n hn hb) ?_
 intro e s' h
 cases e with
 |normal=>obtain ⟨b',n',h1,h2,h3,h4⟩:=h;exact ⟨(b',n'),⟨h1,h2⟩,h3,h4⟩
 |exit id=>exact h
 |goto l=>exact h
 |ret=>exact h
 |panic v=>exact h
theorem Wp.eX {β:Type} (L:List Nat) {K:List (Nat × AV)} {c:AC} {h:H} {t:Tm} (hK:(L.map fun i=>(i,t i))=K) (ch:β→Nat→List (Nat × AV)) (I:β→Prop) (μ:β→Nat) (b0:β) (tk:Nat) (h0:I b0) (hh:h.toks=[tk]) (hs:az t (ch b0 tk))
  (round:∀b tk n m,h.n≤n→I b→Wp P N c ⟨tm (K++ch b tk),⟨h.objs,n,[tk],m⟩⟩ (aC.andThen (fun s'=>∃b' tk' n' m',h.n≤n'∧I b'∧μ b'<μ b∧aI s' ⟨tm (K++ch b' tk'),⟨h.objs,n',[tk'],m'⟩⟩) Q)):Wp P N (.loop c) ⟨t,h⟩ Q:=by
 refine Wp.dM (β:=β × Nat × Nat × Nat) L hK (fun j=>ch j.1 j.2.1) (fun j=>⟨h.objs,j.2.2.1,[j.2.1],j.2.2.2⟩) (fun j=>h.n≤j.2.2.1∧I j.1) (fun j=>μ j.1) (b0,tk,h.n,h.m) ⟨Nat.le_refl _,h0⟩ (by cases h;simp only at hh;subst hh;rfl) hs ?_
 rintro ⟨b,tk,n,m⟩ ⟨hn,hb⟩
 refine Wp.mono (round b tk n m hn hb) ?_
 intro e s' h
 cases e with
 |normal=>obtain ⟨b',tk',n',m',h1,h2,h3,h4⟩:=h;exact ⟨(b',tk',n',m'),⟨h1,h2⟩,h3,h4⟩
 |exit id=>exact h
 |goto l=>exact h
 |ret=>exact h
 |panic v=>exact h
end Go.Av
end
section
namespace Go.Av
section
variable {P:Program} {N:Nat} {Q:aC→St→Prop}
theorem Wp.frz {c:AC} {t:Tm} {h:H} (d:Nat→Bool) (l:List (Nat × AV)) (h':H) (hs:az (fun i=>unT h d (t i)) l) (ho:OLe (h.drop d).objs h'.objs) (hk:∀x∈h'.toks,x∈h.toks) (hn:h.n≤h'.n) (hm:h.m≤h'.m) (k:Wp P N c ⟨tm l,h'⟩ Q):Wp P N c ⟨t,h⟩ Q:=
 Wp.le (aI.trans (Bv t h d) (aI.trans (aI.tm hs) (aI.of (f:=(h.drop d).objs) (n:=h.n) (m:=h.m) (k:=h.toks) (fun i=>aa.refl _) ho hk hn hm))) k
theorem fA {G:aD} {f:Nat→Option Obj} {n m:Nat} (B:Nat):¬(H.only f [] n m).T G B:=fun ⟨t,ht,_⟩=>by simp[H.only] at ht
theorem aB.look {f:FuncId} {xs args:List AV} {r:AV} (hc:aB P f (.sl 1 xs .any::args) r) (hr:∀G G' w v,ak G w r v→ak G' w r v) (c:Option Nat) (id:Nat):Bq P f (.tsl 1 id 0 xs.length c::args) (upd af id (some (.cells xs))) r:=by
 intro n m G w vs hv R F
 have ho:(H.only (upd af id (some (.cells xs))) [] n m).objs id=some (.cells xs):=by simp[H.only,upd]
 have hv':aq (G.frz (H.only (upd af id (some (.cells xs))) [] n m) fun _=>true) w (.sl 1 xs .any::args) vs:=by
  simp only[aq] at hv ⊢
  obtain ⟨v,us,e,h1,h2⟩:=hv
  refine ⟨v,us,e,?_,aq.mono R (aO _) _ _ h2⟩
  have:=tx R (d:=fun _=>true) ho rfl (by omega) h1
  simpa using this
 refine (hc n m _ w vs hv' eB ⟨fun j h1 h2=>by simp only[H0,H.only] at h1 h2;omega,fun j h1 h2=>by simp only[H0,H.only] at h1 h2;omega⟩).mono ?_
 rintro e w' ⟨v,G',rfl,T,R',V⟩
 obtain ⟨q1,q2,q3,q4⟩:=R.obj id _ ho
 have hne:∀B,¬(H.only (upd af id (some (.cells xs))) [] n m).O G B→B≠G.ι id:=fun B h1 e=>h1 ⟨id,_,ho,e.symm⟩
 have hDO:∀B,¬(H.only (upd af id (some (.cells xs))) [] n m).O G B→¬(H.only (upd af id (some (.cells xs))) [] n m).DO G (fun _=>true) B:=fun B h1 h2=>h1 (zu h2)
 have hT:∀{G:aD} B,¬(H0 n m).T G B:=fun B ⟨t,ht,_⟩=>by simp[H0,H.only] at ht
 let G3:aD:={own:=fun B=>B=G.ι id∨G'.own B,lim:=fun B=>if B=G.ι id then G.lim B else G'.lim B,dom:=G.dom,ι:=G.ι,tdom:=G.tdom,τ:=G.τ}
 have T3:Trans G w (H.only (upd af id (some (.cells xs))) [] n m) G3 w' (H.only (upd af id (some (.cells xs))) [] n m):=by
  constructor
  ·exact fun _ x=>x
  ·exact fun _=> .inl
  ·exact fun _ _=>rfl
  ·exact fun _ x=>x
  ·exact fun _=> .inl
  ·exact fun _ _=>rfl
  ·exact Nat.le_refl _
  ·exact Nat.le_refl _
  ·exact T.size_le
  ·exact T.os
  ·exact T.output
  ·exact T.form
  ·exact fun B hB _ _=>T.keep B hB (cG B) (hT B)
  ·intro B hB h1
   have e1:=T.own_keep B hB (cG B)
   have e2:=hDO B h1
   have e3:=hne B h1
   simp only[G3,e3,false_or,e1,aD.frz,e2,not_false_eq_true,and_true]
  ·intro B hB h1 _
   have e1:=T.lim_keep B hB (cG B) (hT B)
   have e2:=hDO B h1
   have e3:=hne B h1
   simp only[G3,e3,if_false,e1,aD.frz,e2]
  ·exact fun B hB x=>absurd x (fA B)
  ·exact fun B _ x=>x
  ·exact fun B _ x=>absurd x (fA B)
  ·exact fun j o x=> .inl ⟨o,x⟩
  ·exact fun t x=>by simp[H.only] at x
 refine ⟨v,G3,rfl,T3,?_,hr G' G3 w' v V⟩
 refine ⟨fun j o hj=>?_,fun i j o o' a b e=>R.inj _ _ _ _ a b e,fun t ht=>by simp[H.only] at ht,fun t ht=>by simp[H.only] at ht⟩
 obtain ⟨p1,p2,p3,p4⟩:=R.obj j o hj
 have hj':j=id:=by
  simp only[H.only,upd,af] at hj
  split at hj
  ·assumption
  ·cases hj
 subst hj'
 refine ⟨p1,.inl rfl,Nat.lt_of_lt_of_le p3 T.size_le,?_⟩
 have hk:w'.heap[G.ι j]? =w.heap[G.ι j]? :=T.keep _ p3 (cG _) (hT _)
 show kS G3 w' o w'.heap[G.ι j]?
 rw[hk]
 cases o with
 |cells cs=>
  obtain ⟨vs,rest,T',fr,y1,y2,y3⟩:=p4
  exact ⟨vs,rest,T',fr,y1,aq.mono R T3 _ _ y2,y3⟩
 |map es=>
  obtain ⟨en,clock,y1,y2⟩:=p4
  exact ⟨en,clock,y1,Entries.mono R T3 _ _ y2⟩
 |loop N t ps asg body st pend=>
  obtain ⟨r,y1,y2,y3,y4⟩:=p4
  exact ⟨r,y1,y2,fun i=>ak.mono R T3 _ _ (y3 i),y4⟩
 |raw c=>exact p4
def H.bQ (h:H) (id:Nat) (o:Obj):H:={h with objs:=upd (fun j=>if j=id then none else h.objs j) h.n (some o),n:=h.n+1}
end
end Go.Av
end
section
namespace Go.Av
abbrev wW:=Nat→Option Obj
structure Fr where
 o:wW
 k:List Nat
def lay:List Fr→wW
 |[]=>af
 |F::l=>fun j=>(F.o j).or (lay l j)
def ks (l:List Fr):List Nat:=l.flatMap (·.k)
def ob (i:Nat) (o:Obj):Fr:=⟨upd af i (some o),[]⟩
def fr0:Fr:=⟨af,[]⟩
structure Ok (l:List Fr) (n:Nat) (T:List Nat) (m:Nat):Prop where
 bd:∀F∈l,∀j,n≤j→F.o j=none
 dj:l.Pairwise fun F F'=>∀j,F.o j=none∨F'.o j=none
 tk:∀t∈ks l,t∈T
 td:l.Pairwise fun F F'=>∀t∈F.k,t∉F'.k
 tb:∀t∈T,t<m
theorem wX (F:Fr) (l:List Fr) (j:Nat):lay (F::l) j=(F.o j).or (lay l j):=rfl
theorem zI (i:Nat) (o:Obj) (j:Nat):(ob i o).o j=if j=i then some o else none:=rfl
theorem rN (l m:List Fr) (j:Nat):lay (l++m) j=(lay l j).or (lay m j):=by
 induction l with
 |nil=>simp[lay,af]
 |cons F l ih=>simp[lay,ih,Option.or_assoc]
theorem jE {l:List Fr} {j:Nat}:lay l j=none↔∀F∈l,F.o j=none:=by
 induction l with
 |nil=>simp[lay,af]
 |cons F l ih=>simp[lay,Option.or_eq_none_iff,ih]
theorem Ok.Bw {l:List Fr} {n m:Nat} {T:List Nat} (h:Ok l n T m) {j:Nat} (hj:n≤j):lay l j=none:=jE.2 fun F hF=>h.bd F hF j hj
theorem Ok.nil {n m:Nat}:Ok [] n [] m:=⟨by simp,by simp,by simp[ks],by simp,by simp⟩
theorem Ok.grow {l:List Fr} {n m n' m':Nat} {T:List Nat} (h:Ok l n T m) (hn:n≤n') (hm:m≤m'):Ok l n' T m':=
 ⟨fun F hF j hj=>h.bd F hF j (by omega),h.dj,h.tk,h.td,fun t ht=>Nat.lt_of_lt_of_le (h.tb t ht) hm⟩
theorem Ok.put {F:Fr} {l:List Fr} {n m i:Nat} {T:List Nat} {o:Obj} (h:Ok (F::l) n T m) (hi:lay l i=none) (hn:i<n):Ok (⟨upd F.o i (some o),F.k⟩::l) n T m where
 bd F' hF j hj:=by
  rcases List.mem_cons.1 hF with rfl|hF
  ·simp only[upd]
   rw[if_neg (by omega)]
   exact h.bd F (by simp) j hj
  ·exact h.bd F' (by simp[hF]) j hj
 dj:=by
  refine List.pairwise_cons.2 ⟨fun F' hF j=>?_,(List.pairwise_cons.1 h.dj).2⟩
  simp only[upd]
  by_cases e:j=i
  ·subst e;exact .inr (jE.1 hi F' hF)
  ·rw[if_neg e];exact (List.pairwise_cons.1 h.dj).1 F' hF j
 tk t ht:=h.tk t (by simpa [ks] using ht)
 td:=List.pairwise_cons.2 ⟨(List.pairwise_cons.1 h.td).1,(List.pairwise_cons.1 h.td).2⟩
 tb:=h.tb
theorem Ok.start {l:List Fr} {n m:Nat} {T:List Nat} (h:Ok l n T m):Ok (fr0::l) n T m:=
 ⟨fun F hF j hj=>by rcases List.mem_cons.1 hF with rfl|hF;exact rfl;exact h.bd F hF j hj,List.pairwise_cons.2 ⟨fun F' _ j=> .inl rfl,h.dj⟩,fun t ht=>h.tk t (by simpa [ks,fr0] using ht),List.pairwise_cons.2 ⟨fun F' _ t ht=>by simp[fr0] at ht,h.td⟩,h.tb⟩
theorem Ok.old {F:Fr} {l:List Fr} {n m:Nat} {T:List Nat} (h:Ok (F::l) n T m) {i:Nat} (hi:(F.o i).isSome=true):lay l i=none:=
 jE.2 fun F' hF=>by
  rcases (List.pairwise_cons.1 h.dj).1 F' hF i with e|e
  ·rw[e] at hi;cases hi
  ·exact e
section
variable {P:Program} {N:Nat}
def oR (P:Program) (f:FuncId) (args:List AV) (l:List Fr) (Q:AV→List Fr→Prop):Prop:=
 ∀n m,Ok l n (ks l) m→∃r l' n' m',aM P f args ⟨lay l,n,ks l,m⟩ r ⟨lay l',n',ks l',m'⟩∧n≤n'∧m≤m'∧Ok l' n' (ks l') m'∧(∀j,n≤j∨(lay l j).isSome=true∨lay l' j=none)∧(∀t∈ks l',t∈ks l∨m≤t)∧Q r l'
theorem oR.mono {f:FuncId} {args:List AV} {l:List Fr} {Q Q':AV→List Fr→Prop} (h:oR P f args l Q) (hq:∀r l',Q r l'→Q' r l'):oR P f args l Q':=by
 intro n m ok
 obtain ⟨r,l',n',m',h1,h2,h3,h4,h5,h6,h7⟩:=h n m ok
 exact ⟨r,l',n',m',h1,h2,h3,h4,h5,h6,hq _ _ h7⟩
theorem aB.g {f:FuncId} {args:List AV} {r:AV} (h:aB P f args r):oR P f args [] (fun r' l'=>r'=r∧l'=[]):=fun n m _=>
 ⟨r,[],n,m,h n m,Nat.le_refl _,Nat.le_refl _,Ok.nil,fun j=> .inr (.inr rfl),by simp[ks],rfl,rfl⟩
theorem Wp.nm {c:AC} {s:St} {Q:aC→St→Prop} (h:Wp P N c s Q):Wp P N c s fun e s'=>Q e s'∧s.h.n≤s'.h.n∧s.h.m≤s'.h.m:=by
 intro code hc
 obtain ⟨e,s',r,q⟩:=h code hc
 exact ⟨e,s',r,q,r.1⟩
theorem aM.le {f:FuncId} {args:List AV} {h h' h'':H} {r r':AV} (hc:aM P f args h r h') (hs:aa r r') (hl:HLe h' h'') (n:h'.n=h''.n) (m:h'.m=h''.m):aM P f args h r' h'':=by
 intro G w vs hv R F
 refine (hc G w vs hv R (by unfold bD at F ⊢;rwa [n,m])).mono ?_
 rintro e w' ⟨v,G',rfl,T,R',V⟩
 exact ⟨v,G',rfl,T.trans R R' (Trans.le hl (by omega) (by omega)),R'.le hl,hs G' w' v V⟩
structure Ends (l:List Fr) (n m:Nat) (Q:AV→List Fr→Prop) (q:AV) (h:H) (r:AV) (l':List Fr):Prop where
 sub:aa q r
 ole:OLe h.objs (lay l')
 tk:∀t∈ks l',t∈h.toks
 ok:Ok l' h.n (Go.Av.ks l') h.m
 new:∀j,n≤j∨(lay l j).isSome=true∨lay l' j=none
 knew:∀t∈Go.Av.ks l',t∈Go.Av.ks l∨m≤t
 q:Q r l'
def fin (h:H) (ids toks:List Nat):Ent:=⟨[],ids,toks⟩
def Wi (l0:List Fr) (n0:Nat) (l:List Fr):Prop:=∀j,n0≤j∨(lay l0 j).isSome=true∨lay l j=none
def Ki (l0:List Fr) (m0:Nat) (l:List Fr):Prop:=∀t∈ks l,t∈ks l0∨m0≤t
theorem Wi.refl {l:List Fr} {n:Nat}:Wi l n l:=fun j=>by
 cases h:lay l j with
 |none=>exact .inr (.inr rfl)
 |some o=>exact .inr (.inl rfl)
theorem Ki.refl {l:List Fr} {m:Nat}:Ki l m l:=fun t h=> .inl h
theorem Wi.trans {l0 l l':List Fr} {n0 n:Nat} (a:Wi l0 n0 l) (hn:n0≤n) (b:Wi l n l'):Wi l0 n0 l':=fun j=>by
 rcases b j with h|h|h
 ·exact .inl (by omega)
 ·rcases a j with h'|h'|h'
  ·exact .inl h'
  ·exact .inr (.inl h')
  ·rw[h'] at h;cases h
 ·exact .inr (.inr h)
theorem Ki.trans {l0 l l':List Fr} {m0 m:Nat} (a:Ki l0 m0 l) (hm:m0≤m) (b:Ki l m l'):Ki l0 m0 l':=fun t ht=>by
 rcases b t ht with h|h
 ·exact a t h
 ·exact .inr (by omega)
end
end Go.Av
end
section
namespace Go.Av
section
variable {P:Program} {N:Nat} {s:St} {Q:aC→St→Prop}
def jZ (F:Fence) (n:Nat) (P:Program) (c:Code) (Q:Exit→Act→World→Prop) (a:Act) (w:World):Prop:=
 ∀(b:Frame) (k:List Item) (cs:List Frame),b.roundOf=F.round→F.fn b.fn→F.room (cs.length+1+n)→
  ∃e a' w',Q e a' w'∧ArrivesIn (Machine.fenced P F) P (lone (b.atR a (.code c:: .inLoop c::k)) cs w) b k cs e a' w'
theorem jZ.start {F:Fence} {n:Nat} {c:Code} {Q:Exit→Act→World→Prop} {a:Act} {w:World} (h:jZ F n P c Q a w):(Code.loop c).wpIn F n P Q a w:=by
 intro b k cs hro hb hr
 obtain ⟨e,a₁,w₁,hq,harr⟩:=h b k cs hro hb hr
 exact ⟨e,a₁,w₁,hq,.of_steps (.one (fenced_calm hb hr rfl) stepR_loop) harr⟩
theorem jZ.step {F:Fence} {n:Nat} {c:Code} {Q:Exit→Act→World→Prop} {a:Act} {w:World} (h:c.wpIn F n P (Exit.then (jZ F n P c Q) Q) a w):jZ F n P c Q a w:=by
 intro b k cs hro hb hr
 obtain ⟨e,a₁,w₁,hq,harr⟩:=h b (.inLoop c::k) cs hro hb hr
 cases e with
 |normal=>
  obtain ⟨e₂,a₂,w₂,hq₂,harr₂⟩:=hq b k cs hro hb hr
  exact ⟨e₂,a₂,w₂,hq₂,.of_steps (StepsIn.trans harr (.one (fenced_calm hb hr rfl) stepR_inLoop)) harr₂⟩
 |exit id=>exact ⟨_,a₁,w₁,hq,.pass (x:= .inLoop c) rfl (fun _ _=> .inl (by simp)) harr⟩
 |goto l=>exact ⟨_,a₁,w₁,hq,.pass (x:= .inLoop c) rfl (fun _ _=> .inl (by simp)) harr⟩
 |ret=>exact ⟨_,a₁,w₁,hq,.pass (x:= .inLoop c) rfl (fun _ _=> .inl (by simp)) harr⟩
 |panic ch=>exact ⟨_,a₁,w₁,hq,.pass (x:= .inLoop c) rfl (fun _ _=> .inl (by simp)) harr⟩
 |outgrown=>exact ⟨_,a₁,w₁,hq,.pass (x:= .inLoop c) rfl (fun _ _=> .inl (by simp)) harr⟩
def Ec (P:Program) (N:Nat) (c:Code) (s:St) (e:aC) (s':St):Prop:=
 (s.h.n≤s'.h.n∧s.h.m≤s'.h.m)∧∀ro,okR c ro→∀G w a,Rel N s G w a→bD G s.h s'.h→jZ (rd ro) 0 P c (fun e' a' w'=>e.cU e'∧jB w a.defers a'.defers∧∃G',Trans G w s.h G' w' s'.h∧Rel N s' G' w' a') a w
def WpL (P:Program) (N:Nat) (c:AC) (s:St) (Q:aC→St→Prop):Prop:=
 ∀code,cCode P N code=some c→∃e s',Ec P N code s e s'∧Q e s'
theorem Wp.AT {c:AC} (h:WpL P N c s Q):Wp P N (.loop c) s Q:=by
 intro code hc
 obtain ⟨x,rfl,hx⟩:=nA hc
 obtain ⟨e,s',r,q⟩:=h x hx
 exact ⟨e,s',⟨r.1,fun ro okc G w a rel F=>(r.2 ro okc.loop G w a rel F).start⟩,q⟩
theorem WpL.next {c:AC} (h:Wp P N c s (aC.andThen (fun s'=>WpL P N c s' Q) Q)):WpL P N c s Q:=by
 intro x hx
 obtain ⟨e,s1,r1,q1⟩:=h x hx
 cases e with
 |normal=>
  obtain ⟨e2,s2,r2,q2⟩:=q1 x hx
  obtain ⟨⟨l1,l2⟩,r1⟩:=r1
  obtain ⟨⟨l3,l4⟩,r2⟩:=r2
  refine ⟨e2,s2,⟨⟨by omega,by omega⟩,fun ro okc G w ac r F=> .step (wpIn_mono (r1 ro okc G w ac r (F.sub (Nat.le_refl _) l3 (Nat.le_refl _) l4)) ?_)⟩,q2⟩
  rintro e' a' w' ⟨h1,h2,G',T1,r'⟩
  cases e'<;>simp only[aC.cU] at h1
  intro b k cs hro hb hr
  obtain ⟨e'',a'',w'',⟨k1,k2,G'',T2,r''⟩,harr⟩:=r2 ro okc G' w' a' r' (F.step T1) b k cs hro hb hr
  exact ⟨e'',a'',w'',⟨k1,h2.trans T1.size_le k2,G'',T1.trans r.h r'.h T2,r''⟩,harr⟩
 |exit id=>
  refine ⟨.exit id,s1,⟨r1.1,fun ro okc G w ac r F=> .step (wpIn_mono (r1.2 ro okc G w ac r F) ?_)⟩,q1⟩
  rintro e' a' w' ⟨h1,h2⟩
  cases e'<;>simp only[aC.cU] at h1
  exact ⟨h1,h2⟩
 |goto l=>
  refine ⟨.goto l,s1,⟨r1.1,fun ro okc G w ac r F=> .step (wpIn_mono (r1.2 ro okc G w ac r F) ?_)⟩,q1⟩
  rintro e' a' w' ⟨h1,h2⟩
  cases e'<;>simp only[aC.cU] at h1
  exact ⟨h1,h2⟩
 |ret=>
  refine ⟨.ret,s1,⟨r1.1,fun ro okc G w ac r F=> .step (wpIn_mono (r1.2 ro okc G w ac r F) ?_)⟩,q1⟩
  rintro e' a' w' ⟨h1,h2⟩
  cases e'<;>simp only[aC.cU] at h1
  exact ⟨trivial,h2⟩
 |panic v=>
  refine ⟨.panic v,s1,⟨r1.1,fun ro okc G w ac r F=> .step (wpIn_mono (r1.2 ro okc G w ac r F) ?_)⟩,q1⟩
  rintro e' a' w' ⟨h1,h2⟩
  cases e'<;>simp only[aC.cU] at h1
  exact ⟨h1,h2⟩
def gP:List aE→Tm→H→List Ent→Option (List aE × Tm × H × List Ent)
 |[],t,h,l=>some ([],t,h,l)
 |it::its,t,h,l=>match guardOf t it.guard with
  |some true=>(match aop (ev t) h it.op with
   |some (x,h',en)=>gP its (aY t it.dst x) h' (en::l)
   |none=>some (it::its,t,h,l))
  |some false=>gP its (aY t it.dst (.sc undef)) h (aF::l)
  |none=>some (it::its,t,h,l)
theorem fZ:∀{items:List aE} {t:Tm} {h:H} {l:List Ent} {r:List aE × Tm × H × List Ent},gP items t h l=some r→bM items t h l=r
 |[],t,h,l,r,he=>by simpa [gP,bM] using he
 |it::its,t,h,l,r,he=>by
  simp only[gP] at he
  simp only[bM]
  cases hg:guardOf t it.guard with
  |none=>rw[hg] at he;simpa using he
  |some g=>
   rw[hg] at he
   cases g with
   |false=>exact fZ he
   |true=>
    simp only at he ⊢
    cases hx:aop (ev t) h it.op with
    |none=>rw[hx] at he;simpa using he
    |some p=>
     obtain ⟨x,h',en⟩:=p
     rw[hx] at he
     exact fZ he
theorem ae.evR {items its:List aE} {t t':Tm} {h h':H} {log log':List Ent} {K:Tm→H→List Ent→Prop} (he:gP items t h log=some (its,t',h',log')) (hw:ae P N its t' h' log' K):ae P N items t h log K:=ae.eval (fZ he) hw
theorem Wp.bb {items its:List aE} {p:Option (List (Nat × Nat))} {y:AC} {t':Tm} {h':H} {log:List Ent} (he:gP items s.t s.h []=some (its,t',h',log)) (h:ae P N its t' h' log fun t h l=>aR p l∧Wp P N y ⟨t,h⟩ Q):Wp P N (.seq (.reg items p) y) s Q:=Wp.seqItems (fZ he) h
theorem Wp.cr {items its:List aE} {p:Option (List (Nat × Nat))} {t':Tm} {h':H} {log:List Ent} (he:gP items s.t s.h []=some (its,t',h',log)) (h:ae P N its t' h' log fun t h l=>aR p l∧Q .normal ⟨t,h⟩):Wp P N (.reg items p) s Q:=Wp.items (fZ he) h
def AU:List aE→Tm→H→List Ent→List aE × Tm × H × List Ent
 |[],t,h,l=>([],t,h,l)
 |it::its,t,h,l=>match it.guard with
  |some _=>(it::its,t,h,l)
  |none=>(match aop (ev t) h it.op with
   |some (x,h',en)=>AU its (aY t it.dst x) h' (en::l)
   |none=>(it::its,t,h,l))
end
attribute [go_sem] AU gP
def gQ:List AV→List AV→Prop
 |[],[]=>True
 |x::xs,y::ys=>aa x y∧gQ xs ys
 |_,_=>False
theorem gQ.refl:∀l,gQ l l
 |[]=>trivial
 |x::l=>⟨aa.refl x,gQ.refl l⟩
theorem gQ.len:∀{xs ys:List AV},gQ xs ys→xs.length=ys.length
 |[],[],_=>rfl
 |_::_,_::_,h=>by simp[gQ.len h.2]
 |[],_::_,h=>h.elim
 |_::_,[],h=>h.elim
theorem gQ.els {G:aD} {w:World} {sz:Nat}:∀{xs ys:List AV} {vs:List Value},gQ xs ys→av G w sz xs vs→av G w sz ys vs
 |[],[],_,_,h=>h
 |x::xs,y::ys,vs,h,hv=>by
  simp only[av] at hv ⊢
  obtain ⟨v,us,e,h1,h2,h3⟩:=hv
  exact ⟨v,us,e,h1,h.1 G w v h2,gQ.els h.2 h3⟩
 |[],_::_,_,h,_=>h.elim
 |_::_,[],_,h,_=>h.elim
theorem aa.sl {sz:Nat} {xs ys:List AV} {c:Cap} (h:gQ xs ys):aa (.sl sz xs c) (.sl sz ys .any):=by
 intro G w v hv
 have hl:=h.len
 simp only[ak] at hv ⊢
 rcases hv with ⟨rfl,a,_⟩|⟨B,off,C,vs,h1,h2,h3,h4,h5,h6⟩
 ·cases ys with
  |nil=>exact .inl ⟨rfl,a,by simp[fF]⟩
  |cons y ys=>simp at hl
 ·exact .inr ⟨B,off,C,vs,by rw[←hl];exact h1,by rw[←hl];exact h2,by rw[←hl];exact h3,h.els h4,h5,by simp[bH]⟩
theorem aa.slc {sz:Nat} {xs ys:List AV} {c:Cap} (h:gQ xs ys):aa (.sl sz xs c) (.sl sz ys c):=by
 intro G w v hv
 have hl:=h.len
 simp only[ak] at hv ⊢
 rcases hv with ⟨rfl,a,b⟩|⟨B,off,C,vs,h1,h2,h3,h4,h5,h6⟩
 ·cases ys with
  |nil=>exact .inl ⟨rfl,a,b⟩
  |cons y ys=>simp at hl
 ·exact .inr ⟨B,off,C,vs,by rw[←hl];exact h1,by rw[←hl];exact h2,by rw[←hl];exact h3,h.els h4,h5,by rw[←hl];exact h6⟩
theorem eu {α:Type} {l:List α} {i:Nat} {d:α} (h:i<l.length):l.getD i d=l[i]:=by
 rw[List.getD_eq_getElem?_getD,List.getElem?_eq_getElem h];rfl
theorem eS {α:Type} {l:List α} {j:Nat} (d:α) (h:j<l.length):l.take (j+1)=l.take j++[l.getD j d]:=by
 rw[List.take_succ_eq_append_getElem h,eu h]
theorem wY {α:Type} [Inhabited α] (f:α→AV) (l:List α) (k:Nat) (d:AV) (h:k<l.length):(l.map f).getD k d=f (l.getD k default):=by
 simp[List.getD,List.getElem?_map,List.getElem?_eq_getElem h]
end Go.Av
end
section
namespace Go.Av
section
variable {P:Program} {N:Nat}
def eY (P:Program) (id:Nat) (args:List AV) (h:H) (r:AV) (h':H):Prop:=
 ∀G w vs,G.dom id→aq G w args vs→aK G h w→bD G h h'→YieldAt Fence.wide 0 P (G.ι id) vs.toArray w fun e w'=>∃v G',e= .returned v∧Trans G w h G' w' h'∧aK G' h' w'∧ak G' w' r v
theorem rP {ro:Option Nat} {n l:Nat} {f:FuncId} {tmps:Array Value} {assign body:Code} {w:World} {R:Ending→World→Prop} (h:RoundIn Fence.wide n P l f tmps assign body w R):RoundIn (rd ro) n P l f tmps assign body w R:=h
theorem kG {ops:Array Oper} {i:Nat} {o:Oper} {it:aE} {t:Tm} {id:Nat} {y:Opd} {l:List Opd} {vals:List AV} {h1 h1':H} {r:AV} (ho:ops[i]? =some o) (hit:bA P N ops o=some it) (hg:guardOf t it.guard=some true) (hop:it.op= .callv y l)
  (hy:ev t y= .yld id) (hs:al (l.map (ev t)) vals) (hc:eY P id vals h1 r h1'):dK P ops i o t h1 r h1':=by
 unfold bA at hit
 split at hit
 ·rename_i op g hcop hgd
  split at hit<;>cases hit
  rename_i hcond
  simp only[Bool.and_eq_true] at hcond
  simp only at hop
  subst hop
  have hcop:=fv hcop (by simp) rfl
  obtain ⟨c,z,e1,e2,e3,e4⟩:=nB hcop
  intro G w a ht R F K Q hK ro
  unfold wpOpIn
  rw[ho]
  simp only[bG hgd ht hg,if_true]
  have rr:=eV (P:=P) (er ht) e4
  have rz:=ar (P:=P) e3 (er ht)
  have hcut:=hX (t:=t) hcond.2
  have el:l.map (ev (fY (names ops o) t))=l.map (ev t):=List.map_congr_left fun x hx=>hcut x (by simp[aX,hx])
  rw[el] at rr
  rw[hcut y (by simp[aX]),hy] at rz
  simp only[ak] at rz
  obtain ⟨rdom,rz⟩:=rz
  refine ⟨fun _ _=>trivial,?_⟩
  obtain ⟨fn,tmps,asg,body,q1,q2⟩:=hc G w _ rdom (hs G w _ rr) R F
  have hargs:(c.args.map a.eval)=(c.args.toList.map a.eval).toArray:=by cases c.args;simp
  have hrun:(execOp a.eval o).run P w= .ok (.round (G.ι id) fn tmps asg body) w:=by
   simp[execOp,e1,resolve,e2,rz,Deferred.ofValue,invoke,hargs]
   exact q1
  rw[Oper.semAt_eq _ _ _ (dB hcop),hrun,Oper.uponIn_round]
  refine ⟨fun h=>by simp[rd,Fence.wide] at h,rP (q2.mono ?_)⟩
  rintro e w' ⟨v,G',rfl,T,R',V⟩
  exact hK G' w' v T R' V
 ·cases hit
def iv (t:Tm):List Nat→List AV→Tm
 |p::ps,x::xs=>iv (upd t p x) ps xs
 |_,_=>t
theorem nF {G:aD} {w:World}:∀{ps:List Nat} {xs:List AV} {vs:List Value} {t:Tm} {tmps:Array Value},aq G w xs vs→(∀p∈ps,p<tmps.size)→(∀i,ak G w (t i) (tmps.getD i undef))→
  (∀i,ak G w (iv t ps xs i) (((ps.zip vs).foldl (fun tm (p:Nat × Value)=>tm.setIfInBounds p.1 p.2) tmps).getD i undef))∧((ps.zip vs).foldl (fun tm (p:Nat × Value)=>tm.setIfInBounds p.1 p.2) tmps).size=tmps.size
 |[],xs,vs,t,tmps,_,_,h=>by simpa [iv] using h
 |p::ps,[],vs,t,tmps,hv,_,h=>by
  simp only[aq] at hv;subst hv
  simpa [iv] using h
 |p::ps,x::xs,vs,t,tmps,hv,hp,h=>by
  simp only[aq] at hv
  obtain ⟨v,us,rfl,h1,h2⟩:=hv
  have hk:=hp p (by simp)
  have:=nF (ps:=ps) (t:=upd t p x) (tmps:=tmps.setIfInBounds p v) h2 (fun q hq=>by simpa using hp q (by simp[hq])) (fun i=>by
   simp only[upd]
   by_cases e:i=p
   ·subst e;simp[Array.getElem?_setIfInBounds,hk];exact h1
   ·have e2:(tmps.setIfInBounds p v).getD i undef=tmps.getD i undef:=by simp[Array.getElem?_setIfInBounds,Ne.symm e]
    rw[if_neg e,e2];exact h i)
  simp only[iv,List.zip_cons_cons,List.foldl_cons]
  exact ⟨this.1,by rw[this.2];simp⟩
inductive eZ:aC→Bool→LoopState→Option Code→Prop where
 |normal:eZ .normal true .ready none
 |ret:eZ .ret false .done (some .ret)
 |exit (i:Nat):eZ (.exit i) false .done (some (.exit i))
 |goto (l:Nat):eZ (.goto l) false .done (some (.goto l))
theorem nG {G:aD} {w:World} {f:wW} {n m id M:Nat} {T:List Nat} {t:Nat→AV} {ps:List Nat} {asg body:Code} {st:LoopState} {pend:Option Code} (R:aK G ⟨f,n,T,m⟩ w) (ho:f id=some (.loop M t ps asg body st pend)) {r:Loop}
  (hr:w.heap[G.ι id]? =some (.loop r)) (st':LoopState) (pend':Option Code):
  Trans G w ⟨f,n,T,m⟩ G (w.putObj (G.ι id) (.loop {r with state:=st',pending:=pend'})) ⟨upd f id (some (.loop M t ps asg body st' pend')),n,T,m⟩∧
  aK G ⟨upd f id (some (.loop M t ps asg body st' pend')),n,T,m⟩ (w.putObj (G.ι id) (.loop {r with state:=st',pending:=pend'})):=by
 obtain ⟨d1,d2,d3,r0,e0,d4⟩:=R.obj id _ ho
 have hrr:r0=r:=by
  have:=hr
  rw[e0] at this
  cases this;rfl
 subst hrr
 have tu:cF (G.ι id) w (w.putObj (G.ι id) (.loop {r0 with state:=st',pending:=pend'})):=
  ⟨by simp,fun B hB=>World.putObj_heap_other hB,fun c T fr e=>absurd (hr.symm.trans e) (by simp),rfl,rfl⟩
 have hO:∀B,H.O ⟨f,n,T,m⟩ G B↔H.O ⟨upd f id (some (.loop M t ps asg body st' pend')),n,T,m⟩ G B:=by
  intro B
  constructor
  ·rintro ⟨j,o,h1,h2⟩
   by_cases e:j=id
   ·exact ⟨id,.loop M t ps asg body st' pend',by simp[upd],by rw[←h2,e]⟩
   ·exact ⟨j,o,by simpa [upd,e] using h1,h2⟩
  ·rintro ⟨j,o,h1,h2⟩
   by_cases e:j=id
   ·exact ⟨id,_,ho,by rw[←h2,e]⟩
   ·exact ⟨j,o,by simpa [upd,e] using h1,h2⟩
 have hne:∀B,¬H.O ⟨f,n,T,m⟩ G B→B≠G.ι id:=fun B h e=>h ⟨id,_,ho,e.symm⟩
 have Tr:Trans G w ⟨f,n,T,m⟩ G (w.putObj (G.ι id) (.loop {r0 with state:=st',pending:=pend'})) ⟨upd f id (some (.loop M t ps asg body st' pend')),n,T,m⟩:=by
  constructor
  ·exact fun _ x=>x
  ·exact fun _=> .inl
  ·exact fun _ _=>rfl
  ·exact fun _ x=>x
  ·exact fun _=> .inl
  ·exact fun _ _=>rfl
  ·exact Nat.le_refl _
  ·exact Nat.le_refl _
  ·rw[tu.size];exact Nat.le_refl _
  ·exact tu.os
  ·exact tu.out
  ·intro B hB
   by_cases e:B=G.ι id
   ·subst e
    rw[hr,World.putObj_heap_same d3]
    exact ⟨_,rfl⟩
   ·rw[tu.same B e];exact aU.refl _
  ·exact fun B hB h1 _=>tu.same B (hne B h1)
  ·exact fun _ _ _=>Iff.rfl
  ·exact fun _ _ _ _=>rfl
  ·intro B hB h1 h2 e he
   refine ⟨fun j hj=>?_,fun e' he'=>by rw[he] at he';cases he';exact Nat.le_refl _⟩
   have:=tu.same B (hne B h2)
   unfold World.cell?
   simp only[this]
  ·exact fun B _ h=>(hO B).2 h
  ·exact fun B _ h=>h
  ·intro j o h
   by_cases e:j=id
   ·exact .inl ⟨_,by rw[e];exact ho⟩
   ·exact .inl ⟨o,by simpa [upd,e] using h⟩
  ·exact fun _=> .inl
 refine ⟨Tr,⟨fun j o hj=>?_,fun i j o o' h1 h2=>?_,fun t ht=>⟨(R.tok t ht).1,fun B e he=>by rw[tu.size];exact (R.tok t ht).2 B e he⟩,R.tinj⟩⟩
 ·by_cases e:j=id
  ·subst e
   have:o= .loop M t ps asg body st' pend':=by simpa [upd] using hj.symm
   subst this
   refine ⟨d1,d2,by rw[tu.size];exact d3,_,World.putObj_heap_same d3,d4.1,fun i=>ak.bQ tu _ _ (d4.2.1 i),d4.2.2.1,d4.2.2.2.1,d4.2.2.2.2.1,rfl,rfl⟩
  ·have hj':f j=some o:=by simpa [upd,e] using hj
   obtain ⟨a1,a2,a3,a4⟩:=R.obj j o hj'
   refine ⟨a1,a2,by rw[tu.size];exact a3,?_⟩
   have hb:G.ι j≠G.ι id:=fun e'=>e (R.inj j id o _ hj' ho e')
   rw[tu.same _ hb]
   exact a4.bQ tu
 ·have get:∀k p,upd f id (some (.loop M t ps asg body st' pend')) k=some p→∃p',f k=some p':=by
   intro k p hk
   by_cases e:k=id
   ·exact ⟨_,by rw[e];exact ho⟩
   ·exact ⟨p,by simpa [upd,e] using hk⟩
  obtain ⟨p,hp⟩:=get i o h1
  obtain ⟨p',hp'⟩:=get j o' h2
  exact R.inj i j p p' hp hp'
theorem nH {id M n m:Nat} {f:wW} {T:List Nat} {t:Tm} {ps:List Nat} {asg body:Code} {x y:AC} {args:List AV} {Q:AV→H→Prop} (ho:f id=some (.loop M t ps asg body .ready none)) (ha:cCode P M asg=some x) (hb:cCode P M body=some y) (hna:dG asg=true) (hnb:dG body=true)
  (hl:args.length=ps.length) (hps:∀p∈ps,p<M)
  (hw:Wp P M x ⟨iv t ps args,⟨f,n,T,m⟩⟩ fun e s=>e= .normal∧∃t1,s.h.objs id=some (.loop M t1 ps asg body .ready none)∧
   Wp P M y ⟨s.t,{s.h with objs:=upd s.h.objs id (some (.loop M t1 ps asg body .busy none))}⟩ fun e2 s2=>∃t2 b st pend,s2.h.objs id=some (.loop M t2 ps asg body .busy none)∧eZ e2 b st pend∧
    Q (.bool b) {s2.h with objs:=upd s2.h.objs id (some (.loop M t2 ps asg body st pend))}):
  ∃r h',eY P id args ⟨f,n,T,m⟩ r h'∧Q r h':=by
 obtain ⟨e,s,run,rfl,t1,ho1,hw2⟩:=hw asg ha
 obtain ⟨e2,s2,run2,t2,b,st,pend,ho2,hre,hq⟩:=hw2 body hb
 refine ⟨_,_,?_,hq⟩
 have nm1:=run.1
 have nm2:=run2.1
 simp only at nm1 nm2
 intro G w vs hdom hv R F
 obtain ⟨d1,d2,d3,r,e0,d4,d5,d6,d7,d8,d9,d10⟩:=R.obj id _ ho
 have hsz:vs.toArray.size=r.params.size:=by
  have h1:=hv.length
  have h2:r.params.toList.length=ps.length:=by rw[d6]
  simp at h2 ⊢
  omega
 refine ⟨r.fn,_,r.assign,r.body,run_yield e0 hsz,?_⟩
 refine roundIn_of_wpIn (F:=Fence.wide) trivial ?_
 have hzip:(r.params.zip vs.toArray).foldl (fun tmps (p:Tmp × Value)=>tmps.setIfInBounds p.1 p.2) r.tmps=(ps.zip vs).foldl (fun tm (p:Nat × Value)=>tm.setIfInBounds p.1 p.2) r.tmps:=by
  rw[←Array.foldl_toList,Array.toList_zip,d6]
 have hput:=nF (ps:=ps) (t:=t) (tmps:=r.tmps) hv (fun p hp=>by rw[d4];exact hps p hp) d5
 have F1:bD G ⟨f,n,T,m⟩ s.h:=F.sub (Nat.le_refl _) nm2.1 (Nat.le_refl _) nm2.2
 have rel0:Rel M ⟨iv t ps args,⟨f,n,T,m⟩⟩ G w {tmps:=(r.params.zip vs.toArray).foldl (fun tmps (p:Tmp × Value)=>tmps.setIfInBounds p.1 p.2) r.tmps,defers:=[]}:=by
  rw[hzip]
  exact ⟨hput.2.trans d4,hput.1,R,by simp,by simp⟩
 have w1:=run.2 (some (G.ι id)) (.inr hna) G w _ rel0 F1
 rw[d7,d8]
 refine wpIn_mono w1 ?_
 rintro e' a1 w1' ⟨h1,-,G1,T1,r1⟩
 cases e'<;>simp only[aC.cU] at h1
 have hι:G1.ι id=G.ι id:=T1.ι_eq id d1
 obtain ⟨k1,k2,k3,r',k4,k5,k6,k7,k8,k9,k10,k11⟩:=r1.h.obj id _ ho1
 rw[hι] at k3 k4
 have hbr:=run_beginRound (P:=P) k4 k10
 refine ⟨_,hbr,?_⟩
 have k4':w1'.heap[G1.ι id]? =some (.loop r'):=by rw[hι];exact k4
 obtain ⟨T2,R2⟩:=nG (n:=s.h.n) (m:=s.h.m) (T:=s.h.toks) (f:=s.h.objs) r1.h ho1 k4' .busy none
 rw[hι] at T2 R2
 have hrec:{r' with state:=LoopState.busy,pending:=(none:Option Code)}= {r' with state:= .busy}:=by rw[←k11]
 rw[hrec] at T2 R2
 have rel1:Rel M ⟨s.t,{s.h with objs:=upd s.h.objs id (some (.loop M t1 ps asg body .busy none))}⟩ G1 (w1'.putObj (G.ι id) (.loop {r' with state:= .busy})) a1:=
  ⟨r1.size,fun i=>ak.mono r1.h T2 _ _ (r1.t i),R2,r1.df.mono T2⟩
 have F2:bD G1 {s.h with objs:=upd s.h.objs id (some (.loop M t1 ps asg body .busy none))} s2.h:=by
  have:=(F.step (h':={s2.h with objs:=upd s2.h.objs id (some (.loop M t2 ps asg body st pend))}) T1)
  exact this
 refine wpIn_mono (run2.2 (some (G.ι id)) (.inr hnb) G1 _ a1 rel1 F2) ?_
 rintro e' a2 w2 ⟨q1,-,G2,T3,r2⟩
 have hι2:G2.ι id=G.ι id:=(T3.ι_eq id k1).trans hι
 obtain ⟨j1,j2,j3,r'',j4,j5,j6,j7,j8,j9,j10,j11⟩:=r2.h.obj id _ ho2
 have j4':w2.heap[G.ι id]? =some (.loop r''):=by rw[←hι2];exact j4
 obtain ⟨T4,R4⟩:=nG (n:=s2.h.n) (m:=s2.h.m) (T:=s2.h.toks) (f:=s2.h.objs) r2.h ho2 j4 st pend
 rw[hι2] at T4 R4
 have Tall:=((T1.trans R r1.h T2).trans R R2 T3).trans R r2.h T4
 cases hre
 all_goals
  cases e'<;>simp only[aC.cU] at q1
  try subst q1
  have hend:=fun j=>run_endRound (P:=P) j j4'
  refine ⟨_,_,hend _,_,G2,rfl,Tall,R4,?_⟩
  simp only[ak,Option.isNone_none,Option.isNone_some]
theorem uZ {code:Code} {g:Opd} {ps:List Nat} {x y:AC} (h:cCode P N code=some (.jY g ps x y)):∃z qs a b,code= .rangeFunc z qs a b∧opd P 0 z=some g∧qs.toList=ps∧cCode P N a=some x∧cCode P N b=some y∧dG a=true∧dG b=true:=by
 cases code with
 |rangeFunc z qs a b=>
  simp only[cCode] at h
  split at h
  ·rename_i g' x' y' h1 h2 h3
   split at h
   ·rename_i hcc
    cases h
    have hcc':dG a=true∧dG b=true:=by simpa using hcc
    exact ⟨_,_,_,_,rfl,h1,rfl,h2,h3,hcc'.1,hcc'.2⟩
   ·cases h
  ·cases h
 |_=>
  simp only[cCode] at h
  first|(simp at h;done)|(cases h;done)|((repeat' split at h)<;>cases h;done)
inductive gE:Option Code→aC→Prop where
 |none:gE none .normal
 |ret:gE (some .ret) .ret
 |exit (i:Nat):gE (some (.exit i)) (.exit i)
 |goto (l:Nat):gE (some (.goto l)) (.goto l)
theorem Wp.jY {g:Opd} {ps:List Nat} {x y:AC} {t:Tm} {f:wW} {n m:Nat} {T:List Nat} {Q:aC→St→Prop} {fi:FuncId} {fn:Func} {first caps:List AV} (hg:ev t g= .clo (.func fi) first caps) (hf:P.funcs[fi]? =some fn) (hfb:fn.body.isSome=true) (hfn:fn.name≠ "runtime.NumGoroutine")
  (hfresh:f n=none)
  (hw:∀asg body,cCode P N asg=some x→cCode P N body=some y→dG asg=true→dG body=true→∃r f2 n2 T2 m2 t2 st pend e,
   aM P fi (first++[.yld n]++caps) ⟨upd f n (some (.loop N t ps asg body .ready none)),n+1,T,m⟩ r ⟨f2,n2,T2,m2⟩∧n+1≤n2∧m≤m2∧f2 n=some (.loop N t2 ps asg body st pend)∧st≠ .busy∧gE pend e∧
   Q e ⟨t,⟨fun j=>if j=n then none else f2 j,n2,T2,m2⟩⟩):Wp P N (.jY g ps x y) ⟨t,⟨f,n,T,m⟩⟩ Q:=by
 intro code hc
 obtain ⟨z,qs,asg,body,rfl,c1,c2,c3,c4,c5,c6⟩:=uZ hc
 obtain ⟨r,f2,n2,T2,m2,t2,st,pend,e,cZ,hn2,hm2,ho2,hst,hle,hq⟩:=hw asg body c3 c4 c5 c6
 refine ⟨e,_,⟨⟨by simp only;omega,by simp only;omega⟩,fun ro okc G w a rel F=>?_⟩,hq⟩
 obtain rfl:ro=none:=by
  rcases okc with h|h
  ·exact h
  ·simp[dG] at h
 have hz:ak G w (.clo (.func fi) first caps) (a.eval z):=by rw[←hg];exact ar c1 rel.t
 simp only[ak] at hz
 obtain ⟨vs,us,hz,hv1,hv2⟩:=hz
 refine wpIn_rangeFunc (F:=rd none) (n:=0) fun fid _=>?_
 let D:=w.heap.size
 let cJ:Loop:={state:= .ready,pending:=none,fn:=fid,tmps:=a.tmps,params:=qs,assign:=asg,body:=body,defers:=w.heap.size}
 let w1:=(w.alloc (.deferred (some []))).alloc (.loop cJ)
 have hD1:w1.heap[D]? =some (.deferred (some [])):=by
  show ((w.heap.push (.deferred (some []))).push (.loop cJ))[w.heap.size]? =_
  rw[Array.getElem?_push,if_neg (by simp),Array.getElem?_push,if_pos rfl]
 have hL1:w1.heap[D+1]? =some (.loop cJ):=by
  show ((w.heap.push (.deferred (some []))).push (.loop cJ))[w.heap.size+1]? =_
  rw[Array.getElem?_push,if_pos (by simp)]
 have hsz1:w1.heap.size=w.heap.size+2:=by show ((w.heap.push (.deferred (some []))).push (.loop cJ)).size=_;simp
 have hold:∀B,B<w.heap.size→w1.heap[B]? =w.heap[B]? :=by
  intro B hB
  show ((w.heap.push (.deferred (some []))).push (.loop cJ))[B]? =_
  rw[Array.getElem?_push,if_neg (by rw[Array.size_push];omega),Array.getElem?_push,if_neg (by omega)]
 have hndom:¬G.dom n:=F.1 n (Nat.le_refl _) (by simp only;omega)
 let G1:aD:={G with dom:=fun j=>G.dom j∨j=n,ι:=upd G.ι n (D+1),own:=fun B=>G.own B∨B=D+1}
 have hι1:∀j,G.dom j→G1.ι j=G.ι j:=fun j hj=>by
  simp only[G1,upd];rw[if_neg];rintro rfl;exact hndom hj
 have hιn:G1.ι n=D+1:=by simp[G1,upd]
 have hne:∀j o,f j=some o→j≠n:=fun j o h e=>by subst e;rw[hfresh] at h;cases h
 have hO:∀B,B<w.heap.size→H.O ⟨upd f n (some (.loop N t ps asg body .ready none)),n+1,T,m⟩ G1 B→H.O ⟨f,n,T,m⟩ G B:=by
  rintro B hB ⟨j,o,h1,h2⟩
  by_cases e':j=n
  ·subst e';rw[hιn] at h2;omega
  ·have h1':f j=some o:=by simpa [upd,e'] using h1
   exact ⟨j,o,h1',by rw[←hι1 j (rel.h.obj j o h1').1];exact h2⟩
 have Tr1:Trans G w ⟨f,n,T,m⟩ G1 w1 ⟨upd f n (some (.loop N t ps asg body .ready none)),n+1,T,m⟩:=by
  constructor
  ·exact fun _ x=> .inl x
  ·rintro j (h|rfl)
   ·exact .inl h
   ·exact .inr ⟨Nat.le_refl _,Nat.lt_succ_self _⟩
  ·exact hι1
  ·exact fun _ x=>x
  ·exact fun _=> .inl
  ·exact fun _ _=>rfl
  ·exact Nat.le_succ _
  ·exact Nat.le_refl _
  ·rw[hsz1];omega
  ·rfl
  ·rfl
  ·intro B hB;rw[hold B hB];exact aU.refl _
  ·exact fun B hB _ _=>hold B hB
  ·intro B hB _
   exact ⟨fun h=>h.resolve_right (by omega),.inl⟩
  ·exact fun _ _ _ _=>rfl
  ·intro B hB h1 h2 e' he'
   refine ⟨fun j hj=>?_,fun e'' he''=>?_⟩
   ·have:=hold B hB
    unfold World.cell?
    simp only[this]
   ·have he2:G.lim B=some e'':=he''
    rw[he'] at he2;cases he2;exact Nat.le_refl _
  ·exact hO
  ·exact fun _ _ h=>h
  ·intro j o h
   by_cases e':j=n
   ·subst e';exact .inr ⟨Nat.le_refl _,Nat.lt_succ_self _⟩
   ·exact .inl ⟨o,by simpa [upd,e'] using h⟩
  ·exact fun _=> .inl
 have R1:aK G1 ⟨upd f n (some (.loop N t ps asg body .ready none)),n+1,T,m⟩ w1:=by
  refine ⟨fun j o h=>?_,fun i j o o' h1 h2 h3=>?_,fun k hk=>⟨(rel.h.tok k hk).1,fun B e' he'=>?_⟩,rel.h.tinj⟩
  ·by_cases e':j=n
   ·subst e'
    have:o= .loop N t ps asg body .ready none:=by simpa [upd] using h.symm
    subst this
    refine ⟨.inr rfl,by rw[hιn];exact .inr rfl,by rw[hιn,hsz1];show w.heap.size+1<_;omega,cJ,by rw[hιn];exact hL1,rel.size,fun i=>ak.mono rel.h Tr1 _ _ (rel.t i),c2,rfl,rfl,rfl,rfl⟩
   ·have h':f j=some o:=by simpa [upd,e'] using h
    obtain ⟨a1,a2,a3,a4⟩:=rel.h.obj j o h'
    refine ⟨.inl a1,by rw[hι1 j a1];exact .inl a2,by rw[hι1 j a1,hsz1];omega,?_⟩
    rw[hι1 j a1,hold _ a3]
    exact a4.mono rel.h Tr1
  ·have low:∀k p,f k=some p→G1.ι k<w.heap.size:=fun k p hk=>by rw[hι1 k (rel.h.obj k p hk).1];exact (rel.h.obj k p hk).2.2.1
   by_cases e1:i=n
   ·by_cases e2:j=n
    ·rw[e1,e2]
    ·have:=low j o' (by simpa [upd,e2] using h2)
     rw[←h3,e1,hιn] at this
     omega
   ·have hi:f i=some o:=by simpa [upd,e1] using h1
    by_cases e2:j=n
    ·have:=low i o hi
     rw[h3,e2,hιn] at this
     omega
    ·have hj:f j=some o':=by simpa [upd,e2] using h2
     exact rel.h.inj i j o o' hi hj (by rw[←hι1 i (rel.h.obj i o hi).1,←hι1 j (rel.h.obj j o' hj).1];exact h3)
  ·obtain ⟨b1,b2,b3⟩:=(rel.h.tok k hk).2 B e' he'
   refine ⟨b1,?_,by rw[hsz1];omega⟩
   rintro (h|h)
   ·exact b2 h
   ·omega
 have F1:bD G1 ⟨upd f n (some (.loop N t ps asg body .ready none)),n+1,T,m⟩ ⟨f2,n2,T2,m2⟩:=F.step Tr1
 have hargs:aq G1 w1 (first++[.yld n]++caps) (vs++[Value.func (.yield (D+1)) #[] #[]]++us):=by
  refine aq.append (aq.append (aq.mono rel.h Tr1 _ _ hv1) ?_) (aq.mono rel.h Tr1 _ _ hv2)
  simp only[aq,ak]
  exact ⟨_,[],rfl,⟨.inr rfl,by rw[hιn]⟩,rfl⟩
 refine ⟨D+1,[{target:= .collected D,args:= #[]}],w1,{target:= .fn (.func fi) us.toArray,args:=vs.toArray++ #[Value.func (.yield (D+1)) #[] #[]]},w1,fi,(vs++[Value.func (.yield (D+1)) #[] #[]]++us).toArray,w1,?_,?_,fun _ _=>trivial,?_,fun h=>by simp[rd,Fence.wide] at h,l6 ?_⟩
 ·exact run_enterLoop_outer fid a.tmps qs asg body
 ·have he:∀v,a.eval (.const v)=v:=fun _=>rfl
  simp[resolve,rangeCall,hz,Deferred.ofValue,he]
 ·simp[invoke,gC w1 hf hfb hfn]
 ·refine (cZ G1 w1 _ hargs R1 F1).mono ?_
  rintro e' w3 ⟨v,G3,rfl,T3,R3,V3⟩
  obtain ⟨b1,b2,b3,⟨st3,pend3,fn3,tmps3,params3,asg3,body3,df3⟩,b4,b5,b6,b7,b8,b9,b10,b11⟩:=R3.obj n _ ho2
  simp only at b10 b11
  subst b11
  have hι3:G3.ι n=D+1:=(T3.ι_eq n (.inr rfl)).trans hιn
  rw[hι3] at b3 b4
  have hDO1:¬H.O ⟨upd f n (some (.loop N t ps asg body .ready none)),n+1,T,m⟩ G1 D:=by
   rintro ⟨j,o,h1,h2⟩
   by_cases e':j=n
   ·subst e';rw[hιn] at h2;omega
   ·have h1':f j=some o:=by simpa [upd,e'] using h1
    have:=(rel.h.obj j o h1').2.2.1
    rw[hι1 j (rel.h.obj j o h1').1] at h2
    omega
  have hDT1:¬H.T ⟨upd f n (some (.loop N t ps asg body .ready none)),n+1,T,m⟩ G1 D:=by
   rintro ⟨k,hk,e',he'⟩
   have:=((rel.h.tok k hk).2 D e' he').2.2
   omega
  have hDlt:D<w1.heap.size:=by rw[hsz1];show w.heap.size<_;omega
  have hD3:w3.heap[D]? =some (.deferred (some [])):=(T3.keep D hDlt hDO1 hDT1).trans hD1
  have hDO3:¬H.O ⟨f2,n2,T2,m2⟩ G3 D:=fun h=>hDO1 (T3.O_new D hDlt h)
  have hDT3:¬H.T ⟨f2,n2,T2,m2⟩ G3 D:=fun h=>hDT1 (T3.T_new D hDlt h)
  refine ⟨pend3,_,run_endLoop b4 (by simp only;rw[b10];exact hst),?_⟩
  let w4:=w3.putObj (D+1) (.loop ⟨.exhausted,pend3,fn3,tmps3,params3,asg3,body3,df3⟩)
  have tu:cF (D+1) w3 w4:=⟨by simp[w4],fun B hB=>World.putObj_heap_other hB,fun c T fr e=>absurd (b4.symm.trans e) (by simp),rfl,rfl⟩
  have hle3:HLe ⟨f2,n2,T2,m2⟩ ⟨fun j=>if j=n then none else f2 j,n2,T2,m2⟩:=by
   refine ⟨fun j o' hj=>?_,fun t h=>h⟩
   simp only at hj
   split at hj
   ·cases hj
   ·exact ⟨o',hj,cD.refl _⟩
  have T03:Trans G w ⟨f,n,T,m⟩ G3 w3 ⟨fun j=>if j=n then none else f2 j,n2,T2,m2⟩:=(Tr1.trans rel.h R1 T3).trans rel.h R3 (Trans.le hle3 (Nat.le_refl _) (Nat.le_refl _))
  have R03:=R3.le hle3
  have hLO:¬H.O ⟨fun j=>if j=n then none else f2 j,n2,T2,m2⟩ G3 (D+1):=by
   rintro ⟨j,o,h1,h2⟩
   simp only at h1
   split at h1
   ·cases h1
   ·rename_i hjn
    exact hjn (R3.inj j n o _ h1 ho2 (by rw[h2,hι3]))
  have T04:=T03.bQ tu (by show w.heap.size≤w.heap.size+1;omega)
  have R04:=R03.bQ tu hLO
  have hD4:w4.heap[D]? =some (.deferred (some [])):=by rw[tu.same D (by omega)];exact hD3
  have relEnd:Rel N ⟨t,⟨fun j=>if j=n then none else f2 j,n2,T2,m2⟩⟩ G3 w4 {a with defers:=[({target:= .collected D,args:= #[]}:Deferred)]++a.defers}:=by
   refine ⟨rel.size,fun i=>ak.bQ tu _ _ (ak.mono rel.h T03 _ _ (rel.t i)),R04,?_,?_⟩
   ·show ([({target:= .collected D,args:= #[]}:Deferred)]++a.defers).Nodup
    rw[List.singleton_append,List.nodup_cons]
    refine ⟨fun hm=>?_,rel.df.1⟩
    obtain ⟨D',e',h1,-⟩:=rel.df.2 _ hm
    simp only[Deferred.mk.injEq,Target.collected.injEq,and_true] at e'
    have:=tl h1
    rw[←e'] at this
    exact absurd this (Nat.lt_irrefl _)
   ·intro d hd
    rcases List.mem_append.1 hd with hd|hd
    ·rw[List.mem_singleton.1 hd]
     exact ⟨D,rfl,hD4,fun ⟨j,o,h1,h2⟩=>by
      simp only at h1
      split at h1
      ·cases h1
      ·exact hDO3 ⟨j,o,h1,h2⟩,hDT3⟩
    ·exact (rel.df.mono T04).2 d hd
  have hnew:jB w a.defers ([({target:= .collected D,args:= #[]}:Deferred)]++a.defers):=by
   intro d hd
   rcases List.mem_append.1 hd with hd|hd
   ·rw[List.mem_singleton.1 hd];exact .inr ⟨D,Nat.le_refl _,rfl⟩
   ·exact .inl hd
  cases hle with
  |none=>exact ⟨trivial,hnew,G3,T04,relEnd⟩
  |ret=>exact wpIn_ret ⟨trivial,hnew,G3,T04,relEnd⟩
  |exit i=>exact wpIn_exit ⟨rfl,hnew,G3,T04,relEnd⟩
  |goto l=>exact wpIn_goto ⟨rfl,hnew,G3,T04,relEnd⟩
end
end Go.Av
end
section
namespace Go.Av
section
variable {P:Program} {N:Nat} {o:Oper} {t:Tm} {h:H} {en:Ent} {G:aD} {w:World}
theorem wZ {w':World} {cs:List AV} {vs rest:List Value} {T:TypeId} {n m sz len C:Nat} (hp:bR w w' (.cells (vs++rest).toArray T (0,0))) (hr:aq G w cs vs) (h1:∀v∈vs,One v) (hf:¬G.dom n) (hC:len≤C∧C≤9223372036854775807) (hroom:C*sz≤vs.length+rest.length):
  ∃G',Trans G w (.only af [] n m) G' w' (.only (upd af n (some (.cells cs))) [] (n+1) m)∧aK G' (.only (upd af n (some (.cells cs))) [] (n+1) m) w'∧ak G' w' (.tsl sz n 0 len (some C)) (.slice (some ⟨w.heap.size,0,none⟩) len C):=by
 obtain ⟨G',T1,R1,V⟩:=lL (n:=n) (m:=m) hp hr h1 hf
 refine ⟨G',T1,R1,?_⟩
 simp only[ak] at V
 obtain ⟨hd,hv⟩:=V
 simp only[Value.pointer.injEq,Option.some.injEq,Addr.mk.injEq,and_true] at hv
 unfold ak
 refine ⟨hd,.inl ⟨C,(vs++rest).toArray,T,(0,0),by rw[hv],hC,(fun _ h=>by cases h;rfl),?_,by simpa using hroom⟩⟩
 rw[←hv];exact hp.new
theorem oS {ty e:TypeId} {len:Nat} {parts:Array (Nat × Operand)} {ys:List Opd} {z:Value} (hop:o.op= .buildSlice ty len parts) (hu:P.underlying ty=some (.slice e)) (hi:(P.info? e).isSome=true) (hn:parts.size=len) (hpos:0<P.cellsOf e)
  (hz:(P.info? e).bind (·.zero)=some z) (hzs:z.cells.size=P.cellsOf e)
  (hys:eK P e 0 parts.toList=some ys) (hs:∀y∈ys,(cellsOf (ev t y)).length=P.cellsOf e∧shaped (ev t y)=true) (hle:ys.length*P.cellsOf e≤16777216):
  Loc P o t h (.tsl (P.cellsOf e) h.n 0 ys.length (some ys.length)) {h with objs:=upd h.objs h.n (some (.cells ((ys.map (ev t)).flatMap cellsOf))),n:=h.n+1} ⟨[],[h.n],[]⟩:=by
 refine ⟨_,_,dT h _,fun G w a ht R F=>?_⟩
 obtain ⟨r1,r2,r3⟩:=fu ht hys
 simp only[Array.length_toList,hn] at r2 r3
 have hsz:∀v∈parts.toList.map (fun p=>a.eval p.2),v.cells.size=P.cellsOf e∧∀u∈v.cells.toList,One u:=by
  intro v hv
  obtain ⟨k,hk⟩:=List.getElem?_of_mem hv
  have hlt:k<(parts.toList.map (fun p=>a.eval p.2)).length:=by
   rcases Nat.lt_or_ge k (parts.toList.map (fun p=>a.eval p.2)).length with h|h
   ·exact h
   ·rw[List.getElem?_eq_none h] at hk;cases hk
  have hlt':k<ys.length:=by simp at hlt;omega
  obtain ⟨u,hu1,hu2⟩:=r1.get (i:=k) (x:=ev t ys[k]) (by simp[List.getElem?_eq_getElem hlt'])
  have e:u=v:=Option.some.inj (hu1.symm.trans hk)
  subst e
  obtain ⟨s1,s2⟩:=hs ys[k] (List.getElem_mem hlt')
  obtain ⟨c1,c2⟩:=cq hu2 s2
  have:=c1.length
  exact ⟨by simpa [s1] using this,cells_one c1 c2⟩
 generalize hV:parts.toList.map (fun p=>a.eval p.2)=vals at*
 have hvl:vals.length=len:=by rw[←hV];simp[hn]
 have he:=cE r1 fun v hv=>(hsz v hv).1
 have hfl:(vals.flatMap (·.cells.toList)).length=len*P.cellsOf e:=by
  have:=he.length;rw[this];simp[r3]
 have hfill:∀cells:Array Value,cells.size=len*P.cellsOf e→Instr.fill (fun i=>some (i*P.cellsOf e,P.cellsOf e)) cells ((parts.map fun (i,x)=>(i,a.eval x)).toList)=some (vals.flatMap (·.cells.toList)).toArray:=by
  intro cells hc
  have hz:(parts.map fun (i,x)=>(i,a.eval x)).toList=(List.range' 0 vals.length).zip vals:=by
   have:∀l:List (Nat × Operand),l.map (fun (i,x)=>(i,a.eval x))=(l.map (·.1)).zip (l.map fun p=>a.eval p.2):=by
    intro l;induction l with
    |nil=>rfl
    |cons p l ih=>simp[ih]
   rw[Array.toList_map,this,r2,hV,hvl]
  rw[hz]
  have:=gy (sz:=P.cellsOf e) (cells:=cells) vals 0 [] cells (by simp) (by simp) (by rw[hc,hvl];simp) (fun v hv=>(hsz v hv).1)
  simpa using this
 have hle':¬(len*P.cellsOf e>16777216):=by rw[←r3];omega
 obtain ⟨G',T1,R1,V⟩:=wZ (m:=h.m) (sz:=P.cellsOf e) (len:=len) (C:=len) (rest:=[]) (vs:=vals.flatMap fun v:Value=>v.cells.toList) (cm w (.cells ((vals.flatMap fun v:Value=>v.cells.toList)++[]).toArray e (0,0))) (da he (by
  rw[List.all_map]
  exact List.all_eq_true.2 fun y hy=>(hs y hy).2)) (by
  intro u hu
  obtain ⟨v,hv,hu'⟩:=List.mem_flatMap.1 hu
  exact (hsz v hv).2 u hu') (gx F (by simp[H.only])) ⟨Nat.le_refl _,by
  have:=Nat.le_mul_of_pos_right len hpos
  omega⟩ (by rw[hfl];simp)
 rw[List.append_nil] at T1 R1 V
 refine ⟨.value (.slice (some ⟨w.heap.size,0,none⟩) len len),_,_,G',?_,.inl rfl,T1,R1,by rw[r3];exact V⟩
 obtain ⟨i,hi1,hi2⟩:=Option.bind_eq_some_iff.1 hz
 have hle2:¬(16777216<len*P.cellsOf e):=by omega
 have hmap:∀(zc:Array Value),((Array.range (len*P.cellsOf e)).map (zc[· %zc.size]!)).size=len*P.cellsOf e:=by intro zc;simp
 have hrz:(zeroValue e).run P w= .ok z w:=by simp[zeroValue,typeInfo,hi1,hi2]
 simp only[execOp,hop,Sem.run_bind,Instr.buildSlice,run_underlying hu,Result.andThen_ok,bm P w e hi,if_neg hle2,Sem.run_pure,Sem.run_ite,hrz,hfill _ (hmap _)]
 by_cases h0:len*P.cellsOf e=0
 ·rw[if_pos h0];simp[newRow]
 ·rw[if_neg h0];simp[newRow]
theorem u0 {w:World} {B:Nat} {c:Array Value} {T:TypeId} {fr:Nat × Nat} (h:w.heap[B]? =some (.cells c T fr)) (hfr:fr.1=fr.2) (k:Nat):
  (w.freeze ⟨B,k,none⟩ 1).heap[B]? =some (.cells c T (k,k+1))∧(∀b,b≠B→(w.freeze ⟨B,k,none⟩ 1).heap[b]? =w.heap[b]?)∧(w.freeze ⟨B,k,none⟩ 1).heap.size=w.heap.size∧(w.freeze ⟨B,k,none⟩ 1).os=w.os∧(w.freeze ⟨B,k,none⟩ 1).output=w.output:=by
 obtain ⟨lo,hi⟩:=fr
 simp only at hfr
 subst hfr
 have hB:B<w.heap.size:=(Array.getElem?_eq_some_iff.1 h).1
 refine ⟨?_,fun b hb=>?_,?_,rfl,rfl⟩
 ·simp[World.freeze,Array.getElem?_modify,h]
 ·simp[World.freeze,Array.getElem?_modify,Ne.symm hb]
 ·simp[World.freeze]
theorem zJ {ty e:TypeId} {z:Operand} {y:Opd} {id k:Nat} {cs:List AV} (hop:o.op= .convert ty ty z) (hu:P.underlying ty=some (.slice e)) (he:P.underlying e=some (.int .u8)) (hy:opd P ty z=some y)
  (hx:ev t y= .tsl 1 id 0 cs.length (some k)) (ho:h.objs id=some (.cells cs)) (hl:0<cs.length):Loc P o t h (.sl 1 cs (.exact k)) {h with objs:=fun j=>if j=id then none else h.objs j} ⟨[],[id],[]⟩:=by
 refine ⟨_,_,rM h ho,fun G w a ht R F=>?_⟩
 have r:=ar hy ht
 rw[hx] at r
 simp only[ak] at r
 obtain ⟨hd,⟨C,c,T1,fr1,hv,⟨hC,-⟩,hk,hg1,hroom⟩|⟨h0,-⟩⟩:=r
 ·have hCk:=hk k rfl
  have hob:(H.only (upd af id (some (.cells cs))) [] h.n h.m).objs id=some (.cells cs):=by simp[H.only,upd]
  obtain ⟨q1,q2,q3,vs,rest,T,fr,y1,y2,y3,y4⟩:=R.obj id _ hob
  have hlen:=aq.length y2
  obtain ⟨f1,f2,f3,f4,f5⟩:=u0 y1 y3 (vs++rest).toArray.size
  generalize hB:G.ι id=B at*
  generalize hw':w.freeze ⟨B,(vs++rest).toArray.size,none⟩ 1=w' at*
  let G':aD:={G with own:=fun b=>G.own b∧b≠B,lim:=fun b=>if b=B then none else G.lim b}
  have hO:(H.only (upd af id (some (.cells cs))) [] h.n h.m).O G B:=⟨id,_,hob,hB⟩
  have hne:∀b,¬(H.only (upd af id (some (.cells cs))) [] h.n h.m).O G b→b≠B:=fun b h1 e=>h1 (e▸hO)
  have T1':Trans G w (.only (upd af id (some (.cells cs))) [] h.n h.m) G' w' (H0 h.n h.m):=by
   constructor
   ·exact fun _ x=>x
   ·exact fun _=> .inl
   ·exact fun _ _=>rfl
   ·exact fun _ x=>x
   ·exact fun _=> .inl
   ·exact fun _ _=>rfl
   ·exact Nat.le_refl _
   ·exact Nat.le_refl _
   ·rw[f3];exact Nat.le_refl _
   ·exact f4
   ·exact f5
   ·intro b hb
    by_cases e:b=B
    ·subst e
     rw[y1,f1]
     exact ⟨_,_,rfl,rfl,fun j hj h1=>by simp only at h1;omega⟩
    ·rw[f2 b e];exact aU.refl _
   ·exact fun b hb h1 _=>f2 b (hne b h1)
   ·exact fun b hb h1=>⟨fun x=>x.1,fun x=>⟨x,hne b h1⟩⟩
   ·intro b hb h1 _
    show (if b=B then none else G.lim b)=_
    rw[if_neg (hne b h1)]
   ·exact fun b hb x=>absurd x (fA b)
   ·exact fun b _ x=>absurd x (cG b)
   ·exact fun b _ x=>absurd x (fA b)
   ·exact fun j o x=>by simp[H0,H.only,af] at x
   ·exact fun t x=>by simp[H0,H.only] at x
  have hvs:=aq.mono R T1' _ _ y2
  have hel:=cE (sz:=1) hvs (fun v hv=>by rw[iN (y4 v hv)];rfl)
  have hfl:vs.flatMap (·.cells.toList)=vs:=by
   have:∀l:List Value,(∀v∈l,One v)→l.flatMap (·.cells.toList)=l:=by
    intro l
    induction l with
    |nil=>intro _;rfl
    |cons x l ih=>intro hl;rw[List.flatMap_cons,iN (hl x (by simp)),ih (fun v hv=>hl v (by simp[hv]))];rfl
   exact this _ y4
  rw[hfl] at hel
  refine ⟨.value (a.eval z),_,w',G',?_,.inl rfl,T1',eB,?_⟩
  ·rw[hv]
   have hbeq:(ty == ty)=true:=by simp
   have hsh:w.shape? B=some (T,(vs++rest).toArray.size):=by simp[World.shape?,y1]
   simp only[execOp,hop,hv,convert,Sem.run_bind,run_underlying hu,Result.andThen_ok,hbeq,run_underlying he,markStringish,run_shape,hsh,run_freeze,hw',Sem.run_pure]
  ·rw[hv]
   unfold ak
   refine .inr ⟨B,0,C,vs,rfl,hC,by omega,hel,fun i v hi=>?_,hCk⟩
   have hi':=(List.getElem?_eq_some_iff.1 hi).1
   refine ⟨?_,y4 v (List.mem_of_getElem? hi),fun x=>x.2 rfl,fun e he'=>by simp[G'] at he'⟩
   unfold World.cell?
   simp only[f1]
   simp[List.getElem?_append_left hi',hi]
 ·omega
def dt (ρ:Opd→AV) (h:H):AOp→Option (AV × H × Ent)
 | .buildSl sz parts=>if parts.all (fun x=>(cellsOf (ρ x)).length=sz∧shaped (ρ x))=true∧parts.length*sz≤16777216 then
   some (.tsl sz h.n 0 parts.length (some parts.length),{h with objs:=upd h.objs h.n (some (.cells ((parts.map ρ).flatMap cellsOf))),n:=h.n+1},⟨[],[h.n],[]⟩) else none
 | .conv .s2s x=>match ρ x with
  | .tsl 1 id 0 len (some k)=>match h.objs id with
   |some (.cells cs)=>if len=cs.length∧0<cs.length then some (.sl 1 cs (.exact k),{h with objs:=fun j=>if j=id then none else h.objs j},⟨[],[id],[]⟩) else none
   |_=>none
  |_=>none
 |_=>none
theorem zQ {y:Opd} (h:cOp P o=some (.conv .s2s y)):∃ty e z,o.op= .convert ty ty z∧P.underlying ty=some (.slice e)∧P.underlying e=some (.int .u8)∧opd P ty z=some y:=by
 unfold cOp at h
 split at h
 case h_12 src dst z hop=>
  split at h
  ·cases h
  ·split at h<;>cases h
  ·split at h<;>cases h
  ·cases h
  ·split at h
   ·rename_i hq
    cases h
    obtain ⟨rfl,hq,-⟩:=hq
    exact ⟨_,_,z,hop,‹_›,jA hq,‹_›⟩
   ·cases h
  ·cases h
 all_goals first
  |(cases h;done)
  |(simp at h;done)
  |((repeat' split at h)<;>(try cases h)<;>(try simp at h);done)
  |skip
theorem xc {op:AOp} {x:AV} {h':H} (hc:cOp P o=some op) (hx:dt (ev t) h op=some (x,h',en)):Loc P o t h x h' en:=by
 cases op<;>(try (simp [dt] at hx;done))
 case buildSl sz parts=>
  obtain ⟨ty,e,len,ps,z,hop,hu,hi,hn,hpos,hz,hzs,hys,rfl⟩:=kF hc
  simp only[dt] at hx
  split at hx
  ·rename_i hq
   cases hx
   exact oS hop hu hi hn hpos hz hzs hys (fun y hy=>by simpa using List.all_eq_true.1 hq.1 y hy) hq.2
  ·cases hx
 case conv k x0=>
  cases k<;>(try (simp [dt] at hx;done))
  obtain ⟨ty,e,z,hop,hu,he,hy⟩:=zQ hc
  simp only[dt] at hx
  split at hx
  ·rename_i e1
   split at hx
   ·rename_i e2
    split at hx
    ·rename_i hq
     obtain ⟨rfl,hq⟩:=hq
     cases hx
     exact zJ hop hu he hy e1 e2 hq
    ·cases hx
   ·cases hx
  ·cases hx
theorem rQ {ρ ρ':Opd→AV} {op:AOp} (hx:∀y∈aX op,ρ y=ρ' y):dt ρ h op=dt ρ' h op:=by
 cases op<;>(try rfl)
 case buildSl sz parts=>
  have e1:parts.map ρ=parts.map ρ':=List.map_congr_left fun y hy=>hx y (by simpa [aX] using hy)
  have e2:parts.all (fun x=>(cellsOf (ρ x)).length=sz∧shaped (ρ x))=parts.all (fun x=>(cellsOf (ρ' x)).length=sz∧shaped (ρ' x)):=by
   refine Bool.eq_iff_iff.2 ?_
   simp only[List.all_eq_true]
   exact ⟨fun h y hy=>by rw[←hx y (by simpa [aX] using hy)];exact h y hy,fun h y hy=>by rw[hx y (by simpa [aX] using hy)];exact h y hy⟩
  simp only[dt,e1,e2]
 case conv k x0=>
  cases k<;>(try rfl)
  simp only[dt,hx x0 (by simp[aX])]
theorem nI {ops:Array Oper} {i:Nat} {o:Oper} {it:aE} {t:Tm} {h h':H} {x:AV} {en:Ent} (ho:ops[i]? =some o) (hit:bA P N ops o=some it) (hg:guardOf t it.guard=some true) (hx:dt (ev t) h it.op=some (x,h',en)):
  ∃h1 h1',Touch h h1 h1' h' en∧dK P ops i o t h1 x h1':=by
 unfold bA at hit
 split at hit
 ·rename_i op g hop hgd
  split at hit<;>cases hit
  rename_i hcond
  simp only[Bool.and_eq_true] at hcond
  have hop:=fv hop (by rintro rfl;simp[dt] at hx) (by cases op<;>first|rfl|(simp [dt] at hx))
  have hx':dt (ev (fY (names ops o) t)) h op=some (x,h',en):=by
   rw[rQ (hX hcond.2)];exact hx
  obtain ⟨h1,h1',tc,loc⟩:=xc hop hx'
  refine ⟨h1,h1',tc,fun G w a ht R F K Q hK ro=>?_⟩
  obtain ⟨nx,v,w',G',e1,e2,T1,R1,V⟩:=loc G w a (er ht) R F
  unfold wpOpIn
  rw[ho]
  simp only[bG hgd ht hg,if_true]
  refine ⟨fun _ _=>trivial,?_⟩
  rw[Oper.semAt_eq _ _ _ (dB hop),e1]
  rcases e2 with rfl|⟨rfl,rfl⟩
  ·rw[Oper.uponIn_value];exact hK G' w' v T1 R1 V
  ·rw[Oper.uponIn_skip];exact hK G' w' undef T1 R1 V
 ·cases hit
theorem ae.opV {dst:Option Nat} {g:Option (Nat × Bool)} {op:AOp} {its:List aE} {t:Tm} {h h':H} {log:List Ent} {en:Ent} {K:Tm→H→List Ent→Prop} {x:AV} (hg:guardOf t g=some true) (hx:dt (ev t) h op=some (x,h',en)) (ht:bS op=true)
  (rest:ae P N its (aY t dst x) h' (en::log) K):ae P N (⟨dst,g,op⟩::its) t h log K:=by
 intro ops i hi hc
 obtain ⟨o,ho,hit,hi',hc'⟩:=cM hi hc
 obtain ⟨h1,h1',tc,run⟩:=nI ho hit hg hx
 obtain ⟨recs,t',hh',ch,hk,hen⟩:=rest ops (i+1) hi' hc'
 have hdst:dst=o.dst:=by
  unfold bA at hit
  split at hit
  ·split at hit<;>cases hit;rfl
  ·cases hit
 refine ⟨⟨t,h,h1,h1',h',x,en⟩::recs,t',hh',.cons ho rfl rfl tc (fun _=>run) (by rw[←hdst];exact ch),by simpa using hk,?_⟩
 intro k r it' hr hit' ht'
 cases k with
 |zero=>
  simp at hr hit';subst hr hit'
  rw[ht] at ht';cases ht'
 |succ k=>simp at hr hit';exact hen k r it' hr hit' ht'
end
end Go.Av
end
section
namespace Go.Av
section
variable {P:Program} {N:Nat} {o:Oper} {t:Tm} {h:H} {en:Ent} {G:aD} {w:World}
theorem nJ {id n m:Nat} {c:Obj} {j:Nat} {o:Obj} (ho:(H.only (upd af id (some c)) [] n m).objs j=some o):j=id∧o=c:=by
 simp only[H.only,upd,af] at ho
 split at ho
 ·cases ho;exact ⟨‹_›,rfl⟩
 ·cases ho
theorem mj {id n m:Nat} {cs xs:List AV} {us:List Value} (R:aK G (.only (upd af id (some (.cells cs))) [] n m) w) (hn:¬G.dom n) (hr:aq G w xs us) (h1:∀v∈us,One v)
  {c:Array Value} {T0:TypeId} {fr0:Nat × Nat} (hc0:w.heap[G.ι id]? =some (.cells c T0 fr0)) (hl:cs.length+xs.length≤c.size):
  ∃w' G',(storeCells ⟨G.ι id,cs.length,none⟩ us 0).run P w= .ok () w'∧Trans G w (.only (upd af id (some (.cells cs))) [] n m) G' w' (.only (upd af n (some (.cells (cs++xs)))) [] (n+1) m)∧aK G' (.only (upd af n (some (.cells (cs++xs)))) [] (n+1) m) w'∧
   G'.dom n∧G'.ι n=G.ι id∧∃c' T' fr',w'.heap[G.ι id]? =some (.cells c' T' fr')∧c'.size=c.size:=by
 have hme:(H.only (upd af id (some (.cells cs))) [] n m).objs id=some (.cells cs):=by simp[H.only,upd]
 obtain ⟨d1,d2,d3,-⟩:=R.obj id _ hme
 obtain ⟨vs,rest,T,fr,hg,hvs,hfr,hone⟩:=fU R hme
 have hlen:=hvs.length
 have hul:=hr.length
 have hcs:c.size=vs.length+rest.length:=by
  rw[hg] at hc0
  cases hc0
  simp
 have hc:∀j,w.cell? ⟨G.ι id,j,none⟩=(vs++rest)[j]? :=by
  intro j;unfold World.cell?;simp only[hg];simp
 have hcell:∀j,j<us.length→(w.cell? ⟨G.ι id,cs.length+0+j,none⟩).isSome=true:=fun j hj=>by rw[hc];simp;omega
 have hfrz:∀j,j<us.length→w.frozen? ⟨G.ι id,cs.length+0+j,none⟩=false:=fun j hj=>by
  unfold World.frozen?;simp only[hg]
  have:¬(fr.1≤cs.length+0+j∧cs.length+0+j<fr.2):=fun h=>by omega
  simpa using this
 have honec:∀v∈us,v.oneCell'=true:=fun v hv=>by
  obtain ⟨k1,k2⟩:=h1 v hv
  cases v with
  |agg a=>exact absurd rfl (k1 a)
  |tuple a=>exact absurd rfl (k2 a)
  |_=>rfl
 have hrun:=run_storeCells_cells (P:=P) (G.ι id) cs.length us 0 w hcell hfrz honec
 rw[Nat.add_zero] at hrun
 obtain ⟨a1,a2,a3,a4,a5⟩:=cX (G.ι id) T fr us cs.length (vs++rest) w hg (by simp;omega)
 have ecur:(vs++rest).take cs.length++us++(vs++rest).drop (cs.length+us.length)=(vs++us)++rest.drop us.length:=by
  rw[List.take_append_of_le_length (by omega),List.take_of_length_le (by omega),List.drop_append,List.drop_of_length_le (by omega),hlen,List.nil_append]
  congr 2;omega
 rw[ecur] at a1
 clear hcell hfrz honec
 generalize w.setCells (G.ι id) cs.length us=w1 at*
 let G':aD:={G with dom:=fun j=>G.dom j∨j=n,ι:=upd G.ι n (G.ι id)}
 have hιn:G'.ι n=G.ι id:=by simp[G',upd]
 have hι:∀j,G.dom j→G'.ι j=G.ι j:=fun j hj=>by
  simp only[G',upd];rw[if_neg];rintro rfl;exact hn hj
 refine ⟨w1,G',hrun,?_⟩
 have T1:Trans G w (.only (upd af id (some (.cells cs))) [] n m) G' w1 (.only (upd af n (some (.cells (cs++xs)))) [] (n+1) m):=by
  constructor
  ·exact fun _ x=> .inl x
  ·rintro j (x|rfl)
   ·exact .inl x
   ·exact .inr ⟨by simp[H.only],by simp[H.only]⟩
  ·exact hι
  ·exact fun _ x=>x
  ·exact fun _=> .inl
  ·exact fun _ _=>rfl
  ·simp[H.only]
  ·exact Nat.le_refl _
  ·rw[a3];exact Nat.le_refl _
  ·exact a4
  ·exact a5
  ·intro B hB
   by_cases hBi:B=G.ι id
   ·subst hBi
    rw[a1,hg]
    exact ⟨_,_,rfl,by simp;omega,fun _ _ h=>h⟩
   ·rw[a2 B hBi];exact aU.refl _
  ·intro B hB hO _
   exact a2 B fun e=>hO ⟨id,_,hme,e.symm⟩
  ·exact fun _ _ _=>Iff.rfl
  ·exact fun _ _ _ _=>rfl
  ·rintro B hB ⟨t,ht,_⟩;simp[H.only] at ht
  ·rintro B hB ⟨j,o,ho,e⟩
   obtain ⟨rfl,rfl⟩:=nJ ho
   exact ⟨id,_,hme,by rw[←e,hιn]⟩
  ·rintro B hB ⟨t,ht,_⟩;simp[H.only] at ht
  ·intro j o ho
   obtain ⟨rfl,rfl⟩:=nJ ho
   exact .inr ⟨by simp[H.only],by simp[H.only]⟩
  ·intro t ht;simp[H.only] at ht
 refine ⟨T1,⟨?_,?_,?_,?_⟩,.inr rfl,hιn,_,T,fr,a1,?_⟩
 ·intro j o ho
  obtain ⟨rfl,rfl⟩:=nJ ho
  refine ⟨.inr rfl,by rw[hιn];exact d2,by rw[hιn,a3];exact d3,?_⟩
  rw[hιn,a1]
  refine ⟨_,_,T,fr,rfl,(aq.mono R T1 _ _ hvs).append (aq.mono R T1 _ _ hr),hfr,?_⟩
  intro v hv
  rcases List.mem_append.1 hv with hv|hv
  ·exact hone v hv
  ·exact h1 v hv
 ·intro j j' o o' ho ho' _
  rw[(nJ ho).1,(nJ ho').1]
 ·intro t ht;simp[H.only] at ht
 ·intro t ht;simp[H.only] at ht
 ·simp;omega
theorem Trans.AW {id n m:Nat} {c:Obj} {G':aD} {w':World} {h':H} (T:Trans G w (.only af [] n m) G' w' h'):Trans G w (.only (upd af id (some c)) [] n m) G' w' h':=by
 constructor
 ·exact T.dom_le
 ·exact T.dom_new
 ·exact T.ι_eq
 ·exact T.tdom_le
 ·exact T.tdom_new
 ·exact T.τ_eq
 ·exact T.n_le
 ·exact T.m_le
 ·exact T.size_le
 ·exact T.os
 ·exact T.output
 ·exact T.form
 ·exact fun B hB _ _=>T.keep B hB (cG B) (fA B)
 ·exact fun B hB _=>T.own_keep B hB (cG B)
 ·exact fun B hB _ _=>T.lim_keep B hB (cG B) (fA B)
 ·exact fun B hB x=>absurd x (fA B)
 ·exact fun B hB x=>absurd (T.O_new B hB x) (cG B)
 ·exact fun B hB x=>absurd (T.T_new B hB x) (fA B)
 ·intro j o ho
  rcases T.objs_new j o ho with ⟨o',x⟩|x
  ·simp[H.only,af] at x
  ·exact .inr x
 ·exact T.toks_new
theorem rR (h:H) {id:Nat} {ob ob':Obj} (ho:h.objs id=some ob):Touch h (.only (upd af id (some ob)) [] h.n h.m) (.only (upd af h.n (some ob')) [] (h.n+1) h.m) {h with objs:=upd (fun j=>if j=id then none else h.objs j) h.n (some ob'),n:=h.n+1} ⟨[],[id,h.n],[]⟩ where
 sub:=⟨fun j o hj=>by obtain ⟨rfl,rfl⟩:=nJ hj;exact ho,fun t ht=>by simp[H.only] at ht⟩
 n:=rfl
 m:=rfl
 eq:=by
  refine H.ext (fun j=>?_) rfl (by simp[H.patch,H.only];exact (List.filter_eq_self.2 fun _ _=>rfl).symm) rfl
  simp only[H.patch,H.only,upd,af]
  by_cases e1:j=h.n
  ·subst e1;simp
  ·by_cases e2:j=id
   ·subst e2;simp[e1]
   ·have:¬(h.n≤j∧j<h.n+1):=by omega
    simp[e1,e2,this]
 rd j x:=by
  right
  simp only[H.only,upd,af] at x
  split at x
  ·rename_i e;simp[e]
  ·simp at x
 wr j a b:=by simp only[H.only] at a b;simp;omega
 chg j x hx:=by
  simp only[H.only,upd,af] at x
  split at x
  ·rename_i e;subst e;simp at hx
  ·simp at x
 tk t x:=by simp[H.only] at x
 tn t x:=by simp[H.only] at x
 le:=by simp[H.only]
 lem:=Nat.le_refl _
theorem xd {c:Call} {zs zx:Operand} {ys yx:Opd} {T U e:TypeId} {d:TypeDesc} {i:TypeInfo} {id len:Nat} {cap:Option Nat} {cs els:List AV} (hop:o.op= .call c) (hc:c.callee= .builtin .append) (ha:c.args.toList=[zs,zx]) (hta:c.argTypes.toList=[T,U])
  (hT:P.underlying T=some (.slice e)) (hU:P.underlying U=some d) (hd:(∃e',d= .slice e')∨d= .string) (hi:P.info? e=some i) (hz:i.zero.any (fun z=>z.cells.size == i.size)=true) (hsz:0<i.size)
  (hys:opd P T zs=some ys) (hyx:opd P U zx=some yx) (hs:ev t ys= .tsl i.size id 0 len cap) (ho:h.objs id=some (.cells cs)) (hcl:cs.length=len*i.size) (hx:∃s' c',ev t yx= .sl s' els c'∧s'=i.size) (hsh:els.all shaped=true)
  (hb:(len+els.length)*i.bytes≤140737488355328) (hlen:len+els.length<4611686018427387904):
  Loc P o t h (.tsl i.size h.n 0 (len+els.length) none) {h with objs:=upd (fun j=>if j=id then none else h.objs j) h.n (some (.cells (cs++els.flatMap cellsOf))),n:=h.n+1} ⟨[],[id,h.n],[]⟩:=by
 have ha':c.args= #[zs,zx]:=by rw[←Array.toArray_toList (xs:=c.args),ha]
 have hta':c.argTypes= #[T,U]:=by rw[←Array.toArray_toList (xs:=c.argTypes),hta]
 obtain ⟨z,hz1,hz2⟩:∃z,i.zero=some z∧z.cells.size=i.size:=by
  cases hzz:i.zero with
  |none=>rw[hzz] at hz;simp at hz
  |some z=>rw[hzz] at hz;exact ⟨z,rfl,by simpa using hz⟩
 refine ⟨_,_,rR h ho,fun G w a ht R F=>?_⟩
 have r1:=ar hys ht
 have r2:=ar hyx ht
 rw[hs] at r1
 obtain ⟨s',c',hx,hs'⟩:=hx
 rw[hx] at r2
 obtain ⟨news,n1,n2,n3⟩:=fV (P:=P) (.inl hs') r2
 have hnl:=n2.length
 have hnr:=da n2 hsh
 have hnrl:=hnr.length
 have hdn:¬G.dom h.n:=F.1 h.n (by simp[H.only]) (by simp[H.only])
 have hme:(H.only (upd af id (some (.cells cs))) [] h.n h.m).objs id=some (.cells cs):=by simp[H.only,upd]
 obtain ⟨d1,d2,d3,-⟩:=R.obj id _ hme
 obtain ⟨vs,rest,T0,fr,hg,hvs,hfr,hone⟩:=fU R hme
 have hvl:=hvs.length
 have hmul:(len+els.length)*i.size=len*i.size+els.length*i.size:=Nat.add_mul _ _ _
 have fin:∀v w' G',(execOp a.eval o).run P w= .ok (.value v) w'→Trans G w (.only (upd af id (some (.cells cs))) [] h.n h.m) G' w' (.only (upd af h.n (some (.cells (cs++els.flatMap cellsOf)))) [] (h.n+1) h.m)→aK G' (.only (upd af h.n (some (.cells (cs++els.flatMap cellsOf)))) [] (h.n+1) h.m) w'→ak G' w' (.tsl i.size h.n 0 (len+els.length) none) v→
   ∃nx v w' G',(execOp a.eval o).run P w= .ok nx w'∧(nx= .value v∨nx= .skip∧v=undef)∧Trans G w (.only (upd af id (some (.cells cs))) [] h.n h.m) G' w' (.only (upd af h.n (some (.cells (cs++els.flatMap cellsOf)))) [] (h.n+1) h.m)∧aK G' (.only (upd af h.n (some (.cells (cs++els.flatMap cellsOf)))) [] (h.n+1) h.m) w'∧ak G' w' (.tsl i.size h.n 0 (len+els.length) none) v:=
  fun v w' G' a b c d=>⟨_,v,w',G',a,.inl rfl,b,c,d⟩
 have hex:∀{va vx r:Value} {w':World},a.eval zs=va→(Builtin.append_ #[T,U] o.type #[va,a.eval zx]).run P w= .ok r w'→(execOp a.eval o).run P w= .ok (.value r) w':=by
  intro va vx r w' h1 h2
  simp[execOp,hop,resolve,hc,ha',hta',invoke,builtin,h1,h2]
 simp only[ak] at r1
 obtain ⟨-,⟨C,c1,T1,fr1,hv,⟨hC,hC2⟩,-,hg1,hroom⟩|⟨rfl,⟨a0,hv⟩,-⟩⟩:=r1
 ·have hc1:c1.size=vs.length+rest.length:=by rw[hg] at hg1;cases hg1;simp
  by_cases hfit:len+els.length≤C
  ·have hCs:(len+els.length)*i.size≤C*i.size:=Nat.mul_le_mul_right _ hfit
   obtain ⟨w',G',q1,q2,q3,q4,q5,c',T',fr',q6,q7⟩:=mj (P:=P) R hdn hnr n3 hg1 (by omega)
   have hst:(storeCells ((⟨G.ι id,0,none⟩:Addr).add (len*i.size)) news).run P w= .ok () w':=by
    have e:(⟨G.ι id,0,none⟩:Addr).add (len*i.size)=⟨G.ι id,cs.length,none⟩:=by rw[add_plain,hcl,Nat.zero_add]
    rw[e];exact q1
   refine fin _ w' G' (hex (vx:= .nilIface) hv (run_append_fits (ty:=o.type) hT hU hd hi n1 hfit hst)) q2 q3 ?_
   unfold ak
   refine ⟨q4,.inl ⟨C,c',T',fr',by rw[q5],⟨hfit,hC2⟩,(fun _ h=>by cases h),by rw[q5];exact q6,by omega⟩⟩
  ·have hsrc:Src P w i.size (.slice (some ⟨G.ι id,0,none⟩) len C) len vs:=by
    refine ⟨by simp[Builtin.lenOf],fun w' hw=>?_⟩
    have:=run_loadCells_list (P:=P) w' ⟨G.ι id,0,none⟩ vs (fun j u hu=>by
     rw[add_plain,gw hw]
     unfold World.cell?
     simp only[hg]
     have hj:=(List.getElem?_eq_some_iff.1 hu).1
     simp[List.getElem?_append_left hj,hu])
    simp only[Builtin.firstCells]
    rw[←hcl,←hvl];exact this
   obtain ⟨w',C',rest',e1,e2,e3,e4⟩:=cR (ty:=o.type) hT hU hd hi hz1 hz2 hsz n1 hsrc hfit hC hb hlen
   obtain ⟨G',T2,R2,V⟩:=kY (m:=h.m) (sz:=i.size) (cs:=cs++els.flatMap cellsOf) e2 (hvs.append hnr) (fun u hu=>by
    rcases List.mem_append.1 hu with h|h
    ·exact hone u h
    ·exact n3 u h) hdn e3 (by simp only[List.length_append];omega)
   exact fin _ w' G' (hex (vx:= .nilIface) hv e1) T2.AW R2 V
 ·by_cases hk:els=[]
  ·subst hk
   have hnn:news=[]:=by simpa [av] using n2
   subst hnn
   have hcs0:cs=[]:=by
    cases cs with
    |nil=>rfl
    |cons x l=>simp at hcl
   subst hcs0
   obtain ⟨w',G',q1,q2,q3,q4,q5,-⟩:=mj (P:=P) (xs:=[]) (us:=[]) R hdn .nil (by simp) hg (by simp)
   have hw':w'=w:=by simpa [storeCells] using q1.symm
   subst hw'
   refine fin _ w' G' (hex (vx:= .nilIface) hv (run_append_fits (ty:=o.type) hT hU hd hi n1 (Nat.le_refl _) (w':=w') (by cases a0<;>rfl))) q2 q3 ?_
   unfold ak
   exact ⟨q4,.inr ⟨rfl,⟨a0,rfl⟩,fun _ h=>by cases h⟩⟩
  ·have hpos:0<els.length:=List.length_pos_iff.2 hk
   have hcs0:cs=[]:=by
    cases cs with
    |nil=>rfl
    |cons x l=>simp at hcl
   subst hcs0
   obtain ⟨w',C',rest',e1,e2,e3,e4⟩:=cR (ty:=o.type) hT hU hd hi hz1 hz2 hsz n1 (jx (some a0)) (by omega) (Nat.le_refl _) (by simpa using hb) (by simpa using hlen)
   rw[List.nil_append] at e2
   obtain ⟨G',T2,R2,V⟩:=kY (m:=h.m) (sz:=i.size) e2 hnr n3 hdn e3 (by omega)
   exact fin _ w' G' (hex (vx:= .nilIface) hv e1) T2.AW R2 V
def dX (ρ:Opd→AV) (h:H):AOp→Option (AV × H × Ent)
 | .app false sz bytes s x=>match ρ s,ρ x with
  | .tsl z id 0 len _,.sl s' els _=>match h.objs id with
   |some (.cells cs)=>if z=sz∧s'=sz∧cs.length=len*sz∧els.all shaped=true∧(len+els.length)*bytes≤140737488355328∧len+els.length<4611686018427387904 then
     some (.tsl sz h.n 0 (len+els.length) none,{h with objs:=upd (fun j=>if j=id then none else h.objs j) h.n (some (.cells (cs++els.flatMap cellsOf))),n:=h.n+1},⟨[],[id,h.n],[]⟩) else none
   |_=>none
  |_,_=>none
 |_=>none
theorem xe {op:AOp} {x:AV} {h':H} (hc:cOp P o=some op) (hx:dX (ev t) h op=some (x,h',en)):Loc P o t h x h' en:=by
 cases op<;>(try (simp [dX] at hx;done))
 case app str sz bytes s x0=>
  cases str<;>(try (simp [dX] at hx;done))
  obtain ⟨c,zs,zx,T,U,e,e',i,hop,hcal,ha,hta,hys,hyx,hT,hU,hi,hs1,hs2,rfl,rfl⟩:=tz hc
  simp only[dX] at hx
  split at hx
  ·split at hx
   ·split at hx
    ·rename_i hq
     obtain ⟨q1,q2,q3,q4,q5,q6⟩:=hq
     subst q1
     cases hx
     exact xd hop hcal ha hta hT hU (.inl ⟨_,rfl⟩) hi hs2 hs1 hys hyx ‹_› ‹_› q3 ⟨_,_,‹_›,q2⟩ q4 q5 q6
    ·cases hx
   ·cases hx
  ·cases hx
theorem rS {ρ ρ':Opd→AV} {op:AOp} (hx:∀y∈aX op,ρ y=ρ' y):dX ρ h op=dX ρ' h op:=by
 cases op<;>(try rfl)
 case app str sz bytes s x0=>
  cases str
  ·simp only[dX,hx s (by simp[aX]),hx x0 (by simp[aX])]
  ·rfl
theorem iP {ops:Array Oper} {i:Nat} {o:Oper} {it:aE} {t:Tm} {h h':H} {x:AV} {en:Ent} (ho:ops[i]? =some o) (hit:bA P N ops o=some it) (hg:guardOf t it.guard=some true) (hx:dX (ev t) h it.op=some (x,h',en)):
  ∃h1 h1',Touch h h1 h1' h' en∧dK P ops i o t h1 x h1':=by
 unfold bA at hit
 split at hit
 ·rename_i op g hop hgd
  split at hit<;>cases hit
  rename_i hcond
  simp only[Bool.and_eq_true] at hcond
  have hop:=fv hop (by rintro rfl;simp[dX] at hx) (by cases op<;>first|rfl|(simp [dX] at hx))
  have hx':dX (ev (fY (names ops o) t)) h op=some (x,h',en):=by
   rw[rS (hX hcond.2)];exact hx
  obtain ⟨h1,h1',tc,loc⟩:=xe hop hx'
  refine ⟨h1,h1',tc,fun G w a ht R F K Q hK ro=>?_⟩
  obtain ⟨nx,v,w',G',e1,e2,T1,R1,V⟩:=loc G w a (er ht) R F
  unfold wpOpIn
  rw[ho]
  simp only[bG hgd ht hg,if_true]
  refine ⟨fun _ _=>trivial,?_⟩
  rw[Oper.semAt_eq _ _ _ (dB hop),e1]
  rcases e2 with rfl|⟨rfl,rfl⟩
  ·rw[Oper.uponIn_value];exact hK G' w' v T1 R1 V
  ·rw[Oper.uponIn_skip];exact hK G' w' undef T1 R1 V
 ·cases hit
theorem ae.opK {dst:Option Nat} {g:Option (Nat × Bool)} {op:AOp} {its:List aE} {t:Tm} {h h':H} {log:List Ent} {en:Ent} {K:Tm→H→List Ent→Prop} {x:AV} (hg:guardOf t g=some true) (hx:dX (ev t) h op=some (x,h',en)) (ht:bS op=true)
  (rest:ae P N its (aY t dst x) h' (en::log) K):ae P N (⟨dst,g,op⟩::its) t h log K:=by
 intro ops i hi hc
 obtain ⟨o,ho,hit,hi',hc'⟩:=cM hi hc
 obtain ⟨h1,h1',tc,run⟩:=iP ho hit hg hx
 obtain ⟨recs,t',hh',ch,hk,hen⟩:=rest ops (i+1) hi' hc'
 have hdst:dst=o.dst:=by
  unfold bA at hit
  split at hit
  ·split at hit<;>cases hit;rfl
  ·cases hit
 refine ⟨⟨t,h,h1,h1',h',x,en⟩::recs,t',hh',.cons ho rfl rfl tc (fun _=>run) (by rw[←hdst];exact ch),by simpa using hk,?_⟩
 intro k r it' hr hit' ht'
 cases k with
 |zero=>
  simp at hr hit';subst hr hit'
  rw[ht] at ht';cases ht'
 |succ k=>simp at hr hit';exact hen k r it' hr hit' ht'
theorem ba.opK {dst:Option Nat} {g:Option (Nat × Bool)} {op:AOp} {its:List aE} {t:Tm} {h h':H} {en:Ent} {K:Tm→H→Prop} {x:AV} (hg:guardOf t g=some true) (hx:dX (ev t) h op=some (x,h',en))
  (rest:ba P N its (aY t dst x) h' K):ba P N (⟨dst,g,op⟩::its) t h K:=
 ba.step (it:=⟨dst,g,op⟩) (fun ops i o ho hit=>iP ho hit hg hx) rest
end
end Go.Av
end
section
namespace Go.Av
structure LR where
 id:Nat
 N:Nat
 x:AC
 y:AC
abbrev Sg:=Nat→Code × Code
def sgO (c:Code × Code):Obj→Obj
 | .loop N t ps _ _ st pd=> .loop N t ps c.1 c.2 st pd
 |o=>o
def H.sg (σ:Sg) (h:H):H:=⟨fun j=>(h.objs j).map (sgO (σ j)),h.n,h.toks,h.m⟩
def St.sg (σ:Sg) (s:St):St:=⟨s.t,s.h.sg σ⟩
def u6 (P:Program) (σ:Sg) (L:List LR):Prop:=∀r∈L,cCode P r.N (σ r.id).1=some r.x∧cCode P r.N (σ r.id).2=some r.y∧dG (σ r.id).1=true∧dG (σ r.id).2=true
theorem ml {σ:Sg} {h:H} {id:Nat} {cs:List AV} (e:h.objs id=some (.cells cs)):(h.sg σ).objs id=some (.cells cs):=by
 simp[H.sg,e,sgO]
theorem bO (σ:Sg) (f:Nat→Option Obj) (id:Nat) (cs:List AV):(fun j=>(upd f id (some (.cells cs)) j).map (sgO (σ j)))=upd (fun j=>(f j).map (sgO (σ j))) id (some (.cells cs)):=by
 funext j
 simp only[upd]
 split<;>rfl
theorem fc (σ:Sg) (f:Nat→Option Obj) (id:Nat) (es:List (AV × AV)):(fun j=>(upd f id (some (.map es)) j).map (sgO (σ j)))=upd (fun j=>(f j).map (sgO (σ j))) id (some (.map es)):=by
 funext j
 simp only[upd]
 split<;>rfl
theorem Bx {σ:Sg} {ρ:Opd→AV} {h h':H} {op:AOp} {x:AV} {en:Ent} (hx:aop ρ h op=some (x,h',en)):aop ρ (h.sg σ) op=some (x,h'.sg σ,en):=by
 cases op<;>simp only[aop] at hx ⊢
 all_goals first
  |(simp only[Option.map_eq_some_iff,Prod.mk.injEq] at hx ⊢;obtain ⟨v,h1,h2,h3,h4⟩:=hx;subst h3;exact ⟨v,h1,h2,rfl,h4⟩)
  |((repeat' split at hx)<;>simp only[Option.some.injEq,Prod.mk.injEq,Option.map_eq_some_iff,reduceCtorEq] at hx<;>first
    |(obtain ⟨h2,h3,h4⟩:=hx;subst h3;simp[*,H.sg,sgO,bO,fc];done)
    |(obtain ⟨h2,h3,h4⟩:=hx;subst h3;simp_all [H.sg,sgO,bO,fc];done)
    |(obtain ⟨v,hv,h2,h3,h4⟩:=hx;subst h3;simp[*,H.sg,sgO,bO,fc];done)
    |(obtain ⟨h2,h3,h4⟩:=hx;subst h3;rename_i hh _ _ _ _;simp_all [H.sg,sgO,bO,fc];intro hne;rcases hh.1 with e|e;exact absurd (e.trans hh.2.1) hne;exact e)
    |(obtain ⟨v,hv,h2,h3,h4⟩:=hx;subst h3;simp_all [H.sg,sgO,bO,fc]))
theorem xf {σ:Sg} {ds:List RV} {t:Tm} {h:H} {r:AV} (e:dL ds t h=some r):dL ds t (h.sg σ)=some r:=by
 have key:∀d x,rv t h d=some x→rv t (h.sg σ) d=some x:=by
  intro d x hd
  cases d with
  |tmp d=>exact hd
  |cell d n=>
   simp only[rv] at hd ⊢
   split at hd
   ·split at hd
    ·rename_i hc
     rw[ml hc];exact hd
    ·cases hd
   ·cases hd
 have keys:∀l xs,rvs t h l=some xs→rvs t (h.sg σ) l=some xs:=by
  intro l
  induction l with
  |nil=>intro xs hd;exact hd
  |cons a l ih=>
   intro xs hd
   simp only[rvs] at hd ⊢
   split at hd
   ·rename_i h1 h2
    rw[key _ _ h1,ih _ h2];exact hd
   ·cases hd
 unfold dL at e ⊢
 cases hr:rvs t h ds with
 |none=>rw[hr] at e;cases e
 |some l=>rw[hr] at e;rw[keys _ _ hr];exact e
def zR (dst:Option Nat):List aE→Bool
 |⟨_,_,.conv .s2s (.t d)⟩::_=>match dst with
  |some e=>Nat.beq d e
  |none=>false
 |_=>false
def zS (dst:Option Nat) (its:List aE):Bool:=
 match dst with
 |some d=>its.any fun it=>match it.op with
  | .call _ [_,_,.t j]=>Nat.beq j d
  |_=>false
 |none=>false
def mn (ρ:Opd→AV) (h:H) (dst:Option Nat) (its:List aE) (op:AOp):Option (AV × H × Ent):=
 match op with
 | .buildSl _ _=>match zR dst its||zS dst its with
  |true=>dt ρ h op
  |false=>aop ρ h op
 | .conv .s2s _=>dt ρ h op
 | .app false 1 16 _ _=>match dX ρ h op with
  |some r=>some r
  |none=>match dr ρ h op with
   |some r=>some r
   |none=>aop ρ h op
 |_=>aop ρ h op
theorem tA {ρ:Opd→AV} {h:H} {dst:Option Nat} {its:List aE} {op:AOp}:mn ρ h dst its op=aop ρ h op∨((mn ρ h dst its op=dt ρ h op∨mn ρ h dst its op=dX ρ h op∨mn ρ h dst its op=dr ρ h op)∧bS op=true):=by
 unfold mn
 split
 ·split
  ·exact .inr ⟨.inl rfl,rfl⟩
  ·exact .inl rfl
 ·exact .inr ⟨.inl rfl,rfl⟩
 ·split
  ·rename_i e;exact .inr ⟨.inr (.inl e.symm),rfl⟩
  ·split
   ·rename_i e;exact .inr ⟨.inr (.inr e.symm),rfl⟩
   ·exact .inl rfl
 ·exact .inl rfl
theorem zT {σ:Sg} {ρ:Opd→AV} {h h':H} {op:AOp} {x:AV} {en:Ent} (hx:dX ρ h op=some (x,h',en)):dX ρ (h.sg σ) op=some (x,h'.sg σ,en):=by
 cases op<;>(try (simp [dX] at hx;done))
 case app str sz bytes s0 x0=>
  cases str<;>(try (simp [dX] at hx;done))
  simp only[dX] at hx ⊢
  split at hx
  ·split at hx
   ·rename_i e2
    rw[ml e2]
    simp only
    split at hx
    ·rename_i hq
     rw[if_pos hq]
     cases hx
     simp only[Option.some.injEq,Prod.mk.injEq,true_and]
     refine ⟨rfl,H.ext (fun j=>?_) rfl rfl rfl,rfl⟩
     simp only[H.sg,upd]
     by_cases h1:j=h.n
     ·simp[h1,sgO]
     ·simp only[h1,if_false]
      split<;>rfl
    ·cases hx
   ·cases hx
  ·cases hx
theorem zU {σ:Sg} {ρ:Opd→AV} {h h':H} {op:AOp} {x:AV} {en:Ent} (hx:dr ρ h op=some (x,h',en)):dr ρ (h.sg σ) op=some (x,h'.sg σ,en):=by
 cases op<;>(try (simp [dr] at hx;done))
 case app str sz bytes s0 x0=>
  cases str<;>(try (simp [dr] at hx;done))
  simp only[dr] at hx ⊢
  split at hx
  ·cases hx;rfl
  ·split at hx
   ·rename_i hq
    rw[if_pos hq]
    cases hx
    simp only[H.sg,bO]
   ·cases hx
  ·cases hx
 case buildSl sz parts=>
  simp only[dr] at hx ⊢
  split at hx
  ·rename_i hq
   rw[if_pos hq]
   cases hx
   simp only[H.sg,bO]
  ·cases hx
theorem zV {σ:Sg} {ρ:Opd→AV} {h h':H} {op:AOp} {x:AV} {en:Ent} (hx:dt ρ h op=some (x,h',en)):dt ρ (h.sg σ) op=some (x,h'.sg σ,en):=by
 cases op<;>(try (simp [dt] at hx;done))
 case buildSl sz parts=>
  simp only[dt] at hx ⊢
  split at hx
  ·rename_i hq
   rw[if_pos hq]
   cases hx
   simp only[H.sg,bO]
  ·cases hx
 case conv k x0=>
  cases k<;>(try (simp [dt] at hx;done))
  simp only[dt] at hx ⊢
  split at hx
  ·rename_i e1
   split at hx
   ·rename_i e2
    rw[ml e2]
    simp only
    split at hx
    ·rename_i hq
     rw[if_pos hq]
     cases hx
     simp only[Option.some.injEq,Prod.mk.injEq,true_and,and_true]
     refine H.ext (fun j=>?_) rfl rfl rfl
     simp only[H.sg]
     split<;>rfl
    ·cases hx
   ·cases hx
  ·cases hx
theorem tB {σ:Sg} {ρ:Opd→AV} {h h':H} {dst:Option Nat} {its:List aE} {op:AOp} {x:AV} {en:Ent} (hx:mn ρ h dst its op=some (x,h',en)):aop ρ (h.sg σ) op=some (x,h'.sg σ,en)∨((dt ρ (h.sg σ) op=some (x,h'.sg σ,en)∨dX ρ (h.sg σ) op=some (x,h'.sg σ,en)∨dr ρ (h.sg σ) op=some (x,h'.sg σ,en))∧bS op=true):=by
 rcases tA (ρ:=ρ) (h:=h) (dst:=dst) (its:=its) (op:=op) with e|⟨e|e|e,ht⟩
 ·exact .inl (Bx (e▸hx))
 ·exact .inr ⟨.inl (zV (e▸hx)),ht⟩
 ·exact .inr ⟨.inr (.inl (zT (e▸hx))),ht⟩
 ·exact .inr ⟨.inr (.inr (zU (e▸hx))),ht⟩
def tC (objs:Nat→Option Obj) (l:List Nat):List Nat:=l.flatMap fun j=>match objs j with
 |some (.cells cs)=>cV cs
 |some (.map es)=>es.flatMap fun e=>nD e.1++nD e.2
 |some (.loop N t _ _ _ _ _)=>cV ((List.range N).map t)
 |some (.raw _)=>[]
 |none=>[]
def oT:List LR→Nat→Option LR
 |[],_=>none
 |r::l,id=>match Nat.beq r.id id with
  |true=>some r
  |false=>oT l id
theorem mo:∀{L:List LR} {id:Nat} {r:LR},oT L id=some r→r∈L∧r.id=id
 |a::l,id,r,h=>by
  simp only[oT] at h
  split at h
  ·rename_i e
   cases h
   exact ⟨by simp,Nat.eq_of_beq_eq_true e⟩
  ·have:=mo h
   exact ⟨by simp[this.1],this.2⟩
def u7:List Nat→List Nat→Bool
 |[],[]=>true
 |a::l,b::m=>Nat.beq a b&&u7 l m
 |_,_=>false
theorem lu:∀{l m:List Nat},u7 l m=true→l=m
 |[],[],_=>rfl
 |a::l,b::m,h=>by
  simp only[u7,Bool.and_eq_true] at h
  rw[Nat.eq_of_beq_eq_true h.1,lu h.2]
def rT:aC→Option (Bool × LoopState × Option Code)
 | .normal=>some (true,.ready,none)
 | .ret=>some (false,.done,some .ret)
 | .exit i=>some (false,.done,some (.exit i))
 | .goto l=>some (false,.done,some (.goto l))
 | .panic _=>none
theorem u9 {e:aC} {b:Bool} {st:LoopState} {p:Option Code} (h:rT e=some (b,st,p)):eZ e b st p:=by
 cases e<;>simp only[rT,Option.some.injEq,Prod.mk.injEq,reduceCtorEq] at h<;>obtain ⟨rfl,rfl,rfl⟩:=h<;>constructor
def endLoop:Option Code→Option aC
 |none=>some .normal
 |some .ret=>some .ret
 |some (.exit i)=>some (.exit i)
 |some (.goto l)=>some (.goto l)
 |_=>none
theorem rU {p:Option Code} {e:aC} (h:endLoop p=some e):gE p e:=by
 unfold endLoop at h
 split at h<;>cases h<;>constructor
def zX:LoopState→Bool
 | .busy=>false
 |_=>true
section
variable {P:Program} {T:FT}
theorem xg (σ:Sg) (h h1 h1':H):(h.patch h1 h1').sg σ=(h.sg σ).patch (h1.sg σ) (h1'.sg σ):=by
 refine H.ext (fun j=>?_) rfl rfl rfl
 simp only[H.sg,H.patch,Option.isSome_map]
 split<;>rfl
theorem By {σ:Sg} {h1 h:H} (hs:h1.sub h):(h1.sg σ).sub (h.sg σ):=by
 refine ⟨fun j o hj=>?_,hs.2⟩
 simp only[H.sg,Option.map_eq_some_iff] at hj ⊢
 obtain ⟨o1,h2,h3⟩:=hj
 exact ⟨o1,hs.1 j o1 h2,h3⟩
theorem tD (σ:Sg) (n m:Nat):(H0 n m).sg σ=H0 n m:=H.ext (fun j=>by simp[H.sg,H0,H.only,af]) rfl rfl rfl
theorem mq (σ:Sg) (h h1 h1':H) {ids:List Nat} (hs:h1.sub h) (n:h1.n=h.n) (m:h1.m=h.m) (hi:∀id,(h1.objs id).isSome→id∈ids) (le:h.n≤h1'.n) (lem:h.m≤h1'.m):
  Touch (h.sg σ) (h1.sg σ) (h1'.sg σ) ((h.patch h1 h1').sg σ) ⟨[],ids++(List.range (h1'.n - h.n)).map (h.n+ ·),h1.toks++h1'.toks⟩:=by
 rw[xg]
 exact uX (h.sg σ) (h1.sg σ) (h1'.sg σ) (By hs) n m (fun id hx=>hi id (by simpa [H.sg] using hx)) le lem
theorem kH (σ:Sg) (f:Nat→Option Obj) (id:Nat) (M:Nat) (t:Nat→AV) (ps:List Nat) (a b:Code) (st:LoopState) (pd:Option Code):(fun j=>(upd f id (some (.loop M t ps a b st pd)) j).map (sgO (σ j)))=upd (fun j=>(f j).map (sgO (σ j))) id (some (.loop M t ps (σ id).1 (σ id).2 st pd)):=by
 funext j
 simp only[upd]
 by_cases e:j=id
 ·rw[if_pos e,if_pos e,e];rfl
 ·rw[if_neg e,if_neg e]
end
end Go.Av
end
section
namespace Go.Av
structure Hid (p:Prop):Prop where
 o:p
theorem cj2 {A0 A1:Prop} (a0:A0) (a1:A1):A0∧A1:=⟨a0,a1⟩
theorem cj3 {A0 A1 A2:Prop} (a0:A0) (a1:A1) (a2:A2):A0∧A1∧A2:=⟨a0,a1,a2⟩
theorem cj4 {A0 A1 A2 A3:Prop} (a0:A0) (a1:A1) (a2:A2) (a3:A3):A0∧A1∧A2∧A3:=⟨a0,a1,a2,a3⟩
theorem cj5 {A0 A1 A2 A3 A4:Prop} (a0:A0) (a1:A1) (a2:A2) (a3:A3) (a4:A4):A0∧A1∧A2∧A3∧A4:=⟨a0,a1,a2,a3,a4⟩
theorem cj6 {A0 A1 A2 A3 A4 A5:Prop} (a0:A0) (a1:A1) (a2:A2) (a3:A3) (a4:A4) (a5:A5):A0∧A1∧A2∧A3∧A4∧A5:=⟨a0,a1,a2,a3,a4,a5⟩
theorem cj7 {A0 A1 A2 A3 A4 A5 A6:Prop} (a0:A0) (a1:A1) (a2:A2) (a3:A3) (a4:A4) (a5:A5) (a6:A6):A0∧A1∧A2∧A3∧A4∧A5∧A6:=⟨a0,a1,a2,a3,a4,a5,a6⟩
theorem cj8 {A0 A1 A2 A3 A4 A5 A6 A7:Prop} (a0:A0) (a1:A1) (a2:A2) (a3:A3) (a4:A4) (a5:A5) (a6:A6) (a7:A7):A0∧A1∧A2∧A3∧A4∧A5∧A6∧A7:=⟨a0,a1,a2,a3,a4,a5,a6,a7⟩
theorem cj9 {A0 A1 A2 A3 A4 A5 A6 A7 A8:Prop} (a0:A0) (a1:A1) (a2:A2) (a3:A3) (a4:A4) (a5:A5) (a6:A6) (a7:A7) (a8:A8):A0∧A1∧A2∧A3∧A4∧A5∧A6∧A7∧A8:=⟨a0,a1,a2,a3,a4,a5,a6,a7,a8⟩
theorem kT {A0 A1 A2 A3 A4 A5 A6 A7 A8 A9:Prop} (a0:A0) (a1:A1) (a2:A2) (a3:A3) (a4:A4) (a5:A5) (a6:A6) (a7:A7) (a8:A8) (a9:A9):A0∧A1∧A2∧A3∧A4∧A5∧A6∧A7∧A8∧A9:=⟨a0,a1,a2,a3,a4,a5,a6,a7,a8,a9⟩
theorem oV {A0 A1 A2 A3 A4 A5 A6 A7 A8 A9 A10:Prop} (a0:A0) (a1:A1) (a2:A2) (a3:A3) (a4:A4) (a5:A5) (a6:A6) (a7:A7) (a8:A8) (a9:A9) (a10:A10):A0∧A1∧A2∧A3∧A4∧A5∧A6∧A7∧A8∧A9∧A10:=⟨a0,a1,a2,a3,a4,a5,a6,a7,a8,a9,a10⟩
theorem bj {A0 A1 A2 A3 A4 A5 A6 A7 A8 A9 A10 A11:Prop} (a0:A0) (a1:A1) (a2:A2) (a3:A3) (a4:A4) (a5:A5) (a6:A6) (a7:A7) (a8:A8) (a9:A9) (a10:A10) (a11:A11):A0∧A1∧A2∧A3∧A4∧A5∧A6∧A7∧A8∧A9∧A10∧A11:=⟨a0,a1,a2,a3,a4,a5,a6,a7,a8,a9,a10,a11⟩
theorem rn0 {F X Y:Prop} (f:F) (y:Y) (h:F→Hid Y→X:=by
 intro f y
 repeat (first
  |((first|apply Wp.bb|apply Wp.cr);(· simp only[go_sem,reduceIte,Nat.reduceEqDiff,Nat.reduceAdd,bx,ax,if_true,if_false,Nat.reduceMul,Nat.reduceLeDiff,f];exact rfl))
  |(refine ae.nil ⟨?_,?_⟩;(· first|trivial|simp[aR,aP,apart,aF]))
  |(apply Wp.aL;(· simp only[go_sem,reduceIte,Nat.reduceEqDiff,Nat.reduceAdd,bx,ax,if_true,if_false,Nat.reduceMul,Nat.reduceLeDiff,f];exact rfl);(· rfl))
  |refine Wp.skip ?_
  |refine Wp.label ?_
  |refine Wp.block ?_
  |refine Wp.exit ?_
  |refine Wp.seq ?_
  |exact y.1)):X:=h f ⟨y⟩
theorem mr {X Y:Prop} (y:Y) (h:Hid Y→X:=by
 intro y
 repeat (first
  |((first|apply Wp.bb|apply Wp.cr);(· simp only[go_sem,reduceIte,Nat.reduceEqDiff,Nat.reduceAdd,bx,ax,if_true,if_false,Nat.reduceMul,Nat.reduceLeDiff];exact rfl))
  |(refine ae.nil ⟨?_,?_⟩;(· first|trivial|simp[aR,aP,apart,aF]))
  |(apply Wp.aL;(· simp only[go_sem,reduceIte,Nat.reduceEqDiff,Nat.reduceAdd,bx,ax,if_true,if_false,Nat.reduceMul,Nat.reduceLeDiff];exact rfl);(· rfl))
  |refine Wp.skip ?_
  |refine Wp.label ?_
  |refine Wp.block ?_
  |refine Wp.exit ?_
  |refine Wp.seq ?_
  |exact y.1)):X:=h ⟨y⟩
theorem rn1 {F C0 X Y:Prop} (f:F) (c0:C0) (y:Y) (h:F→C0→Hid Y→X:=by
 intro f c0 y
 repeat (first
  |((first|apply Wp.bb|apply Wp.cr|((first
   |(refine ae.aN ?_ ?_ c0 ?_;(· simp only[go_sem,reduceIte,Nat.reduceEqDiff,Nat.reduceAdd,bx]);(· simp only[go_sem,reduceIte,Nat.reduceEqDiff,Nat.reduceAdd,bx,List.map];first|exact al.refl _|assumption|(repeat (first|exact al.nil|refine al.cons (by first|exact aa.refl _|assumption|exact aa.cap|exact aa.any _) ?_)))));apply ae.evR));(· simp only[go_sem,reduceIte,Nat.reduceEqDiff,Nat.reduceAdd,bx,ax,if_true,if_false,Nat.reduceMul,Nat.reduceLeDiff,f];exact rfl))
  |(refine ae.nil ⟨?_,?_⟩;(· first|trivial|simp[aR,aP,apart,aF]))
  |(apply Wp.aL;(· simp only[go_sem,reduceIte,Nat.reduceEqDiff,Nat.reduceAdd,bx,ax,if_true,if_false,Nat.reduceMul,Nat.reduceLeDiff,f];exact rfl);(· rfl))
  |refine Wp.skip ?_
  |refine Wp.label ?_
  |refine Wp.block ?_
  |refine Wp.exit ?_
  |refine Wp.seq ?_
  |exact y.1)):X:=h f c0 ⟨y⟩
theorem vc {C0 X Y:Prop} (c0:C0) (y:Y) (h:C0→Hid Y→X:=by
 intro c0 y
 repeat (first
  |((first|apply Wp.bb|apply Wp.cr|((first
   |(refine ae.aN ?_ ?_ c0 ?_;(· simp only[go_sem,reduceIte,Nat.reduceEqDiff,Nat.reduceAdd,bx]);(· simp only[go_sem,reduceIte,Nat.reduceEqDiff,Nat.reduceAdd,bx,List.map];first|exact al.refl _|assumption|(repeat (first|exact al.nil|refine al.cons (by first|exact aa.refl _|assumption|exact aa.cap|exact aa.any _) ?_)))));apply ae.evR));(· simp only[go_sem,reduceIte,Nat.reduceEqDiff,Nat.reduceAdd,bx,ax,if_true,if_false,Nat.reduceMul,Nat.reduceLeDiff];exact rfl))
  |(refine ae.nil ⟨?_,?_⟩;(· first|trivial|simp[aR,aP,apart,aF]))
  |(apply Wp.aL;(· simp only[go_sem,reduceIte,Nat.reduceEqDiff,Nat.reduceAdd,bx,ax,if_true,if_false,Nat.reduceMul,Nat.reduceLeDiff];exact rfl);(· rfl))
  |refine Wp.skip ?_
  |refine Wp.label ?_
  |refine Wp.block ?_
  |refine Wp.exit ?_
  |refine Wp.seq ?_
  |exact y.1)):X:=h c0 ⟨y⟩
theorem rn2 {F C0 C1 X Y:Prop} (f:F) (c0:C0) (c1:C1) (y:Y) (h:F→C0→C1→Hid Y→X:=by
 intro f c0 c1 y
 repeat (first
  |((first|apply Wp.bb|apply Wp.cr|((first
   |(refine ae.aN ?_ ?_ c0 ?_;(· simp only[go_sem,reduceIte,Nat.reduceEqDiff,Nat.reduceAdd,bx]);(· simp only[go_sem,reduceIte,Nat.reduceEqDiff,Nat.reduceAdd,bx,List.map];first|exact al.refl _|assumption|(repeat (first|exact al.nil|refine al.cons (by first|exact aa.refl _|assumption|exact aa.cap|exact aa.any _) ?_))))
   |(refine ae.aN ?_ ?_ c1 ?_;(· simp only[go_sem,reduceIte,Nat.reduceEqDiff,Nat.reduceAdd,bx]);(· simp only[go_sem,reduceIte,Nat.reduceEqDiff,Nat.reduceAdd,bx,List.map];first|exact al.refl _|assumption|(repeat (first|exact al.nil|refine al.cons (by first|exact aa.refl _|assumption|exact aa.cap|exact aa.any _) ?_)))));apply ae.evR));(· simp only[go_sem,reduceIte,Nat.reduceEqDiff,Nat.reduceAdd,bx,ax,if_true,if_false,Nat.reduceMul,Nat.reduceLeDiff,f];exact rfl))
  |(refine ae.nil ⟨?_,?_⟩;(· first|trivial|simp[aR,aP,apart,aF]))
  |(apply Wp.aL;(· simp only[go_sem,reduceIte,Nat.reduceEqDiff,Nat.reduceAdd,bx,ax,if_true,if_false,Nat.reduceMul,Nat.reduceLeDiff,f];exact rfl);(· rfl))
  |refine Wp.skip ?_
  |refine Wp.label ?_
  |refine Wp.block ?_
  |refine Wp.exit ?_
  |refine Wp.seq ?_
  |exact y.1)):X:=h f c0 c1 ⟨y⟩
theorem Ed {C0 C1 X Y:Prop} (c0:C0) (c1:C1) (y:Y) (h:C0→C1→Hid Y→X:=by
 intro c0 c1 y
 repeat (first
  |((first|apply Wp.bb|apply Wp.cr|((first
   |(refine ae.aN ?_ ?_ c0 ?_;(· simp only[go_sem,reduceIte,Nat.reduceEqDiff,Nat.reduceAdd,bx]);(· simp only[go_sem,reduceIte,Nat.reduceEqDiff,Nat.reduceAdd,bx,List.map];first|exact al.refl _|assumption|(repeat (first|exact al.nil|refine al.cons (by first|exact aa.refl _|assumption|exact aa.cap|exact aa.any _) ?_))))
   |(refine ae.aN ?_ ?_ c1 ?_;(· simp only[go_sem,reduceIte,Nat.reduceEqDiff,Nat.reduceAdd,bx]);(· simp only[go_sem,reduceIte,Nat.reduceEqDiff,Nat.reduceAdd,bx,List.map];first|exact al.refl _|assumption|(repeat (first|exact al.nil|refine al.cons (by first|exact aa.refl _|assumption|exact aa.cap|exact aa.any _) ?_)))));apply ae.evR));(· simp only[go_sem,reduceIte,Nat.reduceEqDiff,Nat.reduceAdd,bx,ax,if_true,if_false,Nat.reduceMul,Nat.reduceLeDiff];exact rfl))
  |(refine ae.nil ⟨?_,?_⟩;(· first|trivial|simp[aR,aP,apart,aF]))
  |(apply Wp.aL;(· simp only[go_sem,reduceIte,Nat.reduceEqDiff,Nat.reduceAdd,bx,ax,if_true,if_false,Nat.reduceMul,Nat.reduceLeDiff];exact rfl);(· rfl))
  |refine Wp.skip ?_
  |refine Wp.label ?_
  |refine Wp.block ?_
  |refine Wp.exit ?_
  |refine Wp.seq ?_
  |exact y.1)):X:=h c0 c1 ⟨y⟩
theorem rn3 {F C0 C1 C2 X Y:Prop} (f:F) (c0:C0) (c1:C1) (c2:C2) (y:Y) (h:F→C0→C1→C2→Hid Y→X:=by
 intro f c0 c1 c2 y
 repeat (first
  |((first|apply Wp.bb|apply Wp.cr|((first
   |(refine ae.aN ?_ ?_ c0 ?_;(· simp only[go_sem,reduceIte,Nat.reduceEqDiff,Nat.reduceAdd,bx]);(· simp only[go_sem,reduceIte,Nat.reduceEqDiff,Nat.reduceAdd,bx,List.map];first|exact al.refl _|assumption|(repeat (first|exact al.nil|refine al.cons (by first|exact aa.refl _|assumption|exact aa.cap|exact aa.any _) ?_))))
   |(refine ae.aN ?_ ?_ c1 ?_;(· simp only[go_sem,reduceIte,Nat.reduceEqDiff,Nat.reduceAdd,bx]);(· simp only[go_sem,reduceIte,Nat.reduceEqDiff,Nat.reduceAdd,bx,List.map];first|exact al.refl _|assumption|(repeat (first|exact al.nil|refine al.cons (by first|exact aa.refl _|assumption|exact aa.cap|exact aa.any _) ?_))))
   |(refine ae.aN ?_ ?_ c2 ?_;(· simp only[go_sem,reduceIte,Nat.reduceEqDiff,Nat.reduceAdd,bx]);(· simp only[go_sem,reduceIte,Nat.reduceEqDiff,Nat.reduceAdd,bx,List.map];first|exact al.refl _|assumption|(repeat (first|exact al.nil|refine al.cons (by first|exact aa.refl _|assumption|exact aa.cap|exact aa.any _) ?_)))));apply ae.evR));(· simp only[go_sem,reduceIte,Nat.reduceEqDiff,Nat.reduceAdd,bx,ax,if_true,if_false,Nat.reduceMul,Nat.reduceLeDiff,f];exact rfl))
  |(refine ae.nil ⟨?_,?_⟩;(· first|trivial|simp[aR,aP,apart,aF]))
  |(apply Wp.aL;(· simp only[go_sem,reduceIte,Nat.reduceEqDiff,Nat.reduceAdd,bx,ax,if_true,if_false,Nat.reduceMul,Nat.reduceLeDiff,f];exact rfl);(· rfl))
  |refine Wp.skip ?_
  |refine Wp.label ?_
  |refine Wp.block ?_
  |refine Wp.exit ?_
  |refine Wp.seq ?_
  |exact y.1)):X:=h f c0 c1 c2 ⟨y⟩
theorem rn4 {F C0 C1 C2 C3 X Y:Prop} (f:F) (c0:C0) (c1:C1) (c2:C2) (c3:C3) (y:Y) (h:F→C0→C1→C2→C3→Hid Y→X:=by
 intro f c0 c1 c2 c3 y
 repeat (first
  |((first|apply Wp.bb|apply Wp.cr|((first
   |(refine ae.aN ?_ ?_ c0 ?_;(· simp only[go_sem,reduceIte,Nat.reduceEqDiff,Nat.reduceAdd,bx]);(· simp only[go_sem,reduceIte,Nat.reduceEqDiff,Nat.reduceAdd,bx,List.map];first|exact al.refl _|assumption|(repeat (first|exact al.nil|refine al.cons (by first|exact aa.refl _|assumption|exact aa.cap|exact aa.any _) ?_))))
   |(refine ae.aN ?_ ?_ c1 ?_;(· simp only[go_sem,reduceIte,Nat.reduceEqDiff,Nat.reduceAdd,bx]);(· simp only[go_sem,reduceIte,Nat.reduceEqDiff,Nat.reduceAdd,bx,List.map];first|exact al.refl _|assumption|(repeat (first|exact al.nil|refine al.cons (by first|exact aa.refl _|assumption|exact aa.cap|exact aa.any _) ?_))))
   |(refine ae.aN ?_ ?_ c2 ?_;(· simp only[go_sem,reduceIte,Nat.reduceEqDiff,Nat.reduceAdd,bx]);(· simp only[go_sem,reduceIte,Nat.reduceEqDiff,Nat.reduceAdd,bx,List.map];first|exact al.refl _|assumption|(repeat (first|exact al.nil|refine al.cons (by first|exact aa.refl _|assumption|exact aa.cap|exact aa.any _) ?_))))
   |(refine ae.aN ?_ ?_ c3 ?_;(· simp only[go_sem,reduceIte,Nat.reduceEqDiff,Nat.reduceAdd,bx]);(· simp only[go_sem,reduceIte,Nat.reduceEqDiff,Nat.reduceAdd,bx,List.map];first|exact al.refl _|assumption|(repeat (first|exact al.nil|refine al.cons (by first|exact aa.refl _|assumption|exact aa.cap|exact aa.any _) ?_)))));apply ae.evR));(· simp only[go_sem,reduceIte,Nat.reduceEqDiff,Nat.reduceAdd,bx,ax,if_true,if_false,Nat.reduceMul,Nat.reduceLeDiff,f];exact rfl))
  |(refine ae.nil ⟨?_,?_⟩;(· first|trivial|simp[aR,aP,apart,aF]))
  |(apply Wp.aL;(· simp only[go_sem,reduceIte,Nat.reduceEqDiff,Nat.reduceAdd,bx,ax,if_true,if_false,Nat.reduceMul,Nat.reduceLeDiff,f];exact rfl);(· rfl))
  |refine Wp.skip ?_
  |refine Wp.label ?_
  |refine Wp.block ?_
  |refine Wp.exit ?_
  |refine Wp.seq ?_
  |exact y.1)):X:=h f c0 c1 c2 c3 ⟨y⟩
theorem an0 {F X Y:Prop} (f:F) (y:Y) (h:F→Hid Y→X:=by
 intro f y
 repeat (first
  |((first|apply Wp.seqItems|apply Wp.items);(· simp only[go_sem,reduceIte,Nat.reduceEqDiff,Nat.reduceAdd,bx,ax,if_true,if_false,Nat.reduceMul,Nat.reduceLeDiff,f];exact rfl))
  |(refine ae.nil ⟨?_,?_⟩;(· first|trivial|simp[aR,aP,apart,aF]))
  |(apply Wp.aL;(· simp only[go_sem,reduceIte,Nat.reduceEqDiff,Nat.reduceAdd,bx,ax,if_true,if_false,Nat.reduceMul,Nat.reduceLeDiff,f];exact rfl);(· rfl))
  |refine Wp.skip ?_
  |refine Wp.label ?_
  |refine Wp.block ?_
  |refine Wp.exit ?_
  |refine Wp.seq ?_
  |exact y.1)):X:=h f ⟨y⟩
theorem an1 {F C0 X Y:Prop} (f:F) (c0:C0) (y:Y) (h:F→C0→Hid Y→X:=by
 intro f c0 y
 repeat (first
  |((first|apply Wp.seqItems|apply Wp.items|((first
   |(refine ae.aN ?_ ?_ c0 ?_;(· simp only[go_sem,reduceIte,Nat.reduceEqDiff,Nat.reduceAdd,bx]);(· simp only[go_sem,reduceIte,Nat.reduceEqDiff,Nat.reduceAdd,bx,List.map];first|exact al.refl _|assumption|(repeat (first|exact al.nil|refine al.cons (by first|exact aa.refl _|assumption|exact aa.cap|exact aa.any _) ?_)))));apply ae.eval));(· simp only[go_sem,reduceIte,Nat.reduceEqDiff,Nat.reduceAdd,bx,ax,if_true,if_false,Nat.reduceMul,Nat.reduceLeDiff,f];exact rfl))
  |(refine ae.nil ⟨?_,?_⟩;(· first|trivial|simp[aR,aP,apart,aF]))
  |(apply Wp.aL;(· simp only[go_sem,reduceIte,Nat.reduceEqDiff,Nat.reduceAdd,bx,ax,if_true,if_false,Nat.reduceMul,Nat.reduceLeDiff,f];exact rfl);(· rfl))
  |refine Wp.skip ?_
  |refine Wp.label ?_
  |refine Wp.block ?_
  |refine Wp.exit ?_
  |refine Wp.seq ?_
  |exact y.1)):X:=h f c0 ⟨y⟩
end Go.Av
end
section
namespace Go.Av
section
variable {P:Program} {N:Nat} {o:Oper} {t:Tm} {h:H} {en:Ent}
end
end Go.Av
end
section
namespace Go.Av
section
variable {P:Program} {N:Nat}
theorem Ends.same {l:List Fr} {n m:Nat} {Q:AV→List Fr→Prop} {q r:AV} {h:H} (ok:Ok l n (ks l) m) (hs:aa q r) (hk:∀j,j<n→h.objs j=lay l j) (hn:n≤h.n) (hm:m≤h.m) (ht:∀t∈ks l,t∈h.toks) (hq:Q r l):Ends l n m Q q h r l where
 sub:=hs
 ole j o hj:=by
  refine ⟨o,?_,cD.refl _⟩
  rcases Nat.lt_or_ge j n with e|e
  ·rw[hk j e];exact hj
  ·rw[ok.Bw e] at hj;cases hj
 tk:=ht
 ok:=ok.grow hn hm
 new j:=by
  cases h:lay l j with
  |none=>exact .inr (.inr rfl)
  |some o=>exact .inr (.inl rfl)
 knew t ht:= .inl ht
 q:=hq
theorem Ok.lt {F:Fr} {l:List Fr} {n m j:Nat} {T:List Nat} {o:Obj} (ok:Ok l n T m) (hF:F∈l) (h:F.o j=some o):j<n:=by
 rcases Nat.lt_or_ge j n with e|e
 ·exact e
 ·rw[ok.bd F hF j e] at h;cases h
theorem Ok.at {F:Fr} {A B:List Fr} {n m j:Nat} {T:List Nat} {o:Obj} (ok:Ok (A++F::B) n T m) (h:F.o j=some o):lay (A++F::B) j=some o:=by
 rw[rN,wX,h]
 have:lay A j=none:=jE.2 fun F' hF'=>by
  rcases (List.pairwise_append.1 ok.dj).2.2 F' hF' F (by simp) j with e|e
  ·exact e
  ·rw[e] at h;cases h
 rw[this];rfl
theorem Ok.sub {l:List Fr} {n m:Nat} {T:List Nat} (ok:Ok l n T m) {F:Fr} (hF:F∈l):∀j o,F.o j=some o→lay l j=some o:=by
 intro j o h
 obtain ⟨A,B,rfl⟩:=List.append_of_mem hF
 exact ok.at h
end
end Go.Av
end
section
namespace Go.Av
section
variable {P:Program} {N:Nat} {Q:aC→St→Prop}
structure On (l0:List Fr) (n0 m0:Nat) (l:List Fr) (n:Nat) (T:List Nat) (m:Nat):Prop where
 gn:n0≤n
 gm:m0≤m
 ok:Ok l n T m
 wi:Wi l0 n0 l
 ki:Ki l0 m0 l
theorem On.refl {l:List Fr} {n m:Nat} {T:List Nat} (ok:Ok l n T m):On l n m l n T m:=⟨Nat.le_refl _,Nat.le_refl _,ok,.refl,.refl⟩
theorem On.step {l0 l l':List Fr} {n0 m0 n m n' m':Nat} {T T':List Nat} (a:On l0 n0 m0 l n T m) (b:On l n m l' n' T' m'):On l0 n0 m0 l' n' T' m':=
 ⟨Nat.le_trans a.gn b.gn,Nat.le_trans a.gm b.gm,b.ok,a.wi.trans a.gn b.wi,a.ki.trans a.gm b.ki⟩
theorem Ok.more {l:List Fr} {n m:Nat} {T:List Nat} (ok:Ok l n T m) (o:Obj):Ok (ob n o::l) (n+1) T m where
 bd F hF j hj:=by
  rcases List.mem_cons.1 hF with rfl|hF
  ·rw[zI,if_neg (by omega)]
  ·exact ok.bd F hF j (by omega)
 dj:=List.pairwise_cons.2 ⟨fun F hF j=>by
  rw[zI]
  by_cases e:j=n
  ·exact .inr (ok.bd F hF j (by omega))
  ·exact .inl (if_neg e),ok.dj⟩
 tk t ht:=ok.tk t (by simpa [ks,ob] using ht)
 td:=List.pairwise_cons.2 ⟨fun F hF t ht=>by simp[ob] at ht,ok.td⟩
 tb:=ok.tb
theorem Ok.alone {i:Nat} {o:Obj} {l:List Fr} {n m:Nat} {T:List Nat} (ok:Ok (ob i o::l) n T m):lay l i=none:=ok.old (by simp[zI])
theorem Ok.bQ {i:Nat} {o o':Obj} {l:List Fr} {n m:Nat} {T:List Nat} (ok:Ok (ob i o::l) n T m):Ok (ob i o'::l) n T m:=by
 have hi:i<n:=ok.lt (by simp) (j:=i) (F:=ob i o) (o:=o) (by simp[zI])
 have:=ok.put (i:=i) (o:=o') ok.alone hi
 have e:(⟨upd (ob i o).o i (some o'),(ob i o).k⟩:Fr)=ob i o':=by
  simp only[ob,Fr.mk.injEq,and_true]
  funext j
  simp only[upd,af]
  split<;>rfl
 rwa [e] at this
theorem On.put {F:Fr} {l:List Fr} {i:Nat} {o:Obj} {n m:Nat} {T:List Nat} (ok:Ok (F::l) n T m) (h:(F.o i).isSome=true):On (F::l) n m (⟨upd F.o i (some o),F.k⟩::l) n T m:=by
 have hn:i<n:=by
  obtain ⟨x,hx⟩:=Option.isSome_iff_exists.1 h
  exact ok.lt (by simp) hx
 refine ⟨Nat.le_refl _,Nat.le_refl _,ok.put (ok.old h) hn,fun j=>?_,fun t ht=> .inl (by simpa [ks] using ht)⟩
 simp only[lay,upd]
 by_cases e:j=i
 ·subst e
  right;left
  obtain ⟨x,hx⟩:=Option.isSome_iff_exists.1 h
  rw[hx];rfl
 ·rw[if_neg e]
  cases hh:(F.o j).or (lay l j) with
  |none=>exact .inr (.inr rfl)
  |some x=>exact .inr (.inl rfl)
theorem eY.le {id:Nat} {args:List AV} {h h' h'':H} {r r':AV} (hc:eY P id args h r h') (hs:aa r r') (hl:HLe h' h'') (n:h'.n=h''.n) (m:h'.m=h''.m):eY P id args h r' h'':=by
 intro G w vs hd hv R F
 obtain ⟨fn,tmps,assign,body,q1,q2⟩:=hc G w vs hd hv R (by unfold bD at F ⊢;rwa [n,m])
 refine ⟨fn,tmps,assign,body,q1,q2.mono ?_⟩
 rintro e w' ⟨v,G',rfl,T,R',V⟩
 exact ⟨v,G',rfl,T.trans R R' (Trans.le hl (by omega) (by omega)),R'.le hl,hs G' w' v V⟩
end
end Go.Av
end
section
namespace Go.Av
section
variable {P:Program}
end
end Go.Av
end
section
namespace Go.Av
section
variable {P:Program} {N:Nat}
end
end Go.Av
end
section
namespace Go.Av
theorem ay {Y X:Prop} (y:Y) (h:Hid Y→X:=by
 intro y
 refine Wp.ret ⟨trivial,_,rfl,?_⟩
 simp only[go_sem,reduceIte,Nat.reduceEqDiff,Nat.reduceAdd,bx]
 exact y.1):X:=h ⟨y⟩
theorem xSu {X:Prop} (h:X:=by
 refine aI.tm (by simp only[az,go_sem,reduceIte,Nat.reduceEqDiff,Nat.reduceAdd,bx];and_intros<;>first|exact trivial|exact aa.refl _|exact aa.any _|(refine aa.int ?_;omega))):X:=h
theorem xSb {X:Prop} (h:X:=by
 simp only[az,go_sem,reduceIte,Nat.reduceEqDiff,Nat.reduceAdd,bx];and_intros<;>first|exact trivial|exact aa.refl _|exact aa.any _|(refine aa.int ?_;omega)):X:=h
theorem xA1 {X:Prop} (h:X:=by simp only[go_sem,reduceIte,Nat.reduceEqDiff,Nat.reduceAdd,bx];exact rfl):X:=h
theorem xA2 {X:Prop} (h:X:=by simp only[go_sem,reduceIte,Nat.reduceEqDiff,Nat.reduceAdd,bx]):X:=h
theorem xA4 {X:Prop} (h:X:=by simp only[go_sem,reduceIte,Nat.reduceEqDiff,List.map];exact al.refl _):X:=h
theorem xA5 {X:Prop} (h:X:=by first|exact aa.refl _|assumption|exact aa.cap|exact aa.any _):X:=h
theorem xA6 {X:Prop} (h:X:=by simp only[go_sem,reduceIte,Nat.reduceEqDiff,Nat.reduceAdd,bx,List.map];exact rfl):X:=h
theorem xA7 {X:Prop} (h:X:=by simp only[go_sem,reduceIte,Nat.reduceEqDiff,List.map];exact rfl):X:=h
theorem ixF {j n:Nat} (h:j<n) (hn:n≤9223372036854775806):decide ((j:Int)<(n:Int))=true∧(0:Int)≤(j:Int)∧(j:Int)<(n:Int)∧IntKind.i64.wrap ((j:Int)+1)=((j+1:Nat):Int):=
 ⟨decide_eq_true (by omega),by omega,by omega,by rw[IntWalk.i64_in _ (by omega)];omega⟩
theorem ixE (n:Nat):decide ((n:Int)<(n:Int))=false:=decide_eq_false (by omega)
theorem zY {G:aD} {h:H} {w w':World} {id:Nat} {cs xs:List AV} {vs rest:List Value} {T0:TypeId} {fr:Nat × Nat} (R:aK G h w) (ho:h.objs id=some (.cells cs)) (ht:h.toks=[]) (hs:w.heap.size≤w'.heap.size) (hos:w'.os=w.os) (hou:w'.output=w.output)
  (hk:∀b,b<w.heap.size→b≠G.ι id→w'.heap[b]? =w.heap[b]?) (hf:aU w.heap[G.ι id]? w'.heap[G.ι id]?) (hl:vs.length=xs.length) (hE:∀G w,aq G w xs vs)
  (h1:∀v∈vs,One v) (hg:w'.heap[G.ι id]? =some (.cells (vs++rest).toArray T0 fr)) (hfr:fr.1=fr.2):
  Trans G w h G w' {h with objs:=upd h.objs id (some (.cells xs))}∧aK G {h with objs:=upd h.objs id (some (.cells xs))} w':=by
 obtain ⟨i1,i2,i3,i4⟩:=R.obj id _ ho
 have hO:∀b,¬h.O G b→b≠G.ι id:=fun b hh e=>hh ⟨id,_,ho,e.symm⟩
 have hd:∀{j o},upd h.objs id (some (Obj.cells xs)) j=some o→(j=id∧o= .cells xs)∨(j≠id∧h.objs j=some o):=by
  intro j o a
  simp only[upd] at a
  split at a
  ·cases a;exact .inl ⟨by assumption,rfl⟩
  ·exact .inr ⟨‹_›,a⟩
 have T:Trans G w h G w' {h with objs:=upd h.objs id (some (.cells xs))}:=by
  constructor
  ·exact fun _ x=>x
  ·exact fun _ x=> .inl x
  ·exact fun _ _=>rfl
  ·exact fun _ x=>x
  ·exact fun _=> .inl
  ·exact fun _ _=>rfl
  ·exact Nat.le_refl _
  ·exact Nat.le_refl _
  ·exact hs
  ·exact hos
  ·exact hou
  ·intro b hb
   by_cases e:b=G.ι id
   ·subst e;exact hf
   ·rw[hk b hb e];exact aU.refl _
  ·exact fun b hb h _=>hk b hb (hO b h)
  ·exact fun _ _ _=>Iff.rfl
  ·exact fun _ _ _ _=>rfl
  ·rintro b hb ⟨t,htt,_⟩
   simp[ht] at htt
  ·rintro b hb ⟨j,o,a,e⟩
   rcases hd a with ⟨rfl,-⟩|⟨x1,x2⟩
   ·exact ⟨_,_,ho,e⟩
   ·exact ⟨j,o,x2,e⟩
  ·rintro b _ ⟨t,htt,_⟩
   simp[ht] at htt
  ·intro j o a
   rcases hd a with ⟨rfl,-⟩|⟨x1,x2⟩
   ·exact .inl ⟨_,ho⟩
   ·exact .inl ⟨o,x2⟩
  ·exact fun t x=> .inl x
 refine ⟨T,?_⟩
 constructor
 ·intro j o a
  rcases hd a with ⟨rfl,rfl⟩|⟨x1,x2⟩
  ·exact ⟨i1,i2,Nat.lt_of_lt_of_le i3 hs,vs,rest,T0,fr,hg,hE _ _,hfr,h1⟩
  ·obtain ⟨r1,r2,r3,r4⟩:=R.obj j o x2
   have hne:G.ι j≠G.ι id:=fun e=>x1 (R.inj _ _ _ _ x2 ho e)
   refine ⟨r1,r2,Nat.lt_of_lt_of_le r3 hs,?_⟩
   rw[hk _ r3 hne]
   cases o with
   |cells cs=>
    obtain ⟨vs,rest,T',fr,y1,y2,y3⟩:=r4
    exact ⟨vs,rest,T',fr,y1,aq.mono R T _ _ y2,y3⟩
   |map es=>
    obtain ⟨en,clock,y1,y2⟩:=r4
    exact ⟨en,clock,y1,Entries.mono R T _ _ y2⟩
   |loop N t ps asg body st pend=>
    obtain ⟨r,y1,y2,y3,y4⟩:=r4
    exact ⟨r,y1,y2,fun i=>ak.mono R T _ _ (y3 i),y4⟩
   |raw c=>exact r4
 ·intro i j o o' a b e
  have ha:∃p,h.objs i=some p:=by
   rcases hd a with ⟨rfl,-⟩|⟨-,x⟩
   ·exact ⟨_,ho⟩
   ·exact ⟨_,x⟩
  have hb:∃p,h.objs j=some p:=by
   rcases hd b with ⟨rfl,-⟩|⟨-,x⟩
   ·exact ⟨_,ho⟩
   ·exact ⟨_,x⟩
  obtain ⟨p,hp⟩:=ha
  obtain ⟨q,hq⟩:=hb
  exact R.inj _ _ _ _ hp hq e
 ·exact fun t x=>by simp[ht] at x
 ·exact fun t x=>by simp[ht] at x
end Go.Av
end
section
namespace Go.Av
theorem nbf {a b:Nat} (h:a≠b):Nat.beq a b=false:=by
 cases e:Nat.beq a b with
 |false=>rfl
 |true=>exact absurd (Nat.eq_of_beq_eq_true e) h
inductive TR (α:Type) where
 |leaf (l:List (Nat × α))
 |node (a b c d:TR α)
noncomputable def sel {β:Type} (r:Nat) (a b c d:β):β:=
 Bool.rec (motive:=fun _=>β) (Bool.rec (motive:=fun _=>β) (Bool.rec (motive:=fun _=>β) d c (Nat.beq r 2)) b (Nat.beq r 1)) a (Nat.beq r 0)
theorem iw {β:Type} (r:Nat) (a b c d:β):sel r a b c d=(match Nat.beq r 0 with
 |true=>a
 |false=>match Nat.beq r 1 with
  |true=>b
  |false=>match Nat.beq r 2 with
   |true=>c
   |false=>d):=by
 unfold sel
 cases Nat.beq r 0<;>cases Nat.beq r 1<;>cases Nat.beq r 2<;>rfl
namespace TR
variable {α:Type}
noncomputable def assoc (l:List (Nat × α)) (k:Nat):Option α:=
 List.rec (motive:=fun _=>Option α) none (fun p _ ih=>Bool.rec (motive:=fun _=>Option α) ih (some p.2) (Nat.beq p.1 k)) l
noncomputable def get (t:TR α):Nat→Nat→Option α:=
 TR.rec (motive:=fun _=>Nat→Nat→Option α) (fun l _ k=>assoc l k) (fun _ _ _ _ ia ib ic id i k=>sel (Nat.mod i 4) (ia (Nat.div i 4) k) (ib (Nat.div i 4) k) (ic (Nat.div i 4) k) (id (Nat.div i 4) k)) t
noncomputable def grow (d:Nat):Nat→Nat→α→TR α:=
 Nat.rec (motive:=fun _=>Nat→Nat→α→TR α) (fun _ k x=> .leaf [(k,x)]) (fun _ ih i k x=>sel (Nat.mod i 4) (.node (ih (Nat.div i 4) k x) (.leaf []) (.leaf []) (.leaf [])) (.node (.leaf []) (ih (Nat.div i 4) k x) (.leaf []) (.leaf [])) (.node (.leaf []) (.leaf []) (ih (Nat.div i 4) k x) (.leaf [])) (.node (.leaf []) (.leaf []) (.leaf []) (ih (Nat.div i 4) k x))) d
noncomputable def put (t:TR α):Nat→Nat→Nat→α→TR α:=
 TR.rec (motive:=fun _=>Nat→Nat→Nat→α→TR α) (fun l d i k x=>match l with
  |[]=>grow d i k x
  |_::_=> .leaf ((k,x)::l))
  (fun a b c e ia ib ic ie d i k x=>sel (Nat.mod i 4) (.node (ia (Nat.pred d) (Nat.div i 4) k x) b c e) (.node a (ib (Nat.pred d) (Nat.div i 4) k x) c e) (.node a b (ic (Nat.pred d) (Nat.div i 4) k x) e) (.node a b c (ie (Nat.pred d) (Nat.div i 4) k x))) t
noncomputable def look (t:TR α) (k:Nat):Option α:=get t k k
theorem j0 {β:Type} (r:Nat) (a b c d:β):(r=0∧sel r a b c d=a)∨(r=1∧sel r a b c d=b)∨(r=2∧sel r a b c d=c)∨(r≠0∧r≠1∧r≠2∧sel r a b c d=d):=by
 rw[iw]
 by_cases h0:r=0
 ·subst h0;exact .inl ⟨rfl,rfl⟩
 ·have e0:Nat.beq r 0=false:=nbf h0
  by_cases h1:r=1
  ·subst h1;exact .inr (.inl ⟨rfl,rfl⟩)
  ·have e1:Nat.beq r 1=false:=nbf h1
   by_cases h2:r=2
   ·subst h2;exact .inr (.inr (.inl ⟨rfl,rfl⟩))
   ·have e2:Nat.beq r 2=false:=nbf h2
    exact .inr (.inr (.inr ⟨h0,h1,h2,by simp only[e0,e1,e2]⟩))
theorem mu (j:Nat) (x:α) (l:List (Nat × α)) (k:Nat):assoc ((j,x)::l) k=if k=j then some x else assoc l k:=by
 change (Bool.rec (motive:=fun _=>Option α) (assoc l k) (some x) (Nat.beq j k))=_
 by_cases h:k=j
 ·subst h;simp
 ·have:Nat.beq j k=false:=nbf fun e=>h (Eq.symm e)
  rw[this,if_neg h]
theorem jF (l:List (Nat × α)) (i k:Nat):get (.leaf l) i k=assoc l k:=rfl
theorem fe (a b c d:TR α) (i k:Nat):get (.node a b c d) i k=sel (i%4) (get a (i/4) k) (get b (i/4) k) (get c (i/4) k) (get d (i/4) k):=rfl
theorem vd (i k:Nat) (x:α):grow 0 i k x= .leaf [(k,x)]:=rfl
theorem nK (d i k:Nat) (x:α):grow (d+1) i k x=sel (i%4) (.node (grow d (i/4) k x) (.leaf []) (.leaf []) (.leaf [])) (.node (.leaf []) (grow d (i/4) k x) (.leaf []) (.leaf [])) (.node (.leaf []) (.leaf []) (grow d (i/4) k x) (.leaf [])) (.node (.leaf []) (.leaf []) (.leaf []) (grow d (i/4) k x)):=rfl
theorem zZ (d i k:Nat) (x:α):put (.leaf []) d i k x=grow d i k x:=rfl
theorem xh (p:Nat × α) (l:List (Nat × α)) (d i k:Nat) (x:α):put (.leaf (p::l)) d i k x= .leaf ((k,x)::p::l):=rfl
theorem xi (a b c e:TR α) (d i k:Nat) (x:α):put (.node a b c e) d i k x=sel (i%4) (.node (put a (d - 1) (i/4) k x) b c e) (.node a (put b (d - 1) (i/4) k x) c e) (.node a b (put c (d - 1) (i/4) k x) e) (.node a b c (put e (d - 1) (i/4) k x)):=rfl
theorem nL (k:Nat):assoc ([]:List (Nat × α)) k=none:=rfl
theorem p5 (x:α) (k k':Nat):∀(d i i':Nat),(k'=k→i'=i)→get (grow d i k x) i' k'=if k'=k then some x else none
 |0,i,i',h=>by rw[vd,jF,mu,nL]
 |d+1,i,i',h=>by
  have ih:=p5 x k k' d (i/4) (i'/4) (fun e=>by rw[h e])
  by_cases hk:k'=k
  ·have hi:=h hk
   subst hi
   rw[nK]
   rcases j0 (i'%4) (node (grow d (i'/4) k x) (leaf []) (leaf []) (leaf [])) (node (leaf []) (grow d (i'/4) k x) (leaf []) (leaf [])) (node (leaf []) (leaf []) (grow d (i'/4) k x) (leaf [])) (node (leaf []) (leaf []) (leaf []) (grow d (i'/4) k x)) with ⟨h0,e⟩|⟨h0,e⟩|⟨h0,e⟩|⟨h0,h1,h2,e⟩ <;>rw[e,fe]
   ·rw[h0];exact ih
   ·rw[h0];exact ih
   ·rw[h0];exact ih
   ·rcases j0 (i'%4) (get (leaf []) (i'/4) k') (get (leaf []) (i'/4) k') (get (leaf []) (i'/4) k') (get (grow d (i'/4) k x) (i'/4) k') with ⟨g0,e⟩|⟨g0,e⟩|⟨g0,e⟩|⟨g0,g1,g2,e⟩
    ·exact absurd g0 h0
    ·exact absurd g0 h1
    ·exact absurd g0 h2
    ·rw[e];exact ih
  ·rw[if_neg hk] at ih ⊢
   have en:get (leaf ([]:List (Nat × α))) (i'/4) k'=none:=rfl
   rw[nK]
   rcases j0 (i%4) (node (grow d (i/4) k x) (leaf []) (leaf []) (leaf [])) (node (leaf []) (grow d (i/4) k x) (leaf []) (leaf [])) (node (leaf []) (leaf []) (grow d (i/4) k x) (leaf [])) (node (leaf []) (leaf []) (leaf []) (grow d (i/4) k x)) with ⟨h0,e⟩|⟨h0,e⟩|⟨h0,e⟩|⟨h0,h1,h2,e⟩ <;>rw[e,fe,ih,en] <;>rw[iw] <;>(repeat' split)<;>rfl
theorem z6 (x:α) (k k':Nat) (t:TR α):∀(d i i':Nat),(k'=k→i'=i)→get (put t d i k x) i' k'=if k'=k then some x else get t i' k':=by
 induction t with
 |leaf l=>
  intro d i i' h
  cases l with
  |nil=>rw[zZ,p5 x k k' d i i' h,jF,nL]
  |cons p l=>rw[xh,jF,jF,mu]
 |node a b c e iha ihb ihc ihe=>
  intro d i i' h
  have ha:=iha (d - 1) (i/4) (i'/4) (fun e=>by rw[h e])
  have hb:=ihb (d - 1) (i/4) (i'/4) (fun e=>by rw[h e])
  have hc:=ihc (d - 1) (i/4) (i'/4) (fun e=>by rw[h e])
  have he:=ihe (d - 1) (i/4) (i'/4) (fun e=>by rw[h e])
  rw[xi]
  by_cases hk:k'=k
  ·have hi:=h hk
   subst hi
   rw[if_pos hk] at ha hb hc he ⊢
   rw[iw]
   split
   ·rename_i q;rw[fe,iw,q];exact ha
   ·rename_i q
    split
    ·rename_i q2;rw[fe,iw,q];simp only[q2];exact hb
    ·rename_i q2
     split
     ·rename_i q3;rw[fe,iw,q];simp only[q2,q3];exact hc
     ·rename_i q3;rw[fe,iw,q];simp only[q2,q3];exact he
  ·rw[if_neg hk] at ha hb hc he ⊢
   rw[iw]
   (repeat' split)<;>simp only[fe,ha,hb,hc,he]
end TR
noncomputable def TR.set {α:Type} (t:TR α) (d k:Nat) (x:α):TR α:=TR.put t d k k x
theorem TR.ix {α:Type} (t:TR α) (d k:Nat) (x:α) (j:Nat):(t.set d k x).look j=if j=k then some x else t.look j:=
 TR.z6 x k j t d k j (fun e=>e)
noncomputable def TR.env (t:TR AV):Tm:=fun i=>Option.rec (motive:=fun _=>AV) .any (fun x=>x) (t.look i)
noncomputable def kV (t:TR AV) (d:Option Nat) (x:AV):TR AV:=
 Option.rec (motive:=fun _=>TR AV) t (fun d=>t.set 4 d x) d
theorem jG (t:TR AV) (d:Option Nat) (x:AV):(kV t d x).env=aY t.env d x:=by
 cases d with
 |none=>rfl
 |some d=>
  funext i
  simp only[kV,aY,TR.env,TR.ix,upd]
  by_cases h:i=d<;>simp[h]
noncomputable def kI (l:List AV):Nat→TR AV→TR AV:=
 List.rec (motive:=fun _=>Nat→TR AV→TR AV) (fun _ t=>t) (fun x _ ih i t=>ih (Nat.succ i) (t.set 4 i x)) l
theorem nM:∀(l:List AV) (i:Nat) (t:TR AV) (j:Nat),(kI l i t).env j=if i≤j∧j<i+l.length then l.getD (j - i) .any else t.env j
 |[],i,t,j=>by
  change t.env j=_
  rw[if_neg (by simp)]
 |x::l,i,t,j=>by
  change (kI l (i+1) (t.set 4 i x)).env j=_
  rw[nM l (i+1) _ j]
  have e:(t.set 4 i x).env j=if j=i then x else t.env j:=by
   simp only[TR.env,TR.ix]
   by_cases h:j=i<;>simp[h]
  rw[e]
  by_cases h:j=i
  ·subst h
   rw[if_neg (by omega),if_pos rfl,if_pos (by simp)]
   simp
  ·rw[if_neg h]
   by_cases h2:i+1≤j∧j<i+1+l.length
   ·rw[if_pos h2,if_pos (by simp;omega)]
    have:j - i=(j - (i+1))+1:=by omega
    rw[this,List.getD_cons_succ]
   ·rw[if_neg h2,if_neg (by simp;omega)]
theorem rW (l:List AV):(kI l 0 (.leaf [])).env=fw l:=by
 funext j
 rw[nM]
 unfold fw
 by_cases h:j<l.length
 ·rw[if_pos ⟨Nat.zero_le _,by omega⟩,Nat.sub_zero]
 ·rw[if_neg (by omega)]
  have:l.getD j .any= .any:=by simp[List.getD,List.getElem?_eq_none (Nat.le_of_not_lt h)]
  rw[this];rfl
noncomputable def rX (t:Tm):Nat→TR AV:=fun N=>Nat.rec (motive:=fun _=>TR AV) (.leaf []) (fun i ih=>ih.set 4 i (t i)) N
theorem p6 (t:Tm):∀(N j:Nat),(rX t N).env j=if j<N then t j else .any
 |0,j=>by rw[if_neg (by omega)];rfl
 |N+1,j=>by
  change ((rX t N).set 4 N (t N)).env j=_
  have e:((rX t N).set 4 N (t N)).env j=if j=N then t N else (rX t N).env j:=by
   simp only[TR.env,TR.ix]
   by_cases h:j=N<;>simp[h]
  rw[e,p6 t N j]
  by_cases h:j=N
  ·subst h;rw[if_pos rfl,if_pos (by omega)]
  ·rw[if_neg h]
   by_cases h2:j<N
   ·rw[if_pos h2,if_pos (by omega)]
   ·rw[if_neg h2,if_neg (by omega)]
theorem z7 (t:Tm) (N:Nat) (h:H):aI ⟨t,h⟩ ⟨(rX t N).env,h⟩:=
 aI.mk' (fun i=>by
  simp only[p6]
  split
  ·exact aa.refl _
  ·exact aa.any _) (H.sub.le ⟨fun j o hj=>hj,fun t x=>x⟩) (Nat.le_refl _) (Nat.le_refl _)
structure HZ where
 o:TR (Option Obj)
 n:Nat
 toks:List Nat
 m:Nat
noncomputable def HZ.at (h:HZ) (j:Nat):Option Obj:=Option.rec (motive:=fun _=>Option Obj) none (fun x=>x) (h.o.look j)
theorem HZ.nN (h:HZ) (j:Nat):h.at j=(match h.o.look j with|some x=>x|none=>none):=by
 unfold HZ.at
 cases h.o.look j<;>rfl
noncomputable def HZ.hp (h:HZ):H:=⟨h.at,h.n,h.toks,h.m⟩
noncomputable def HZ.set (h:HZ) (j:Nat) (x:Option Obj):HZ:=⟨h.o.set 6 j x,h.n,h.toks,h.m⟩
theorem HZ.Bz (h:HZ) (j:Nat) (x:Option Obj) (i:Nat):(h.set j x).at i=if i=j then x else h.at i:=by
 simp only[HZ.nN,HZ.set,TR.ix]
 by_cases e:i=j<;>simp[e]
theorem HZ.p7 (h:HZ) (j:Nat) (x:Option Obj):(h.set j x).at=upd h.at j x:=by
 funext i;rw[HZ.Bz];rfl
noncomputable def fI (f:Nat→Option Obj) (l:List Nat):TR (Option Obj)→TR (Option Obj):=
 List.rec (motive:=fun _=>TR (Option Obj)→TR (Option Obj)) (fun t=>t) (fun j _ ih t=>ih (t.set 6 j (f j))) l
theorem fB (f:Nat→Option Obj):∀(l:List Nat) (t:TR (Option Obj)) (i:Nat),(match (fI f l t).look i with|some x=>x|none=>none)=if i∈l then f i else (match t.look i with|some x=>x|none=>none)
 |[],t,i=>by
  change (match t.look i with|some x=>x|none=>none)=_
  simp
 |j::l,t,i=>by
  change (match (fI f l (t.set 6 j (f j))).look i with|some x=>x|none=>none)=_
  rw[fB f l _ i,TR.ix]
  by_cases h1:i∈l
  ·rw[if_pos h1,if_pos (by simp[h1])]
  ·rw[if_neg h1]
   by_cases h2:i=j
   ·subst h2;simp
   ·rw[if_neg h2,if_neg (by simp[h1,h2])]
def fJ (a b:Nat):List Nat:=(List.range (b - a)).map (a+ ·)
theorem rY {a b j:Nat}:j∈fJ a b↔a≤j∧j<b:=by
 simp only[fJ,List.mem_map,List.mem_range]
 constructor
 ·rintro ⟨x,h1,rfl⟩;omega
 ·rintro ⟨h1,h2⟩;exact ⟨j - a,by omega,by omega⟩
noncomputable def HZ.patch (h:HZ) (ids:List Nat) (tk:List Nat) (h':HZ):HZ:=
 ⟨fI h'.at (ids.filter (fun j=>(h.at j).isSome)++fJ h.n h'.n) h.o,h'.n,h'.toks++h.toks.filter (fun t=> !tk.contains t),h'.m⟩
theorem HZ.xj (h h':HZ) (h1:H) (ids tk:List Nat) (hn:h1.n=h.n) (hi:∀j,(h1.objs j).isSome=(ids.contains j&&(h.at j).isSome)) (ht:h1.toks=tk):(h.patch ids tk h').hp=h.hp.patch h1 h'.hp:=by
 refine H.ext (fun j=>?_) rfl (by rw[←ht];rfl) rfl
 change (h.patch ids tk h').at j=if (h1.objs j).isSome∨(h1.n≤j∧j<h'.n) then h'.at j else h.at j
 rw[HZ.nN]
 change (match (fI h'.at (ids.filter (fun j=>(h.at j).isSome)++fJ h.n h'.n) h.o).look j with|some x=>x|none=>none)=_
 rw[fB,←HZ.nN]
 have e:(j∈ids.filter (fun j=>(h.at j).isSome)++fJ h.n h'.n)↔((h1.objs j).isSome∨(h1.n≤j∧j<h'.n)):=by
  rw[List.mem_append,rY,List.mem_filter,hn,hi]
  simp
 by_cases h2:j∈ids.filter (fun j=>(h.at j).isSome)++fJ h.n h'.n
 ·rw[if_pos h2,if_pos (e.1 h2)]
 ·rw[if_neg h2,if_neg (fun q=>h2 (e.2 q))]
noncomputable def HZ.cut (h:HZ) (ids toks:List Nat):HZ:=⟨fI h.at ids (.leaf []),h.n,h.toks.filter fun t=>toks.contains t,h.m⟩
theorem HZ.xk (h:HZ) (ids toks:List Nat):(h.cut ids toks).hp=h.hp.cut ids toks:=by
 refine H.ext (fun j=>?_) rfl rfl rfl
 change (h.cut ids toks).at j=match ids.contains j with|true=>h.at j|false=>none
 rw[HZ.nN]
 change (match (fI h.at ids (.leaf [])).look j with|some x=>x|none=>none)=_
 rw[fB]
 by_cases h2:j∈ids
 ·rw[if_pos h2];simp[h2]
 ·rw[if_neg h2];simp[h2];rfl
def HZ0 (n m:Nat):HZ:=⟨.leaf [],n,[],m⟩
theorem rZ (n m:Nat):(HZ0 n m).hp=H0 n m:=H.ext (fun _=>rfl) rfl rfl rfl
structure OpZ where
 run:(Opd→AV)→H→Option (AV × H × Ent)
def compile:AOp→OpZ
 | .mov x=>⟨fun ρ h=>some (ρ x,h,aF)⟩
 | .pick c a b=>⟨fun ρ h=>match ρ c with
   | .bool c=>some (if c then ρ a else ρ b,h,aF)
   |_=>none⟩
 | .alloc zero=>⟨fun ρ h=>if zero.all bf then some (.ptr h.n 0,{h with objs:=upd h.objs h.n (some (.cells zero)),n:=h.n+1},⟨[],[h.n],[]⟩) else none⟩
 | .box x=>⟨fun ρ h=>match ρ x with
   | .agg cs=>if cs.all bf then some (.ptr h.n 0,{h with objs:=upd h.objs h.n (some (.cells cs)),n:=h.n+1},⟨[],[h.n],[]⟩) else none
   |v=>if bf v then some (.ptr h.n 0,{h with objs:=upd h.objs h.n (some (.cells [v])),n:=h.n+1},⟨[],[h.n],[]⟩) else none⟩
 | .build zero parts=>⟨fun ρ h=>(cK ρ parts zero).map fun cs=>(.agg cs,h,aF)⟩
 | .buildSl sz parts=>⟨fun ρ h=>if parts.all (fun x=>(cellsOf (ρ x)).length=sz∧shaped (ρ x))∧parts.length*sz≤16777216 then some (.sl sz (parts.map ρ) (.exact parts.length),h,aF) else none⟩
 | .load n x=>⟨fun ρ h=>match ρ x with
   | .ref cs=>(part 0 n cs).map fun v=>(v,h,aF)
   | .ptr id off=>match h.objs id with
    |some (.cells cs)=>(part off n cs).map fun v=>(v,h,⟨[id],[],[]⟩)
    |_=>none
   |_=>none⟩
 | .store n x v=>⟨fun ρ h=>match ρ x with
   | .ptr id off=>match h.objs id with
    |some (.cells cs)=>if (cellsOf (ρ v)).length=n∧off+n≤cs.length∧(cellsOf (ρ v)).all bf then
      some (.any,{h with objs:=upd h.objs id (some (.cells (setAt cs off (cellsOf (ρ v)))))},⟨[],[id],[]⟩) else none
    |_=>none
   |_=>none⟩
 | .bin op x y=>⟨fun ρ h=>(bin op (ρ x) (ρ y)).map fun v=>(v,h,aF)⟩
 | .eqB neg x y=>⟨fun ρ h=>(eqB neg (ρ x) (ρ y)).map fun v=>(v,h,aF)⟩
 | .eqP neg x y=>⟨fun ρ h=>(eqP neg (ρ x) (ρ y)).map fun v=>(v,h,aF)⟩
 | .eqQ neg x y=>⟨fun ρ h=>match ρ x,ρ y with
   | .ptr i a,.ptr j b=>match h.objs i,h.objs j with
    |some (.cells _),some (.cells _)=>some (.bool (if neg then !(decide (i=j)&&decide (a=b)) else (decide (i=j)&&decide (a=b))),h,⟨[i,j],[],[]⟩)
    |_,_=>none
   | .ptr _ _,.sc (.pointer none)=>some (.bool neg,h,aF)
   | .sc (.pointer none),.sc (.pointer none)=>some (.bool (!neg),h,aF)
   |_,_=>none⟩
 | .eqN neg x=>⟨fun ρ h=>(eqN neg (ρ x)).map fun v=>(v,h,aF)⟩
 | .eqA neg ks x y=>⟨fun ρ h=>(eqA neg ks (ρ x) (ρ y)).map fun v=>(v,h,aF)⟩
 | .un op x=>⟨fun ρ h=>(unop op (ρ x)).map fun v=>(v,h,aF)⟩
 | .conv k x=>⟨fun ρ h=>match k,ρ x with
   | .toInt k,.int _ n=>some (.int k (k.wrap n),h,aF)
   | .b2s,.sl sz xs _=>if sz=1∨xs=[] then (dF xs).map fun l=>(.str l,h,aF) else none
   | .s2b,.str l=>some (.sl 1 (an l) (.own h.m),{h with toks:=h.m::h.toks,m:=h.m+1},⟨[],[],[h.m]⟩)
   | .s2b,.sup B=>some (.supb B,{h with toks:=h.m::h.toks,m:=h.m+1},⟨[],[],[h.m]⟩)
   | .idem,.str l=>some (.str l,h,aF)
   |_,_=>none⟩
 | .mkfn fn first captured=>⟨fun ρ h=>some (.clo fn (first.map ρ) (captured.map ρ),h,aF)⟩
 | .mksl sz bytes zero len cap=>⟨fun ρ h=>match ρ len,ρ cap with
   | .int _ l,.int _ c=>if 0≤l∧l≤c∧c*bytes≤140737488355328∧c<9223372036854775808∧shaped zero then
     some (.sl sz (List.replicate l.toNat zero) (.own h.m),{h with toks:=h.m::h.toks,m:=h.m+1},⟨[],[],[h.m]⟩) else none
   |_,_=>none⟩
 | .slc str sz x lo hi mx=>⟨fun ρ h=>(slice str sz (ρ x) (lo.map ρ) (hi.map ρ) (mx.map fun m=>some (ρ m))).map fun v=>(v,h,aF)⟩
 | .faddr off x=>⟨fun ρ h=>match ρ x with
   | .ref cs=>some (.ref (cs.drop off),h,aF)
   | .ptr id o=>some (.ptr id (o+off),h,aF)
   |_=>none⟩
 | .fld off n x=>⟨fun ρ h=>match ρ x with
   | .agg cs=>(part off n cs).map fun v=>(v,h,aF)
   |_=>none⟩
 | .iaddr sz x i=>⟨fun ρ h=>match ρ x,ρ i with
   | .sl s xs _,.int _ k=>if s=sz∧0≤k∧k<xs.length then (let x:=xs.getD k.toNat .any;if shaped x then some (.ref (cellsOf x),h,aF) else none) else none
   | .tsl s id off len _,.int _ k=>if s=sz∧0≤k∧k<len then some (.ptr id (off+k.toNat*sz),h,aF) else none
   |_,_=>none⟩
 | .idx x i=>⟨fun ρ h=>match ρ x,ρ i with
   | .str l,.int _ k=>if 0≤k∧k<l.length then some (byte (l.getD k.toNat 0),h,aF) else none
   |_,_=>none⟩
 | .ext x i=>⟨fun ρ h=>match ρ x with
   | .tup xs=>(xs[i]?).map fun v=>(v,h,aF)
   |_=>none⟩
 | .nilck x=>⟨fun ρ h=>match ρ x with
   | .ptr id o=>some (.ptr id o,h,aF)
   | .ref cs=>some (.ref cs,h,aF)
   |_=>none⟩
 | .len str x=>⟨fun ρ h=>match str,ρ x with
   |true,.str l=>some (.int .i64 l.length,h,aF)
   |true,.sup _=>some (.kR .i64,h,aF)
   |false,.sl _ xs _=>some (.int .i64 xs.length,h,aF)
   |false,.tsl _ _ _ n _=>some (.int .i64 n,h,aF)
   |_,_=>none⟩
 | .app str sz bytes s x=>⟨fun ρ h=>match str,ρ s,ρ x with
   |false,.sl s xs c,.sl s' ys _=>
    if (s=sz∨xs=[])∧(s'=sz∨ys=[])∧(xs.length+ys.length)*bytes≤140737488355328∧xs.length+ys.length<4611686018427387904 then
     (match c with
     | .own t=>if s=sz∧t∈h.toks then some (.sl sz (xs++ys) (.own h.m),{h with toks:=h.m::h.toks.filter (· ≠t),m:=h.m+1},⟨[],[],[t,h.m]⟩) else none
     | .exact k=>if k=xs.length then some (.sl sz (xs++ys) (.own h.m),{h with toks:=h.m::h.toks,m:=h.m+1},⟨[],[],[h.m]⟩) else none
     | .any=>none)
    else none
   |true,.sl s xs c,.str l=>
    if (s=sz∨xs=[])∧sz=1∧(xs.length+l.length)*bytes≤140737488355328∧xs.length+l.length<4611686018427387904 then
     (match c with
     | .own t=>if s=sz∧t∈h.toks then some (.sl sz (xs++an l) (.own h.m),{h with toks:=h.m::h.toks.filter (· ≠t),m:=h.m+1},⟨[],[],[t,h.m]⟩) else none
     | .exact k=>if k=xs.length then some (.sl sz (xs++an l) (.own h.m),{h with toks:=h.m::h.toks,m:=h.m+1},⟨[],[],[h.m]⟩) else none
     | .any=>none)
    else none
   |_,_,_=>none⟩
 | .appz bytes zero sz s x=>⟨fun ρ h=>match ρ s,ρ x with
   | .sl s xs c,.int .i64 n=>
    if (s=sz∨xs=[])∧0≤n∧(xs.length+n.toNat)*bytes≤140737488355328∧xs.length+n.toNat<4611686018427387904∧shaped zero∧0<bytes then
     (match c with
     | .own t=>if s=sz∧t∈h.toks then some (.sl sz (xs++List.replicate n.toNat zero) (.own h.m),{h with toks:=h.m::h.toks.filter (· ≠t),m:=h.m+1},⟨[],[],[t,h.m]⟩) else none
     | .exact k=>if k=xs.length then some (.sl sz (xs++List.replicate n.toNat zero) (.own h.m),{h with toks:=h.m::h.toks,m:=h.m+1},⟨[],[],[h.m]⟩) else none
     | .any=>none)
    else none
   |_,_=>none⟩
 | .mm mx x y=>⟨fun ρ h=>(mm mx (ρ x) (ρ y)).map fun v=>(v,h,aF)⟩
 | .clr sz zero x=>⟨fun ρ h=>match ρ x with
   | .tsl s id off len _=>if len=0 then some (.any,h,aF) else (match h.objs id with
    |some (.cells cs)=>if s=sz∧zero.length=sz∧off+len*sz≤cs.length∧zero.all bf then
      some (.any,{h with objs:=upd h.objs id (some (.cells (setAt cs off (List.replicate len zero).flatten)))},⟨[],[id],[]⟩) else none
    |_=>none)
   |_=>none⟩
 | .mkmap=>⟨fun ρ h=>some (.mp h.n,{h with objs:=upd h.objs h.n (some (.map [])),n:=h.n+1},⟨[],[h.n],[]⟩)⟩
 | .mlook zero ok x key=>⟨fun ρ h=>match ρ x,ρ key with
   | .mp id,.str k=>match h.objs id with
    |some (.map es)=>(fp k es).map fun r=>(dP zero ok r,h,⟨[id],[],[]⟩)
    |_=>none
   | .sc (.map none),.str _=>some (dP zero ok none,h,aF)
   |_,_=>none⟩
 | .mput x key v=>⟨fun ρ h=>match ρ x,ρ key with
   | .mp id,.str k=>match h.objs id with
    |some (.map es)=>(fp k es).map fun r=>(.any,{h with objs:=upd h.objs id (some (.map (s6 es k (ρ v) r)))},⟨[],[id],[]⟩)
    |_=>none
   |_,_=>none⟩
 | .mdel x key=>⟨fun ρ h=>match ρ x,ρ key with
   | .mp id,.str k=>match h.objs id with
    |some (.map es)=>(fp k es).map fun r=>(.any,{h with objs:=upd h.objs id (some (.map (s7 es r)))},⟨[],[id],[]⟩)
    |_=>none
   |_,_=>none⟩
 | .mlen x=>⟨fun ρ h=>match ρ x with
   | .mp id=>match h.objs id with
    |some (.map es)=>some (.int .i64 es.length,h,⟨[id],[],[]⟩)
    |_=>none
   | .sc (.map none)=>some (.int .i64 0,h,aF)
   |_=>none⟩
 | .eqM neg x=>⟨fun ρ h=>(eqM neg (ρ x)).map fun v=>(v,h,aF)⟩
 | .cap x=>⟨fun ρ h=>match ρ x with
   | .sl _ _ (.exact k)=>some (.int .i64 k,h,aF)
   | .tsl _ _ _ _ (some k)=>some (.int .i64 k,h,aF)
   |_=>none⟩
 | .ifc t x=>⟨fun ρ h=>some (.ifc t (ρ x),h,aF)⟩
 | .pan _=>⟨fun ρ h=>none⟩
 | .dead=>⟨fun ρ h=>none⟩
 | .raw k xs=>⟨fun ρ h=>(fq k (xs.map ρ)).map fun v=>(v,h,aF)⟩
 | .call _ _=>⟨fun ρ h=>none⟩
 | .callv _ _=>⟨fun ρ h=>none⟩
theorem p8 (op:AOp) (ρ:Opd→AV) (h:H):(compile op).run ρ h=aop ρ h op:=by
 cases op<;>rfl
theorem xm {ρ:Opd→AV} {h h':H} {op:AOp} {x:AV} {en:Ent} (hx:aop ρ h op=some (x,h',en)) {j:Nat} (hj:j∉en.wr):h'.objs j=h.objs j:=by
 cases op<;>simp only[aop] at hx
 all_goals first
  |(simp only[Option.map_eq_some_iff,Prod.mk.injEq] at hx;obtain ⟨v,h1,h2,h3,h4⟩:=hx;subst h3;rfl)
  |((repeat' split at hx)<;>simp only[Option.some.injEq,Prod.mk.injEq,Option.map_eq_some_iff,reduceCtorEq] at hx<;>first
    |(obtain ⟨h2,h3,h4⟩:=hx;subst h3 h4;simp_all [upd];done)
    |(obtain ⟨v,hv,h2,h3,h4⟩:=hx;subst h3 h4;simp_all [upd];done))
theorem ve {ρ:Opd→AV} {h h':H} {op:AOp} {x:AV} {en:Ent} (hx:dt ρ h op=some (x,h',en)) {j:Nat} (hj:j∉en.wr):h'.objs j=h.objs j:=by
 cases op<;>(try (simp [dt] at hx;done))
 case buildSl sz parts=>
  simp only[dt] at hx
  split at hx
  ·cases hx;simp_all [upd]
  ·cases hx
 case conv k x0=>
  cases k<;>(try (simp [dt] at hx;done))
  simp only[dt] at hx
  (repeat' split at hx)<;>cases hx<;>simp_all
theorem vf {ρ:Opd→AV} {h h':H} {op:AOp} {x:AV} {en:Ent} (hx:dr ρ h op=some (x,h',en)) {j:Nat} (hj:j∉en.wr):h'.objs j=h.objs j:=by
 cases op<;>(try (simp [dr] at hx;done))
 case app str sz bytes s0 x0=>
  cases str<;>(try (simp [dr] at hx;done))
  simp only[dr] at hx
  (repeat' split at hx)<;>cases hx<;>simp_all [upd]
 case buildSl sz parts=>
  simp only[dr] at hx
  (repeat' split at hx)<;>cases hx<;>simp_all [upd]
theorem vi {ρ:Opd→AV} {h h':H} {op:AOp} {x:AV} {en:Ent} (hx:dX ρ h op=some (x,h',en)) {j:Nat} (hj:j∉en.wr):h'.objs j=h.objs j:=by
 cases op<;>(try (simp [dX] at hx;done))
 case app str sz bytes s0 x0=>
  cases str<;>(try (simp [dX] at hx;done))
  simp only[dX] at hx
  (repeat' split at hx)<;>cases hx<;>simp_all [upd]
theorem vj {ρ:Opd→AV} {h h':H} {dst:Option Nat} {its:List aE} {op:AOp} {x:AV} {en:Ent} (hx:mn ρ h dst its op=some (x,h',en)) {j:Nat} (hj:j∉en.wr):h'.objs j=h.objs j:=by
 rcases tA (ρ:=ρ) (h:=h) (dst:=dst) (its:=its) (op:=op) with e|⟨e|e|e,-⟩ <;>rw[e] at hx
 ·exact xm hx hj
 ·exact ve hx hj
 ·exact vi hx hj
 ·exact vf hx hj
noncomputable def vk (h:HZ):Option (AV × H × Ent)→Option (AV × HZ × Ent)
 |none=>none
 |some r=>match r.2.2.wr with
  |[]=>some (r.1,⟨h.o,r.2.1.n,r.2.1.toks,r.2.1.m⟩,r.2.2)
  |j::l=>some (r.1,⟨fI r.2.1.objs (j::l) h.o,r.2.1.n,r.2.1.toks,r.2.1.m⟩,r.2.2)
theorem z8 {h hz:HZ} {r:Option (AV × H × Ent)} {x:AV} {en:Ent} (hf:vk h r=some (x,hz,en)) (hk:∀x h' en,r=some (x,h',en)→∀j,j∉en.wr→h'.objs j=h.at j):r=some (x,hz.hp,en):=by
 unfold vk at hf
 split at hf
 ·cases hf
 ·rename_i r0
  obtain ⟨x0,h0,en0⟩:=r0
  have hk2:=hk x0 h0 en0 rfl
  simp only at hf
  split at hf
  ·rename_i e
   cases hf
   have:h0=(⟨h.o,h0.n,h0.toks,h0.m⟩:HZ).hp:=H.ext (fun j=>hk2 j (by rw[e];simp)) rfl rfl rfl
   rw[←this]
  ·rename_i j l e
   cases hf
   have:h0=(⟨fI h0.objs (j::l) h.o,h0.n,h0.toks,h0.m⟩:HZ).hp:=H.ext (fun i=>by
    change _=(⟨fI h0.objs (j::l) h.o,h0.n,h0.toks,h0.m⟩:HZ).at i
    rw[HZ.nN]
    change _=(match (fI h0.objs (j::l) h.o).look i with|some x=>x|none=>none)
    rw[fB,←HZ.nN]
    by_cases hi:i∈j::l
    ·rw[if_pos hi]
    ·rw[if_neg hi];exact hk2 i (by rw[e];exact hi)) rfl rfl rfl
   rw[←this]
end Go.Av
end
