/- Parts of a proof: a layer of abstract values over the model, the functions' walks, plain laws. -/
import Derived.Deep.AppendSrc
import Derived.Deep.CondSized
import Derived.Defers
import Derived.IntWalk
import Derived.KernelRfl
import Derived.Laws.Append
import Derived.Laws.AppendOwn
import Derived.Laws.BytesArg
import Derived.Laws.ComplexArith
import Derived.Laws.Cover3
import Derived.Laws.Entries
import Derived.Laws.FloatBits
import Derived.Laws.IdiomCopy
import Derived.Laws.IdiomStrings
import Derived.Laws.Pointers
import Derived.Laws.Small
import Derived.Laws.Strings
import Derived.Laws.StructEq
import Derived.Lib.Small
import Derived.Lib.Walk
import Derived.MapKept
import Derived.OpenShut
import Derived.Orders
import Derived.OrdersIn
import Derived.ProofKit
import Derived.RangeFuncRecord
import Derived.RangeFuncSeq
import Derived.ReadAgain
import Derived.Recover
import Derived.Scope
import Derived.Shelf.Lay
import Derived.Shelf.SlSortCmp.InsertionK
import Derived.Shelf.SlSortCmp.WholeK
import Derived.Shelf.Spec.SlicesInsertGrow
import Derived.SizedLaws
import Derived.Tactics
import Derived.Tactics2
import Derived.Test.YtjnoobmaedgooaaGreatProg
import Derived.Test.YtjnoobmaedgooaaGreatRows
import Derived.WalkKit
import Derived.WalkSmall
set_option linter.unusedSimpArgs false
set_option linter.unusedVariables false
section
theorem NY:type_of%@Nat.le_refl:=@Nat.le_refl
theorem NZ:type_of%@Int.toNat_natCast:=@Int.toNat_natCast
theorem N0.{u}:type_of%@List.getElem?_eq_getElem.{u}:=@List.getElem?_eq_getElem
theorem N1:type_of%@decide_eq_false:=@decide_eq_false
theorem N2.{u}:type_of%@List.length_cons.{u}:=@List.length_cons
theorem N3:type_of%@decide_eq_true:=@decide_eq_true
theorem N4.{u}:type_of%@List.length_nil.{u}:=@List.length_nil
theorem N5.{u}:type_of%@if_false.{u}:=@if_false
theorem N6.{u}:type_of%@List.length_append.{u}:=@List.length_append
theorem N7.{u}:type_of%@if_neg.{u}:=@if_neg
theorem N8.{u,v}:type_of%@Option.map_eq_some_iff.{u,v}:=@Option.map_eq_some_iff
theorem N9.{u}:type_of%@if_true.{u}:=@if_true
theorem Oa:type_of%@Bool.false_eq_true:=@Bool.false_eq_true
theorem Ob:type_of%@Bool.and_eq_true:=@Bool.and_eq_true
theorem Oc.{u}:type_of%@List.mem_singleton.{u}:=@List.mem_singleton
theorem Od:type_of%@Nat.zero_add:=@Nat.zero_add
theorem Oe:type_of%@and_self:=@and_self
theorem Of.{u}:type_of%@if_pos.{u}:=@if_pos
theorem Og:type_of%@Nat.zero_le:=@Nat.zero_le
theorem Oh:type_of%@of_decide_eq_true:=@of_decide_eq_true
theorem Oi.{u}:type_of%@Option.some.injEq.{u}:=@Option.some.injEq
theorem Oj:type_of%@decide_eq_true_eq:=@decide_eq_true_eq
theorem Ol.{u,v}:type_of%@Option.map_some.{u,v}:=@Option.map_some
theorem Om.{u}:type_of%@List.mem_cons.{u}:=@List.mem_cons
theorem Oo.{u,v}:type_of%@List.mem_map.{u,v}:=@List.mem_map
theorem Oq.{u,v}:type_of%@Prod.mk.injEq.{u,v}:=@Prod.mk.injEq
theorem Ot.{u}:type_of%@List.take_length.{u}:=@List.take_length
theorem Ou.{u}:type_of%@List.getD_eq_getElem?_getD.{u}:=@List.getD_eq_getElem?_getD
theorem Ov.{u}:type_of%@List.take_succ_eq_append_getElem.{u}:=@List.take_succ_eq_append_getElem
theorem Ow:type_of%@decide_true:=@decide_true
theorem Ox:type_of%@of_decide_eq_false:=@of_decide_eq_false
theorem Oy.{u,v}:type_of%@List.map_cons.{u,v}:=@List.map_cons
theorem Oz:type_of%@Nat.le_trans:=@Nat.le_trans
theorem OB:type_of%@Bool.not_true:=@Bool.not_true
theorem OC.{u}:type_of%@List.length_drop.{u}:=@List.length_drop
theorem OD:type_of%@Nat.lt_succ_self:=@Nat.lt_succ_self
theorem OE.{u,v}:type_of%@List.map_nil.{u,v}:=@List.map_nil
theorem OG.{u}:type_of%@List.getD_cons_zero.{u}:=@List.getD_cons_zero
theorem OH.{u}:type_of%@List.all_eq_true.{u}:=@List.all_eq_true
theorem OI.{u}:type_of%@List.getElem?_append_left.{u}:=@List.getElem?_append_left
theorem OJ.{u}:type_of%@List.length_take.{u}:=@List.length_take
theorem OK:type_of%@Bool.not_false:=@Bool.not_false
theorem OL:type_of%@Int.le_refl:=@Int.le_refl
theorem OM.{u}:type_of%@List.mem_append.{u}:=@List.mem_append
theorem ON.{u}:type_of%@List.append_nil.{u}:=@List.append_nil
theorem OO:type_of%@Nat.mul_one:=@Nat.mul_one
theorem OP:type_of%@Bool.true_and:=@Bool.true_and
theorem OR.{u}:type_of%@Array.getElem?_eq_getElem.{u}:=@Array.getElem?_eq_getElem
theorem OS:type_of%@Bool.or_eq_true:=@Bool.or_eq_true
theorem OT.{u}:type_of%@List.take_of_length_le.{u}:=@List.take_of_length_le
theorem OU:type_of%@Nat.lt_of_lt_of_le:=@Nat.lt_of_lt_of_le
theorem OW:type_of%@true_or:=@true_or
theorem OX.{u}:type_of%@Array.getElem?_eq_some_iff.{u}:=@Array.getElem?_eq_some_iff
theorem OY.{u}:type_of%@List.drop_eq_nil_of_le.{u}:=@List.drop_eq_nil_of_le
theorem OZ.{u,v}:type_of%@Option.bind_eq_some_iff.{u,v}:=@Option.bind_eq_some_iff
theorem O0.{u}:type_of%@List.getElem_mem.{u}:=@List.getElem_mem
theorem O1:type_of%@List.mem_range:=@List.mem_range
theorem O2.{u,v}:type_of%@List.length_map.{u,v}:=@List.length_map
theorem O3.{u,v}:type_of%@List.map_append.{u,v}:=@List.map_append
theorem O4.{u}:type_of%@List.getElem?_eq_some_iff.{u}:=@List.getElem?_eq_some_iff
theorem O5:type_of%@Nat.sub_lt_sub_left:=@Nat.sub_lt_sub_left
theorem O6:type_of%@Bool.false_and:=@Bool.false_and
theorem O7:type_of%@Bool.and_self:=@Bool.and_self
theorem O8.{u,v}:type_of%@Option.bind_some.{u,v}:=@Option.bind_some
theorem O9:type_of%@Nat.mod_eq_of_lt:=@Nat.mod_eq_of_lt
theorem Pb.{u,v}:type_of%@congrArg.{u,v}:=@congrArg
theorem Pd.{u,v}:type_of%@List.map_congr_left.{u,v}:=@List.map_congr_left
theorem Pe.{u}:type_of%@List.drop_succ_cons.{u}:=@List.drop_succ_cons
theorem Pf.{u}:type_of%@List.cons.injEq.{u}:=@List.cons.injEq
theorem Pg.{u}:type_of%@List.getD_cons_succ.{u}:=@List.getD_cons_succ
theorem Ph.{u}:type_of%@List.take_zero.{u}:=@List.take_zero
theorem Pk.{u}:type_of%@List.mem_flatten.{u}:=@List.mem_flatten
theorem Pl:type_of%@Nat.one_mul:=@Nat.one_mul
theorem Pm.{u}:type_of%@List.mem_filter.{u}:=@List.mem_filter
theorem Pn.{u}:type_of%@List.append_assoc.{u}:=@List.append_assoc
theorem Po.{u}:type_of%@List.take_append_drop.{u}:=@List.take_append_drop
theorem Pp.{u}:type_of%@List.getElem?_eq_none.{u}:=@List.getElem?_eq_none
theorem Pq:type_of%@Go.MapKept.run_getObj_map:=@Go.MapKept.run_getObj_map
theorem Ps:type_of%@Nat.lt_or_ge:=@Nat.lt_or_ge
theorem Pu.{u}:type_of%@List.pairwise_cons.{u}:=@List.pairwise_cons
theorem Pv:type_of%@Nat.min_eq_left:=@Nat.min_eq_left
theorem Pw.{u}:type_of%@List.drop_zero.{u}:=@List.drop_zero
theorem Px:type_of%@Nat.add_mul:=@Nat.add_mul
theorem Py.{u,v}:type_of%@List.flatMap_cons.{u,v}:=@List.flatMap_cons
theorem Pz:type_of%@true_and:=@true_and
theorem PA.{u}:type_of%@List.pairwise_iff_getElem.{u}:=@List.pairwise_iff_getElem
theorem PB:type_of%@Nat.mul_le_mul_right:=@Nat.mul_le_mul_right
theorem PC.{u}:type_of%@beq_self_eq_true.{u}:=@beq_self_eq_true
theorem PD.{u}:type_of%@List.getElem?_append_right.{u}:=@List.getElem?_append_right
theorem PF:type_of%@Nat.zero_lt_one:=@Nat.zero_lt_one
theorem PG.{u}:type_of%@List.flatten_append.{u}:=@List.flatten_append
theorem PH:type_of%@Nat.add_assoc:=@Nat.add_assoc
theorem PJ:type_of%@Nat.testBit_two_pow_mul_add:=@Nat.testBit_two_pow_mul_add
theorem PK.{u,v}:type_of%@List.pairwise_map.{u,v}:=@List.pairwise_map
theorem PL:type_of%@Int.natCast_nonneg:=@Int.natCast_nonneg
theorem PM.{u}:type_of%@List.getElem?_drop.{u}:=@List.getElem?_drop
theorem PN.{u}:type_of%@List.flatten_nil.{u}:=@List.flatten_nil
theorem PO:type_of%@Nat.two_pow_pos:=@Nat.two_pow_pos
theorem PQ.{u}:type_of%@List.drop_drop.{u}:=@List.drop_drop
theorem PS:type_of%@Bool.and_false:=@Bool.and_false
theorem PT.{u}:type_of%@List.mem_of_getElem?.{u}:=@List.mem_of_getElem?
theorem PU.{u}:type_of%@Ne.symm.{u}:=@Ne.symm
theorem PV.{u}:type_of%@Array.getElem?_modify.{u}:=@Array.getElem?_modify
theorem PX.{u}:type_of%@List.drop_eq_getElem_cons.{u}:=@List.drop_eq_getElem_cons
theorem PY:type_of%@Go.MapKept.run_setObj_map:=@Go.MapKept.run_setObj_map
theorem PZ.{u}:type_of%@List.drop_nil.{u}:=@List.drop_nil
theorem P3.{u}:type_of%@Array.getElem?_push.{u}:=@Array.getElem?_push
theorem P4:type_of%@decide_eq_false_iff_not:=@decide_eq_false_iff_not
theorem P5:type_of%@and_true:=@and_true
theorem P6.{u}:type_of%@List.mem_of_mem_drop.{u}:=@List.mem_of_mem_drop
theorem P7.{u}:type_of%@List.mem_iff_getElem.{u}:=@List.mem_iff_getElem
theorem P8:type_of%@Nat.pow_le_pow_right:=@Nat.pow_le_pow_right
theorem P9:type_of%@Nat.le_succ:=@Nat.le_succ
theorem Qb.{u}:type_of%@List.length_pos_iff.{u}:=@List.length_pos_iff
theorem Qc.{u,v}:type_of%@List.getElem?_map.{u,v}:=@List.getElem?_map
theorem Qd:type_of%@Nat.lt_succ_iff_lt_or_eq:=@Nat.lt_succ_iff_lt_or_eq
theorem Qe.{u,v,w}:type_of%@List.map_map.{u,v,w}:=@List.map_map
theorem Qf.{u}:type_of%@List.length_eq_zero_iff.{u}:=@List.length_eq_zero_iff
theorem Qg.{u}:type_of%@List.take_left.{u}:=@List.take_left
theorem Qh.{u}:type_of%@beq_iff_eq.{u}:=@beq_iff_eq
theorem Qi:type_of%@UInt8.lt_iff_toNat_lt:=@UInt8.lt_iff_toNat_lt
theorem Qj.{u}:type_of%@List.take_append_of_le_length.{u}:=@List.take_append_of_le_length
theorem Qk.{u}:type_of%@Option.isSome_iff_exists.{u}:=@Option.isSome_iff_exists
theorem Ql.{u,v}:type_of%@List.mem_flatMap.{u,v}:=@List.mem_flatMap
theorem Qm.{u}:type_of%@List.mem_cons_self.{u}:=@List.mem_cons_self
theorem Qn:type_of%@List.range'_succ:=@List.range'_succ
theorem Qo:type_of%@Nat.pow_add:=@Nat.pow_add
theorem Qp:type_of%@Iff.rfl:=@Iff.rfl
theorem Qq.{u}:type_of%@Array.getElem?_setIfInBounds.{u}:=@Array.getElem?_setIfInBounds
theorem Qr:type_of%@Nat.zero_mul:=@Nat.zero_mul
theorem Qs.{u}:type_of%@List.length_eq_one_iff.{u}:=@List.length_eq_one_iff
theorem Qt:type_of%@Bool.false_or:=@Bool.false_or
theorem Qu:type_of%@Int.fdiv_eq_ediv_of_nonneg:=@Int.fdiv_eq_ediv_of_nonneg
theorem Qv:type_of%@decide_eq_decide:=@decide_eq_decide
theorem Qw:type_of%@Nat.zero_lt_succ:=@Nat.zero_lt_succ
theorem Qy:type_of%@Nat.xor_lt_two_pow:=@Nat.xor_lt_two_pow
theorem Qz:type_of%@BitVec.toNat_ofNat:=@BitVec.toNat_ofNat
theorem QC:type_of%@Nat.eq_zero_or_pos:=@Nat.eq_zero_or_pos
theorem QD.{u}:type_of%@List.length_filter_le.{u}:=@List.length_filter_le
theorem QE.{u}:type_of%@List.mem_of_find?_eq_some.{u}:=@List.mem_of_find?_eq_some
theorem QG.{u}:type_of%@List.Pairwise.imp_of_mem.{u}:=@List.Pairwise.imp_of_mem
theorem QL:type_of%@Bool.eq_iff_iff:=@Bool.eq_iff_iff
theorem QO.{u}:type_of%@List.pairwise_append.{u}:=@List.pairwise_append
theorem QQ:type_of%@Bool.or_eq_false_iff:=@Bool.or_eq_false_iff
theorem QR:type_of%@Bool.not_eq_true':=@Bool.not_eq_true'
theorem QS:type_of%@not_false_eq_true:=@not_false_eq_true
theorem QV.{u}:type_of%@List.drop_left.{u}:=@List.drop_left
theorem QW.{u}:type_of%@bne_self_eq_false.{u}:=@bne_self_eq_false
theorem QX:type_of%@Nat.mod_lt:=@Nat.mod_lt
theorem QZ.{u}:type_of%@Option.some.inj.{u}:=@Option.some.inj
theorem Q4:type_of%@UInt8.toNat_inj:=@UInt8.toNat_inj
end
section
theorem aa{p:Prop}(h:p:=by omega):p:=h
theorem ae{p:Prop}(h:p:=by simp only[go_sem]):p:=h
theorem af{p:Prop}(h:p:=by simp):p:=h
theorem ah{p:Prop}(h:p:=by trivial):p:=h
theorem al{p:Prop}(h:p:=by decide):p:=h
theorem aq{p:Prop}(h:p:=by simp;omega):p:=h
theorem ar{p:Prop}(h:p:=by simp only[go_sem,reduceIte,Nat.reduceEqDiff];exact rfl):p:=h
end
section
namespace Go.Av
inductive Cap where
 |any
 |exact (c:Nat)
 |own (t:Nat)
inductive AV where
 |any
 |int (k:IntKind) (n:Int)
 |bool (b:Bool)
 |str (l:List UInt8)
 |sc (v:Value)
 |sl (sz:Nat) (xs:List AV) (c:Cap)
 |ref (cs:List AV)
 |agg (cs:List AV)
 |tup (xs:List AV)
 |ptr (id off:Nat)
 |tsl (sz id off len:Nat) (cap:Option Nat)
 |clo (fn:Fn) (first captured:List AV)
 |ifc (t:TypeId) (x:AV)
 |mp (id:Nat)
 |slt (sz:Nat) (xs ys:List AV)
 |yld (id:Nat)
 |sup (B:Nat)
 |supb (B:Nat)
 |wint (k:IntKind)
 |one
instance:Inhabited AV:=⟨.any⟩
structure aQ where
 dom:Nat->Prop
 ι:Nat->Nat
 tdom:Nat->Prop
 τ:Nat->Option (Nat × Nat)
 own:Nat->Prop
 lim:Nat->Option Nat
def One(v:Value):Prop:=(∀a,v≠ .agg a)/\(∀a,v≠ .tuple a)
def Imm(G:aQ)(w:World)(B off:Nat)(vs:List Value):Prop:=
 ∀i v,vs[i]? =some v->w.cell? ⟨B,off+i,none⟩=some v/\One v/\¬G.own B/\(∀e,G.lim B=some e->off+i<e)
def Room(w:World)(B upto:Nat):Prop:=
 ∃cs T fr,w.heap[B]? =some (.cells cs T fr)/\upto<=cs.size/\(∀j,j<cs.size->¬(fr.1<=j/\j<fr.2))
def di(G:aQ)(w:World)(c:Cap)(B off len C sz:Nat):Prop:=
 match c with
 | .any=>True
 | .exact c=>C=c
 | .own t=>C=len\/(G.tdom t/\G.τ t=some (B,off+len*sz)/\Room w B (off+C*sz))
def kP(c:Cap):Prop:=
 match c with
 | .exact c=>c=0
 |_=>True
mutual
def aB(G:aQ)(w:World):AV->Value->Prop
 | .any,_=>True
 | .int k n,v=>v= .int k n
 | .bool b,v=>v= .bool b
 | .str l,v=>v= .string ⟨l.toArray⟩
 | .sc x,v=>v=x
 | .sl sz xs c,v=>(xs=[]/\(∃a,v= .slice a 0 0)/\kP c)\/
   ∃B off C vs,v= .slice (some ⟨B,off,none⟩) xs.length C/\xs.length<=C/\vs.length=xs.length*sz/\aK G w sz xs vs/\Imm G w B off vs/\di G w c B off xs.length C sz
 | .ref cs,v=>∃B off vs,v= .pointer (some ⟨B,off,none⟩)/\aC G w cs vs/\Imm G w B off vs
 | .agg cs,v=>∃vs,v= .agg vs.toArray/\aC G w cs vs
 | .tup xs,v=>∃vs,v= .tuple vs.toArray/\aC G w xs vs
 | .ptr id off,v=>G.dom id/\v= .pointer (some ⟨G.ι id,off,none⟩)
 | .tsl sz id off len cap,v=>G.dom id/\((∃C c T fr,v= .slice (some ⟨G.ι id,off,none⟩) len C/\(len<=C/\C<=9223372036854775807)/\(∀k,cap=some k->C=k)/\w.heap[G.ι id]? =some (.cells c T fr)/\off+C*sz<=c.size)\/
   (len=0/\(∃a,v= .slice (some a) 0 0)/\∀k,cap=some k->k=0))
 | .clo fn a b,v=>∃vs us,v= .func fn vs.toArray us.toArray/\aC G w a vs/\aC G w b us
 | .ifc t x,v=>∃u,v= .iface t u/\aB G w x u
 | .mp id,v=>G.dom id/\v= .map (some (G.ι id))
 | .yld id,v=>G.dom id/\v= .func (.yield (G.ι id)) #[] #[]
 | .slt sz xs ys,v=>∃B off C us vs,v= .slice (some ⟨B,off,none⟩) xs.length C/\xs.length+ys.length<=C/\us.length=xs.length*sz/\aK G w sz xs us/\aK G w sz ys vs/\Imm G w B off (us++vs)
 | .sup B,v=>∃l:List UInt8,v= .string ⟨l.toArray⟩/\l.length<=B
 | .supb B,v=>∃l:List UInt8,l.length<=B/\((l=[]/\∃a,v= .slice a 0 0)\/∃D off C,v= .slice (some ⟨D,off,none⟩) l.length C/\l.length<=C/\Imm G w D off (l.map λb=> .int .u8 b.toNat))
 | .wint k,v=>∃n,v= .int k n
 | .one,v=>One v
def aC(G:aQ)(w:World):List AV->List Value->Prop
 |[],vs=>vs=[]
 |x::xs,vs=>∃v us,vs=v::us/\aB G w x v/\aC G w xs us
def aK(G:aQ)(w:World)(sz:Nat):List AV->List Value->Prop
 |[],vs=>vs=[]
 |x::xs,vs=>∃v us,vs=v.cells.toList++us/\v.cells.size=sz/\aB G w x v/\aK G w sz xs us
end
structure BK where
 n:Nat
 d:List (Nat × List UInt8)
def JI:List (Nat × List UInt8)->Nat->List UInt8
 |[],_=>List.replicate 128 0
 |x::d,i=>match Nat.beq x.1 i with
  |true=>x.2
  |false=>JI d i
def u8I(l:List UInt8):List (IntKind × Int):=l.map λb=>(.u8,(b.toNat:Int))
def bkI(b:BK):List (IntKind × Int):=((List.range b.n).map λi=>u8I (JI b.d i)).flatten
def tz(l:List (IntKind × Int)):List Value:=l.map λp=>Value.int p.1 p.2
def AY(l:List (IntKind × Int)):List AV:=l.map λp=>AV.int p.1 p.2
def AZ(b:BK):List AV:=AY (bkI b)
def EC(b:BK):Prop:=∀x∈b.d,x.2.length=128
inductive Obj where
 |cells (cs:List AV)
 |map (es:List (AV × AV))
 |loop (N:Nat) (t:Nat->AV) (ps:List Nat) (assign body:Code) (st:LoopState) (pend:Option Code)
 |raw (p:Option Go.Obj->Prop)
 |bk (b:BK)
def Entries(G:aQ)(w:World):List (AV × AV)->List MapEntry->Prop
 |[],es=>es=[]
 |(k,v)::l,es=>∃e r,es=e::r/\aB G w k e.key/\aB G w v e.val/\Entries G w l r
def lR(G:aQ)(w:World)(o:Obj)(x:Option Go.Obj):Prop:=
 match o with
 | .cells cs=>∃vs rest T fr,x=some (.cells (vs++rest).toArray T fr)/\aC G w cs vs/\fr.1=fr.2/\(∀v∈vs,One v)
 | .map es=>∃en clock,x=some (.map en clock)/\Entries G w es en.toList
 | .loop N t ps asg body st pend=>∃r:Loop,x=some (.loop r)/\r.tmps.size=N/\(∀i,aB G w (t i) (r.tmps.getD i undef))/\r.params.toList=ps/\r.assign=asg/\r.body=body/\r.state=st/\r.pending=pend
 | .raw p=>p x
 | .bk b=>EC b/\∃rest T fr,x=some (.cells (tz (bkI b)++rest).toArray T fr)/\fr.1=fr.2
structure H where
 objs:Nat->Option Obj
 n:Nat
 toks:List Nat
 m:Nat
def H.O(h:H)(G:aQ)(B:Nat):Prop:=∃id o,h.objs id=some o/\G.ι id=B
def H.T(h:H)(G:aQ)(B:Nat):Prop:=∃t∈h.toks,∃e,G.τ t=some (B,e)
structure bf(G:aQ)(h:H)(w:World):Prop where
 obj:∀id o,h.objs id=some o->G.dom id/\G.own (G.ι id)/\G.ι id<w.heap.size/\lR G w o w.heap[G.ι id]?
 inj:∀id id' o o',h.objs id=some o->h.objs id'=some o'->G.ι id=G.ι id'->id=id'
 tok:∀t∈h.toks,G.tdom t/\∀B e,G.τ t=some (B,e)->G.lim B=some e/\¬G.own B/\B<w.heap.size
 tinj:∀t∈h.toks,∀t'∈h.toks,∀B e e',G.τ t=some (B,e)->G.τ t'=some (B,e')->t=t'
def bJ:Option Go.Obj->Option Go.Obj->Prop
 |some (.cells c T fr),x=>∃c' fr',x=some (.cells c' T fr')/\c'.size=c.size/\∀j,j<c.size->(fr'.1<=j/\j<fr'.2)->(fr.1<=j/\j<fr.2)
 |some (.map _ _),x=>∃e k,x=some (.map e k)
 |some (.loop _),x=>∃r,x=some (.loop r)
 |o,x=>x=o
structure Trans(G:aQ)(w:World)(h:H)(G':aQ)(w':World)(h':H):Prop where
 dom_le:∀id,G.dom id->G'.dom id
 dom_new:∀id,G'.dom id->G.dom id\/(h.n<=id/\id<h'.n)
 ι_eq:∀id,G.dom id->G'.ι id=G.ι id
 tdom_le:∀t,G.tdom t->G'.tdom t
 tdom_new:∀t,G'.tdom t->G.tdom t\/(h.m<=t/\t<h'.m)
 τ_eq:∀t,G.tdom t->G'.τ t=G.τ t
 n_le:h.n<=h'.n
 m_le:h.m<=h'.m
 size_le:w.heap.size<=w'.heap.size
 os:w'.os=w.os
 output:w'.output=w.output
 form:∀B,B<w.heap.size->bJ w.heap[B]? w'.heap[B]?
 keep:∀B,B<w.heap.size->¬h.O G B->¬h.T G B->w'.heap[B]? =w.heap[B]?
 own_keep:∀B,B<w.heap.size->¬h.O G B->(G'.own B↔G.own B)
 lim_keep:∀B,B<w.heap.size->¬h.O G B->¬h.T G B->G'.lim B=G.lim B
 tok_keep:∀B,B<w.heap.size->h.T G B->¬h.O G B->(∀e,G.lim B=some e->(∀j,j<e->w'.cell? ⟨B,j,none⟩=w.cell? ⟨B,j,none⟩)/\(∀e',G'.lim B=some e'->e<=e'))
 O_new:∀B,B<w.heap.size->h'.O G' B->h.O G B
 T_new:∀B,B<w.heap.size->h'.T G' B->h.T G B
 objs_new:∀j o,h'.objs j=some o->(∃o',h.objs j=some o')\/(h.n<=j/\j<h'.n)
 toks_new:∀t,t∈h'.toks->t∈h.toks\/(h.m<=t/\t<h'.m)
def cF(G:aQ)(h h':H):Prop:=(∀id,h.n<=id->id<h'.n->¬G.dom id)/\(∀t,h.m<=t->t<h'.m->¬G.tdom t)
def H.sub(h1 h:H):Prop:=(∀j o,h1.objs j=some o->h.objs j=some o)/\(∀t∈h1.toks,t∈h.toks)
def H.patch(h h1 h1':H):H where
 objs j:=if (h1.objs j).isSome\/(h1.n<=j/\j<h1'.n) then h1'.objs j else h.objs j
 n:=h1'.n
 toks:=h1'.toks++h.toks.filter (λt=> !h1.toks.contains t)
 m:=h1'.m
end Go.Av
end
section
namespace Go.Av
theorem Ht{w:World}{B off:Nat}{v:Value}(h:w.cell? ⟨B,off,none⟩=some v):B<w.heap.size:=by
 unfold World.cell? at h;by_cases hb:B<w.heap.size
 ·exact hb
 ·have:w.heap[B]? =none:=by simp;omega
  simp[this] at h
section
variable{G G':aQ}{w w':World}{h h':H}
theorem Imm.mono(R:bf G h w)(T:Trans G w h G' w' h'){B off:Nat}{vs:List Value}(hi:Imm G w B off vs):Imm G' w' B off vs:=by
 intro i v hv;obtain ⟨hc,hone,hown,hlim⟩:=hi i v hv;have hB:=Ht hc;have hO:¬h.O G B:=by
  rintro ⟨id,o,ho,rfl⟩;exact hown (R.obj id o ho).2.1
 by_cases hT:h.T G B
 ·obtain ⟨t,ht,e,hte⟩:=id hT;have hl:=((R.tok t ht).2 B e hte).1;obtain ⟨k1,k2⟩:=T.tok_keep B hB hT hO e hl;exact ⟨(k1 _ (hlim e hl)).trans hc,hone,λho=>hown ((T.own_keep B hB hO).1 ho),λe' he'=>OU (hlim e hl) (k2 e' he')⟩
 ·refine ⟨?_,hone,λho=>hown ((T.own_keep B hB hO).1 ho),λe' he'=>hlim e' ((T.lim_keep B hB hO hT).symm.trans he')⟩;have:=T.keep B hB hO hT;unfold World.cell? at hc |-;simpa [this] using hc
theorem Room.mono(T:Trans G w h G' w' h'){B u:Nat}(hr:Room w B u):Room w' B u:=by
 obtain ⟨cs,Tt,fr,h1,h2,h3⟩:=hr;have hB:B<w.heap.size:=by
  rcases Ps B w.heap.size with hb|hb
  ·exact hb
  ·have:w.heap[B]? =none:=by simp;omega
   simp[this] at h1
 have hf:=T.form B hB;rw[h1] at hf;obtain ⟨c',fr',he,hs,hfr⟩:=hf;exact ⟨c',Tt,fr',he,hs▸h2,λj hj hj2=>h3 j (hs▸hj) (hfr j (hs▸hj) hj2)⟩
theorem di.mono(T:Trans G w h G' w' h'){c:Cap}{B off len C sz:Nat}(hc:di G w c B off len C sz):di G' w' c B off len C sz:=by
 cases c with
 |any=>trivial
 |exact c=>exact hc
 |own t=>
  rcases hc with hc|⟨h1,h2,h3⟩
  ·exact .inl hc
  ·exact .inr ⟨T.tdom_le t h1,(T.τ_eq t h1).trans h2,h3.mono T⟩
mutual
theorem aB.mono(R:bf G h w)(T:Trans G w h G' w' h'):∀(x:AV)(v:Value),aB G w x v->aB G' w' x v
 | .any,_,_=>trivial
 | .int k n,_,hv=>hv
 | .bool b,_,hv=>hv
 | .str l,_,hv=>hv
 | .sc x,_,hv=>hv
 | .sl sz xs c,v,hv=>by
  simp only[aB] at hv |-;rcases hv with hv|⟨B,off,C,vs,h1,h2,h3,h4,h5,h6⟩
  ·exact .inl hv
  ·exact .inr ⟨B,off,C,vs,h1,h2,h3,aK.mono R T sz xs vs h4,h5.mono R T,h6.mono T⟩
 | .ref cs,v,hv=>by
  simp only[aB] at hv |-;obtain ⟨B,off,vs,h1,h2,h3⟩:=hv;exact ⟨B,off,vs,h1,aC.mono R T cs vs h2,h3.mono R T⟩
 | .agg cs,v,hv=>by
  simp only[aB] at hv |-;obtain ⟨vs,h1,h2⟩:=hv;exact ⟨vs,h1,aC.mono R T cs vs h2⟩
 | .tup cs,v,hv=>by
  simp only[aB] at hv |-;obtain ⟨vs,h1,h2⟩:=hv;exact ⟨vs,h1,aC.mono R T cs vs h2⟩
 | .ptr id off,v,hv=>by
  simp only[aB] at hv |-;exact ⟨T.dom_le id hv.1,by rw[T.ι_eq id hv.1];exact hv.2⟩
 | .tsl sz id off len cap,v,hv=>by
  simp only[aB] at hv |-;obtain ⟨hd,hv⟩:=hv;refine ⟨T.dom_le id hd,?_⟩;rcases hv with ⟨C,c,Tt,fr,h1,h2,h3,h4,h5⟩|hv
  ·left;have hB:G.ι id<w.heap.size:=by
    rcases Ps (G.ι id) w.heap.size with hb|hb
    ·exact hb
    ·have:w.heap[G.ι id]? =none:=by simp;omega
     rw[this] at h4;cases h4
   have hf:=T.form _ hB;rw[h4] at hf;obtain ⟨c',fr',he,hs,-⟩:=hf;rw[T.ι_eq id hd];exact ⟨C,c',Tt,fr',h1,h2,h3,he,by rw[hs];exact h5⟩
  ·exact .inr hv
 | .clo fn a b,v,hv=>by
  simp only[aB] at hv |-;obtain ⟨vs,us,h1,h2,h3⟩:=hv;exact ⟨vs,us,h1,aC.mono R T a vs h2,aC.mono R T b us h3⟩
 | .ifc t x,v,hv=>by
  simp only[aB] at hv |-;obtain ⟨u,h1,h2⟩:=hv;exact ⟨u,h1,aB.mono R T x u h2⟩
 | .mp id,v,hv=>by
  simp only[aB] at hv |-;exact ⟨T.dom_le id hv.1,by rw[T.ι_eq id hv.1];exact hv.2⟩
 | .yld id,v,hv=>by
  simp only[aB] at hv |-;exact ⟨T.dom_le id hv.1,by rw[T.ι_eq id hv.1];exact hv.2⟩
 | .slt sz xs ys,v,hv=>by
  simp only[aB] at hv |-;obtain ⟨B,off,C,us,vs,h1,h2,h3,h4,h5,h6⟩:=hv;exact ⟨B,off,C,us,vs,h1,h2,h3,aK.mono R T sz xs us h4,aK.mono R T sz ys vs h5,h6.mono R T⟩
 | .sup B,v,hv=>by simpa only[aB] using hv
 | .supb B,v,hv=>by
  simp only[aB] at hv |-;obtain ⟨l,h1,h2|⟨D,off,C,h2,h3,h4⟩⟩:=hv
  ·exact ⟨l,h1,.inl h2⟩
  ·exact ⟨l,h1,.inr ⟨D,off,C,h2,h3,h4.mono R T⟩⟩
 | .wint k,v,hv=>by simpa only[aB] using hv
 | .one,v,hv=>by simpa only[aB] using hv
theorem aC.mono(R:bf G h w)(T:Trans G w h G' w' h'):∀(x:List AV)(v:List Value),aC G w x v->aC G' w' x v
 |[],_,hv=>by simpa only[aC] using hv
 |x::xs,vs,hv=>by
  simp only[aC] at hv |-;obtain ⟨v,us,h1,h2,h3⟩:=hv;exact ⟨v,us,h1,aB.mono R T x v h2,aC.mono R T xs us h3⟩
theorem aK.mono(R:bf G h w)(T:Trans G w h G' w' h')(sz:Nat):∀(x:List AV)(v:List Value),aK G w sz x v->aK G' w' sz x v
 |[],_,hv=>by simpa only[aK] using hv
 |x::xs,vs,hv=>by
  simp only[aK] at hv |-;obtain ⟨v,us,h1,h2,h3,h4⟩:=hv;exact ⟨v,us,h1,h2,aB.mono R T x v h3,aK.mono R T sz xs us h4⟩
end
theorem Entries.mono(R:bf G h w)(T:Trans G w h G' w' h'):∀(l:List (AV × AV))(e:List MapEntry),Entries G w l e->Entries G' w' l e
 |[],_,hv=>hv
 |(k,v)::l,es,hv=>by
  obtain ⟨e,r,h1,h2,h3,h4⟩:=hv;exact ⟨e,r,h1,aB.mono R T k _ h2,aB.mono R T v _ h3,Entries.mono R T l r h4⟩
theorem lR.mono(R:bf G h w)(T:Trans G w h G' w' h'){o:Obj}{x:Option Go.Obj}(hx:lR G w o x):lR G' w' o x:=by
 cases o with
 |cells cs=>
  obtain ⟨vs,rest,Tt,fr,h1,h2,h3⟩:=hx;exact ⟨vs,rest,Tt,fr,h1,aC.mono R T _ _ h2,h3⟩
 |map es=>
  obtain ⟨en,k,h1,h2⟩:=hx;exact ⟨en,k,h1,Entries.mono R T _ _ h2⟩
 |loop N t ps asg body st pend=>
  obtain ⟨r,h1,h2,h3,h4⟩:=hx;exact ⟨r,h1,h2,λi=>aB.mono R T _ _ (h3 i),h4⟩
 |raw c=>exact hx
 |bk c=>exact hx
theorem bJ.refl(o:Option Go.Obj):bJ o o:=by
 cases o with
 |none=>rfl
 |some o=>cases o<;>first|exact ⟨_,_,rfl,rfl,λ_ _ h=>h⟩|exact ⟨_,_,rfl⟩|exact ⟨_,rfl⟩|rfl
theorem bJ.trans{a b c:Option Go.Obj}(h1:bJ a b)(h2:bJ b c):bJ a c:=by
 cases a with
 |none=>cases h1;exact h2
 |some o=>
  cases o with
  |cells cs T fr=>
   obtain ⟨c1,f1,rfl,e1,g1⟩:=h1;obtain ⟨c2,f2,rfl,e2,g2⟩:=h2;exact ⟨c2,f2,rfl,e2.trans e1,λj hj h=>g1 j hj (g2 j (e1▸hj) h)⟩
  |map e k=>
   obtain ⟨_,_,rfl⟩:=h1;exact h2
  |loop r=>
   obtain ⟨_,rfl⟩:=h1;exact h2
  |_=>cases h1;exact h2
theorem Trans.refl(G:aQ)(w:World)(h:H):Trans G w h G w h where
 dom_le _ x:=x
 dom_new _ x:= .inl x
 ι_eq _ _:=rfl
 tdom_le _ x:=x
 tdom_new _ x:= .inl x
 τ_eq _ _:=rfl
 n_le:=NY _
 m_le:=NY _
 size_le:=NY _
 os:=rfl
 output:=rfl
 form _ _:=bJ.refl _
 keep _ _ _ _:=rfl
 own_keep _ _ _:=Qp
 lim_keep _ _ _ _:=rfl
 tok_keep _ _ _ _ e he:=⟨λ_ _=>rfl,λe' he'=>by rw[he] at he';cases he';exact NY _⟩
 O_new _ _ x:=x
 T_new _ _ x:=x
 objs_new _ o x:= .inl ⟨o,x⟩
 toks_new _ x:= .inl x
theorem Trans.trans'{G'':aQ}{w'':World}{h2 h'':H}(R:bf G h w)(T1:Trans G w h G' w' h')(ho:h2.objs=h'.objs)(ht:∀t,t∈h2.toks↔t∈h'.toks)(n1:h.n<=h2.n)(n2:h'.n<=h''.n)(n3:h.n<=h''.n)(m1:h.m<=h2.m)(m2:h'.m<=h''.m)(m3:h.m<=h''.m)
  (R1:bf G' h' w') (T2:Trans G' w' h2 G'' w'' h''):Trans G w h G'' w'' h'':=by
 have eO:∀B,h2.O G' B↔h'.O G' B:=λB=>by simp[H.O,ho]
 have eT:∀B,h2.T G' B↔h'.T G' B:=λB=>by simp[H.T,ht]
 constructor
 ·exact λid x=>T2.dom_le id (T1.dom_le id x)
 ·intro id x;rcases T2.dom_new id x with y|⟨a,b⟩
  ·exact (T1.dom_new id y).imp (λz=>z) λz=>⟨z.1,OU z.2 n2⟩
  ·exact .inr ⟨Oz n1 a,b⟩
 ·exact λid x=>(T2.ι_eq id (T1.dom_le id x)).trans (T1.ι_eq id x)
 ·exact λid x=>T2.tdom_le id (T1.tdom_le id x)
 ·intro id x;rcases T2.tdom_new id x with y|⟨a,b⟩
  ·exact (T1.tdom_new id y).imp (λz=>z) λz=>⟨z.1,OU z.2 m2⟩
  ·exact .inr ⟨Oz m1 a,b⟩
 ·exact λid x=>(T2.τ_eq id (T1.tdom_le id x)).trans (T1.τ_eq id x)
 ·exact n3
 ·exact m3
 ·exact Oz T1.size_le T2.size_le
 ·exact T2.os.trans T1.os
 ·exact T2.output.trans T1.output
 ·exact λB hB=>(T1.form B hB).trans (T2.form B (OU hB T1.size_le))
 ·exact λB hB hO hT=>(T2.keep B (OU hB T1.size_le) (λx=>hO (T1.O_new B hB ((eO B).1 x))) (λx=>hT (T1.T_new B hB ((eT B).1 x)))).trans (T1.keep B hB hO hT)
 ·exact λB hB hO=>(T2.own_keep B (OU hB T1.size_le) (λx=>hO (T1.O_new B hB ((eO B).1 x)))).trans (T1.own_keep B hB hO)
 ·exact λB hB hO hT=>(T2.lim_keep B (OU hB T1.size_le) (λx=>hO (T1.O_new B hB ((eO B).1 x))) (λx=>hT (T1.T_new B hB ((eT B).1 x)))).trans (T1.lim_keep B hB hO hT)
 ·intro B hB hT hO e he;have hB':=OU hB T1.size_le;have hO':¬h2.O G' B:=λx=>hO (T1.O_new B hB ((eO B).1 x));obtain ⟨k1,k2⟩:=T1.tok_keep B hB hT hO e he;by_cases hT':h2.T G' B
  ·obtain ⟨t,ht,e1,he1⟩:=(eT B).1 hT';have hl:=((R1.tok t ht).2 B e1 he1).1;have hle:=k2 e1 hl;obtain ⟨j1,j2⟩:=T2.tok_keep B hB' hT' hO' e1 hl;exact ⟨λj hj=>(j1 j (OU hj hle)).trans (k1 j hj),λe' he'=>Oz hle (j2 e' he')⟩
  ·have hk:=T2.keep B hB' hO' hT';have hl:=T2.lim_keep B hB' hO' hT';refine ⟨λj hj=>?_,λe' he'=>k2 e' (hl.symm.trans he')⟩;rw[<-k1 j hj];unfold World.cell?;simp only[hk]
 ·exact λB hB x=>T1.O_new B hB ((eO B).1 (T2.O_new B (OU hB T1.size_le) x))
 ·exact λB hB x=>T1.T_new B hB ((eT B).1 (T2.T_new B (OU hB T1.size_le) x))
 ·intro j o x;rcases T2.objs_new j o x with ⟨o',y⟩|⟨a,b⟩
  ·rw[ho] at y;exact (T1.objs_new j o' y).imp (λz=>z) λz=>⟨z.1,OU z.2 n2⟩
  ·exact .inr ⟨Oz n1 a,b⟩
 ·intro j x;rcases T2.toks_new j x with y|⟨a,b⟩
  ·exact (T1.toks_new j ((ht j).1 y)).imp (λz=>z) λz=>⟨z.1,OU z.2 m2⟩
  ·exact .inr ⟨Oz m1 a,b⟩
theorem Trans.trans{G'':aQ}{w'':World}{h'':H}(R:bf G h w)(T1:Trans G w h G' w' h')(R1:bf G' h' w')(T2:Trans G' w' h' G'' w'' h''):Trans G w h G'' w'' h'':=
 T1.trans' R rfl (λ_=>Qp) T1.n_le T2.n_le (Oz T1.n_le T2.n_le) T1.m_le T2.m_le (Oz T1.m_le T2.m_le) R1 T2
theorem bf.same{h2:H}(R:bf G h w)(ho:h2.objs=h.objs)(ht:∀t,t∈h2.toks->t∈h.toks):bf G h2 w where
 obj id o x:=R.obj id o (by rw[<-ho];exact x)
 inj id id' o o' x y:=R.inj id id' o o' (by rw[<-ho];exact x) (by rw[<-ho];exact y)
 tok t x:=R.tok t (ht t x)
 tinj t x t' y:=R.tinj t (ht t x) t' (ht t' y)
theorem Trans.same{h2 h2':H}(T:Trans G w h G' w' h')(ho:h2.objs=h.objs)(ht:∀t,t∈h2.toks↔t∈h.toks)(ho':h2'.objs=h'.objs)(ht':∀t,t∈h2'.toks↔t∈h'.toks)(n1:h2.n<=h.n)(n2:h'.n<=h2'.n)(n3:h2.n<=h2'.n)(m1:h2.m<=h.m)(m2:h'.m<=h2'.m)(m3:h2.m<=h2'.m):
  Trans G w h2 G' w' h2':=by
 have eO:∀G B,h2.O G B↔h.O G B:=λG B=>by simp[H.O,ho]
 have eT:∀G B,h2.T G B↔h.T G B:=λG B=>by simp[H.T,ht]
 have eO':∀G B,h2'.O G B↔h'.O G B:=λG B=>by simp[H.O,ho']
 have eT':∀G B,h2'.T G B↔h'.T G B:=λG B=>by simp[H.T,ht']
 constructor
 ·exact T.dom_le
 ·exact λid x=>(T.dom_new id x).imp (λz=>z) λz=>⟨Oz n1 z.1,OU z.2 n2⟩
 ·exact T.ι_eq
 ·exact T.tdom_le
 ·exact λid x=>(T.tdom_new id x).imp (λz=>z) λz=>⟨Oz m1 z.1,OU z.2 m2⟩
 ·exact T.τ_eq
 ·exact n3
 ·exact m3
 ·exact T.size_le
 ·exact T.os
 ·exact T.output
 ·exact T.form
 ·exact λB hB a b=>T.keep B hB (λx=>a ((eO _ B).2 x)) (λx=>b ((eT _ B).2 x))
 ·exact λB hB a=>T.own_keep B hB (λx=>a ((eO _ B).2 x))
 ·exact λB hB a b=>T.lim_keep B hB (λx=>a ((eO _ B).2 x)) (λx=>b ((eT _ B).2 x))
 ·exact λB hB a b=>T.tok_keep B hB ((eT _ B).1 a) (λx=>b ((eO _ B).2 x))
 ·exact λB hB x=>(eO _ B).2 (T.O_new B hB ((eO' _ B).1 x))
 ·exact λB hB x=>(eT _ B).2 (T.T_new B hB ((eT' _ B).1 x))
 ·exact λj o x=>by
   rw[ho'] at x;rw[ho];exact (T.objs_new j o x).imp (λz=>z) λz=>⟨Oz n1 z.1,OU z.2 n2⟩
 ·exact λt x=>((T.toks_new t ((ht' t).1 x)).imp (λz=>(ht t).2 z) λz=>⟨Oz m1 z.1,OU z.2 m2⟩)
theorem H.ED(h:H):h.sub h:=⟨λ_ _ x=>x,λ_ x=>x⟩
theorem bf.sub{h1:H}(R:bf G h w)(hs:h1.sub h):bf G h1 w where
 obj id o ho:=R.obj id o (hs.1 id o ho)
 inj id id' o o' ho ho':=R.inj id id' o o' (hs.1 id o ho) (hs.1 id' o' ho')
 tok t ht:=R.tok t (hs.2 t ht)
 tinj t ht t' ht':=R.tinj t (hs.2 t ht) t' (hs.2 t' ht')
theorem frame{h1 h1':H}(R:bf G h w)(hs:h1.sub h)(hn:h1.n=h.n)(hm:h1.m=h.m)(R1:bf G' h1' w')(T:Trans G w h1 G' w' h1')(F:cF G h1 h1'):
  bf G' (h.patch h1 h1') w'/\Trans G w h G' w' (h.patch h1 h1'):=by
 have hO:∀B,h1.O G B->h.O G B:=λB ⟨id,o,ho,e⟩=>⟨id,o,hs.1 id o ho,e⟩;have hT:∀B,h1.T G B->h.T G B:=λB ⟨t,ht,e⟩=>⟨t,hs.2 t ht,e⟩;have R0:=R.sub hs;have rest:∀id o,(h.patch h1 h1').objs id=some o->(h1'.objs id=some o)\/(h.objs id=some o/\h1.objs id=none/\¬h1.O G (G.ι id)):=by
  intro id o ho;simp only[H.patch] at ho;split at ho
  ·exact .inl ho
  ·rename_i hc;refine .inr ⟨ho,?_,?_⟩
   ·cases hh:h1.objs id with
    |none=>rfl
    |some o'=>exact absurd (.inl (by simp[hh])) hc
   ·rintro ⟨id0,o0,ho0,e⟩;have:=R.inj id0 id o0 o (hs.1 _ _ ho0) ho e;subst this;exact hc (.inl (by simp[ho0]))
 have trest:∀t,t∈(h.patch h1 h1').toks->t∈h1'.toks\/(t∈h.toks/\t∉h1.toks):=by
  intro t ht;simp only[H.patch,OM,Pm] at ht;rcases ht with ht|⟨ht,hc⟩
  ·exact .inl ht
  ·exact .inr ⟨ht,by simpa using hc⟩
 have tnot:∀t,t∈h.toks->t∉h1.toks->∀B e,G.τ t=some (B,e)->¬h1.T G B/\¬h1.O G B:=by
  intro t ht hnt B e he;refine ⟨?_,?_⟩
  ·rintro ⟨t0,ht0,e0,he0⟩;exact hnt (R.tinj t ht t0 (hs.2 t0 ht0) B e e0 he he0▸ht0)
  ·rintro ⟨id,o,ho,rfl⟩;exact ((R.tok t ht).2 _ e he).2.1 (R0.obj id o ho).2.1
 have RR:bf G' (h.patch h1 h1') w':=by
  constructor
  ·intro id o ho;rcases rest id o ho with ho|⟨ho,h1n,hno⟩
   ·exact R1.obj id o ho
   ·obtain ⟨a1,a2,a3,a4⟩:=R.obj id o ho;have e:=T.ι_eq id a1;have hnT:¬h1.T G (G.ι id):=λ⟨t,ht,ee,he⟩=>((R0.tok t ht).2 _ ee he).2.1 a2;refine ⟨T.dom_le id a1,?_,?_,?_⟩
    ·rw[e];exact (T.own_keep _ a3 hno).2 a2
    ·rw[e];exact OU a3 T.size_le
    ·rw[e,T.keep _ a3 hno hnT];exact a4.mono R0 T
  ·intro id id' o o' ho ho' e;rcases rest id o ho with ho|⟨ho,h1n,hno⟩ <;>rcases rest id' o' ho' with ho'|⟨ho',h1n',hno'⟩
   ·exact R1.inj id id' o o' ho ho' e
   ·exfalso;have e':=T.ι_eq id' (R.obj id' o' ho').1;exact hno' (T.O_new _ (R.obj id' o' ho').2.2.1 ⟨id,o,ho,e.trans e'⟩)
   ·exfalso;have e':=T.ι_eq id (R.obj id o ho).1;exact hno (T.O_new _ (R.obj id o ho).2.2.1 ⟨id',o',ho',e.symm.trans e'⟩)
   ·exact R.inj id id' o o' ho ho' (by rw[<-T.ι_eq id (R.obj id o ho).1,<-T.ι_eq id' (R.obj id' o' ho').1];exact e)
  ·intro t ht;rcases trest t ht with ht|⟨ht,hnt⟩
   ·exact R1.tok t ht
   ·obtain ⟨a1,a2⟩:=R.tok t ht;refine ⟨T.tdom_le t a1,λB e he=>?_⟩;rw[T.τ_eq t a1] at he;obtain ⟨b1,b2,b3⟩:=a2 B e he;obtain ⟨n1,n2⟩:=tnot t ht hnt B e he;exact ⟨(T.lim_keep B b3 n2 n1).trans b1,λho=>b2 ((T.own_keep B b3 n2).1 ho),OU b3 T.size_le⟩
  ·intro t ht t' ht' B e e' he he';rcases trest t ht with ht|⟨ht,hnt⟩ <;>rcases trest t' ht' with ht'|⟨ht',hnt'⟩
   ·exact R1.tinj t ht t' ht' B e e' he he'
   ·exfalso;rw[T.τ_eq t' (R.tok t' ht').1] at he';exact (tnot t' ht' hnt' B e' he').1 (T.T_new B ((R.tok t' ht').2 B e' he').2.2 ⟨t,ht,e,he⟩)
   ·exfalso;rw[T.τ_eq t (R.tok t ht).1] at he;exact (tnot t ht hnt B e he).1 (T.T_new B ((R.tok t ht).2 B e he).2.2 ⟨t',ht',e',he'⟩)
   ·rw[T.τ_eq t (R.tok t ht).1] at he;rw[T.τ_eq t' (R.tok t' ht').1] at he';exact R.tinj t ht t' ht' B e e' he he'
 refine ⟨RR,?_⟩;constructor
 ·exact T.dom_le
 ·intro id x;rw[<-hn];exact T.dom_new id x
 ·exact T.ι_eq
 ·exact T.tdom_le
 ·intro id x;rw[<-hm];exact T.tdom_new id x
 ·exact T.τ_eq
 ·rw[<-hn];exact T.n_le
 ·rw[<-hm];exact T.m_le
 ·exact T.size_le
 ·exact T.os
 ·exact T.output
 ·exact T.form
 ·exact λB hB a b=>T.keep B hB (λx=>a (hO B x)) (λx=>b (hT B x))
 ·exact λB hB a=>T.own_keep B hB (λx=>a (hO B x))
 ·exact λB hB a b=>T.lim_keep B hB (λx=>a (hO B x)) (λx=>b (hT B x))
 ·intro B hB ht ho e he;by_cases hT1:h1.T G B
  ·exact T.tok_keep B hB hT1 (λx=>ho (hO B x)) e he
  ·have hk:=T.keep B hB (λx=>ho (hO B x)) hT1;have hl:=T.lim_keep B hB (λx=>ho (hO B x)) hT1;refine ⟨λj _=>?_,λe' he'=>?_⟩
   ·unfold World.cell?;simp only[hk]
   ·rw[hl,he] at he';cases he';exact NY _
 ·rintro B hB ⟨id,o,ho,e⟩;rcases rest id o ho with ho|⟨ho,h1n,hno⟩
  ·exact hO B (T.O_new B hB ⟨id,o,ho,e⟩)
  ·exact ⟨id,o,ho,(T.ι_eq id (R.obj id o ho).1).symm.trans e⟩
 ·rintro B hB ⟨t,ht,e,he⟩;rcases trest t ht with ht|⟨ht,hnt⟩
  ·exact hT B (T.T_new B hB ⟨t,ht,e,he⟩)
  ·exact ⟨t,ht,e,(T.τ_eq t (R.tok t ht).1).symm.trans he⟩
 ·intro j o ho;rcases rest j o ho with ho|⟨ho,_⟩
  ·rw[<-hn];exact (T.objs_new j o ho).imp (λ⟨o',z⟩=>⟨o',hs.1 j o' z⟩) λz=>z
  ·exact .inl ⟨o,ho⟩
 ·intro t ht;rcases trest t ht with ht|⟨ht,_⟩
  ·rw[<-hm];exact (T.toks_new t ht).imp (λz=>hs.2 t z) λz=>z
  ·exact .inl ht
end
structure ey(D:Nat)(w w':World):Prop where
 size:w'.heap.size=w.heap.size
 same:∀B,B≠D->w'.heap[B]? =w.heap[B]?
 no:∀c T fr,w.heap[D]? ≠some (.cells c T fr)
 os:w'.os=w.os
 out:w'.output=w.output
section
variable{D:Nat}{G:aQ}{w w':World}
theorem ey.cell(t:ey D w w'){B off:Nat}{v:Value}(h:w.cell? ⟨B,off,none⟩=some v):w'.cell? ⟨B,off,none⟩=some v:=by
 by_cases e:B=D
 ·subst e;have no:=t.no;unfold World.cell? at h;cases hh:w.heap[B]? with
  |none=>simp[hh] at h
  |some o=>
   cases o with
   |cells c T fr=>exact absurd hh (no _ _ _)
   |_=>simp[hh] at h
 ·have:=t.same B e;unfold World.cell? at h |-;simpa [this] using h
theorem ey.heap(t:ey D w w'){B:Nat}{c:Array Value}{T:TypeId}{fr:Nat × Nat}(h:w.heap[B]? =some (.cells c T fr)):w'.heap[B]? =some (.cells c T fr):=by
 by_cases e:B=D
 ·subst e;exact absurd h (t.no _ _ _)
 ·rw[t.same B e];exact h
theorem Imm.ct(t:ey D w w'){B off:Nat}{vs:List Value}(h:Imm G w B off vs):Imm G w' B off vs:=λi v hv=>
 ⟨t.cell (h i v hv).1,(h i v hv).2⟩
theorem di.ct(t:ey D w w'){c:Cap}{B off len C sz:Nat}(h:di G w c B off len C sz):di G w' c B off len C sz:=by
 cases c with
 |any=>trivial
 |exact c=>exact h
 |own k=>
  rcases h with h|⟨h1,h2,cs,T,fr,h3,h4⟩
  ·exact .inl h
  ·exact .inr ⟨h1,h2,cs,T,fr,t.heap h3,h4⟩
mutual
theorem aB.ct(t:ey D w w'):∀(x:AV)(v:Value),aB G w x v->aB G w' x v
 | .any,_,_=>trivial
 | .int k n,_,hv=>hv
 | .bool b,_,hv=>hv
 | .str l,_,hv=>hv
 | .sc x,_,hv=>hv
 | .sl sz xs c,v,hv=>by
  simp only[aB] at hv |-;rcases hv with hv|⟨B,off,C,vs,h1,h2,h3,h4,h5,h6⟩
  ·exact .inl hv
  ·exact .inr ⟨B,off,C,vs,h1,h2,h3,aK.ct t sz xs vs h4,h5.ct t,h6.ct t⟩
 | .ref cs,v,hv=>by
  simp only[aB] at hv |-;obtain ⟨B,off,vs,h1,h2,h3⟩:=hv;exact ⟨B,off,vs,h1,aC.ct t cs vs h2,h3.ct t⟩
 | .agg cs,v,hv=>by
  simp only[aB] at hv |-;obtain ⟨vs,h1,h2⟩:=hv;exact ⟨vs,h1,aC.ct t cs vs h2⟩
 | .tup cs,v,hv=>by
  simp only[aB] at hv |-;obtain ⟨vs,h1,h2⟩:=hv;exact ⟨vs,h1,aC.ct t cs vs h2⟩
 | .ptr id off,v,hv=>by simpa only[aB] using hv
 | .tsl sz id off len cap,v,hv=>by
  simp only[aB] at hv |-;obtain ⟨hd,hv⟩:=hv;refine ⟨hd,?_⟩;rcases hv with ⟨C,c,Tt,fr,h1,h2,h3,h4,h5⟩|hv
  ·exact .inl ⟨C,c,Tt,fr,h1,h2,h3,t.heap h4,h5⟩
  ·exact .inr hv
 | .clo fn a b,v,hv=>by
  simp only[aB] at hv |-;obtain ⟨vs,us,h1,h2,h3⟩:=hv;exact ⟨vs,us,h1,aC.ct t a vs h2,aC.ct t b us h3⟩
 | .ifc k x,v,hv=>by
  simp only[aB] at hv |-;obtain ⟨u,h1,h2⟩:=hv;exact ⟨u,h1,aB.ct t x u h2⟩
 | .mp id,v,hv=>by simpa only[aB] using hv
 | .yld id,v,hv=>by simpa only[aB] using hv
 | .slt sz xs ys,v,hv=>by
  simp only[aB] at hv |-;obtain ⟨B,off,C,us,vs,h1,h2,h3,h4,h5,h6⟩:=hv;exact ⟨B,off,C,us,vs,h1,h2,h3,aK.ct t sz xs us h4,aK.ct t sz ys vs h5,h6.ct t⟩
 | .sup B,v,hv=>by simpa only[aB] using hv
 | .supb B,v,hv=>by
  simp only[aB] at hv |-;obtain ⟨l,h1,h2|⟨D,off,C,h2,h3,h4⟩⟩:=hv
  ·exact ⟨l,h1,.inl h2⟩
  ·exact ⟨l,h1,.inr ⟨D,off,C,h2,h3,h4.ct t⟩⟩
 | .wint k,v,hv=>by simpa only[aB] using hv
 | .one,v,hv=>by simpa only[aB] using hv
theorem aC.ct(t:ey D w w'):∀(x:List AV)(v:List Value),aC G w x v->aC G w' x v
 |[],_,hv=>by simpa only[aC] using hv
 |x::xs,vs,hv=>by
  simp only[aC] at hv |-;obtain ⟨v,us,h1,h2,h3⟩:=hv;exact ⟨v,us,h1,aB.ct t x v h2,aC.ct t xs us h3⟩
theorem aK.ct(t:ey D w w')(sz:Nat):∀(x:List AV)(v:List Value),aK G w sz x v->aK G w' sz x v
 |[],_,hv=>by simpa only[aK] using hv
 |x::xs,vs,hv=>by
  simp only[aK] at hv |-;obtain ⟨v,us,h1,h2,h3,h4⟩:=hv;exact ⟨v,us,h1,h2,aB.ct t x v h3,aK.ct t sz xs us h4⟩
end
theorem Entries.ct(t:ey D w w'):∀(l:List (AV × AV))(e:List MapEntry),Entries G w l e->Entries G w' l e
 |[],_,hv=>hv
 |(k,v)::l,es,hv=>by
  obtain ⟨e,r,h1,h2,h3,h4⟩:=hv;exact ⟨e,r,h1,aB.ct t k _ h2,aB.ct t v _ h3,Entries.ct t l r h4⟩
theorem lR.ct(t:ey D w w'){o:Obj}{x:Option Go.Obj}(hx:lR G w o x):lR G w' o x:=by
 cases o with
 |cells cs=>
  obtain ⟨vs,rest,Tt,fr,h1,h2,h3⟩:=hx;exact ⟨vs,rest,Tt,fr,h1,aC.ct t _ _ h2,h3⟩
 |map es=>
  obtain ⟨en,k,h1,h2⟩:=hx;exact ⟨en,k,h1,Entries.ct t _ _ h2⟩
 |loop N tt ps asg body st pend=>
  obtain ⟨r,h1,h2,h3,h4⟩:=hx;exact ⟨r,h1,h2,λi=>aB.ct t _ _ (h3 i),h4⟩
 |raw c=>exact hx
 |bk c=>exact hx
theorem bf.ct{h:H}(R:bf G h w)(t:ey D w w')(hD:¬h.O G D):bf G h w' where
 obj id o ho:=by
  obtain ⟨a,b,c,d⟩:=R.obj id o ho;have hne:G.ι id≠D:=λe=>hD ⟨id,o,ho,e⟩;exact ⟨a,b,by rw[t.size];exact c,by rw[t.same _ hne];exact d.ct t⟩
 inj:=R.inj
 tok k hk:=⟨(R.tok k hk).1,λB e he=>by rw[t.size];exact (R.tok k hk).2 B e he⟩
 tinj:=R.tinj
theorem Trans.ct{G0:aQ}{w0:World}{h0 h:H}(T:Trans G0 w0 h0 G w h)(t:ey D w w')(hD:w0.heap.size<=D):Trans G0 w0 h0 G w' h where
 dom_le:=T.dom_le
 dom_new:=T.dom_new
 ι_eq:=T.ι_eq
 tdom_le:=T.tdom_le
 tdom_new:=T.tdom_new
 τ_eq:=T.τ_eq
 n_le:=T.n_le
 m_le:=T.m_le
 size_le:=by rw[t.size];exact T.size_le
 os:=t.os.trans T.os
 output:=t.out.trans T.output
 form B hB:=by rw[t.same B aa];exact T.form B hB
 keep B hB h1 h2:=by rw[t.same B aa];exact T.keep B hB h1 h2
 own_keep:=T.own_keep
 lim_keep:=T.lim_keep
 tok_keep B hB h1 h2 e he:=⟨λj hj=>by
  have:=(T.tok_keep B hB h1 h2 e he).1 j hj;rw[<-this];have hs:=t.same B aa;unfold World.cell?;simp only[hs],(T.tok_keep B hB h1 h2 e he).2⟩
 O_new:=T.O_new
 T_new:=T.T_new
 objs_new:=T.objs_new
 toks_new:=T.toks_new
end
end Go.Av
end
section
namespace Go.Av
inductive Opd where
 |t (i:Nat)
 |c (a:AV)
inductive CK where
 |toInt (k:IntKind)
 |b2s
 |s2b
 |s2s
 |idem
inductive EK where
 |int
 |bool
 |str
 deriving DecidableEq
inductive RK where
 |i2f (k:FloatKind)
 |f2i (k:IntKind)
 |cplx
 |cpart (re:Bool)
 |fbits
 |fofbits
 |ibyte
 |aidx (sz:Nat) (n:Option Nat) (len:Nat)
 |paddr (sz len:Nat)
 |abuild (zero:List AV) (ps:List (Nat × Nat))
 |slp (sz len:Nat)
 |cpy
 |s2a (len:Nat)
 |eqarr (neg:Bool) (len:Nat) (k:EK)
inductive AOp where
 |mov (x:Opd)
 |pick (c a b:Opd)
 |alloc (zero:List AV)
 |box (x:Opd)
 |build (zero:List AV) (parts:List (Nat × Nat × Opd))
 |buildSl (sz:Nat) (parts:List Opd)
 |load (n:Option Nat) (x:Opd)
 |store (n:Nat) (x v:Opd)
 |bin (op:BinOp) (x y:Opd)
 |eqB (neg:Bool) (x y:Opd)
 |eqP (neg:Bool) (x y:Opd)
 |eqQ (neg:Bool) (x y:Opd)
 |eqN (neg:Bool) (x:Opd)
 |eqA (neg:Bool) (ks:List EK) (x y:Opd)
 |un (op:UnOp) (x:Opd)
 |conv (k:CK) (x:Opd)
 |mkfn (fn:Fn) (first captured:List Opd)
 |mksl (sz bytes:Nat) (zero:AV) (len cap:Opd)
 |slc (str:Bool) (sz:Nat) (x:Opd) (lo hi mx:Option Opd)
 |faddr (off:Nat) (x:Opd)
 |fld (off:Nat) (n:Option Nat) (x:Opd)
 |iaddr (sz:Nat) (x i:Opd)
 |idx (x i:Opd)
 |ext (x:Opd) (i:Nat)
 |nilck (x:Opd)
 |len (str:Bool) (x:Opd)
 |app (str:Bool) (sz bytes:Nat) (s x:Opd)
 |appz (bytes:Nat) (zero:AV) (sz:Nat) (s x:Opd)
 |mm (mx:Bool) (x y:Opd)
 |clr (sz:Nat) (zero:List AV) (x:Opd)
 |mkmap
 |mlook (zero:AV) (ok:Bool) (x key:Opd)
 |mput (x key v:Opd)
 |mdel (x key:Opd)
 |mlen (x:Opd)
 |mlookK (ks:List EK) (zero:AV) (ok:Bool) (x key:Opd)
 |mputK (ks:List EK) (x key v:Opd)
 |mdelK (ks:List EK) (x key:Opd)
 |eqM (neg:Bool) (x:Opd)
 |cap (x:Opd)
 |ifc (t:TypeId) (x:Opd)
 |pan (x:Opd)
 |dead
 |raw (k:RK) (xs:List Opd)
 |call (f:FuncId) (args:List Opd)
 |callv (x:Opd) (args:List Opd)
structure Ent where
 rd:List Nat
 wr:List Nat
 tk:List Nat
def aZ:Ent:=⟨[],[],[]⟩
def upd{α:Type}(f:Nat->α)(i:Nat)(v:α):Nat->α:=λj=>if j=i then v else f j
abbrev Tm:=Nat->AV
def ev(t:Tm):Opd->AV
 | .t i=>t i
 | .c a=>a
def cM:AV->Bool
 | .any| .agg _| .tup _=>false
 | .sc (.agg _)| .sc (.tuple _)=>false
 |_=>true
def shaped(x:AV):Bool:=cM x||(match x with| .agg cs=>cs.all cM|_=>false)
def cellsOf:AV->List AV
 | .agg cs=>cs
 |x=>[x]
def byte(b:UInt8):AV:= .int .u8 b.toNat
def aD(l:List UInt8):List AV:=l.map byte
def yG:AV->Option UInt8
 | .int .u8 n=>some (UInt8.ofNat n.toNat)
 |_=>none
def ie:List AV->Option (List UInt8)
 |[]=>some []
 |x::l=>match yG x,ie l with
  |some b,some r=>some (b::r)
  |_,_=>none
def setAt(cs:List AV)(off:Nat)(vs:List AV):List AV:=cs.take off++vs++cs.drop (off+vs.length)
def oB(k:IntKind)(a b:Int):Int:=k.wrap (BitVec.ofInt k.bits a &&& BitVec.ofInt k.bits b).toNat
def orI(k:IntKind)(a b:Int):Int:=k.wrap (BitVec.ofInt k.bits a ||| BitVec.ofInt k.bits b).toNat
def nN(k:IntKind)(a b:Int):Int:=k.wrap (BitVec.ofInt k.bits a ^^^ BitVec.ofInt k.bits b).toNat
def Hu(k:IntKind)(a b:Int):Int:=k.wrap (BitVec.ofInt k.bits a &&& ~~~(BitVec.ofInt k.bits b)).toNat
def rF(op:BinOp)(k:IntKind)(a b:Int):Option AV:=
 match op with
 | .add=>some (.int k (k.wrap (a+b)))
 | .sub=>some (.int k (k.wrap (a - b)))
 | .mul=>some (.int k (k.wrap (a*b)))
 | .quo=>if b=0 then none else some (.int k (k.wrap (a.tdiv b)))
 | .rem=>if b=0 then none else some (.int k (a.tmod b))
 | .eql=>some (.bool (decide (a=b)))
 | .neq=>some (.bool (!decide (a=b)))
 | .lss=>some (.bool (decide (a<b)))
 | .leq=>some (.bool (decide (a<=b)))
 | .gtr=>some (.bool (decide (b<a)))
 | .geq=>some (.bool (decide (b<=a)))
 | .and=>some (.int k (oB k a b))
 | .or=>some (.int k (orI k a b))
 | .xor=>some (.int k (nN k a b))
 | .andNot=>some (.int k (Hu k a b))
 |_=>none
def rG(op:BinOp)(k:IntKind)(a b:Int):Option AV:=
 if b<0 then none else
 match op with
 | .shl=>some (.int k (k.wrap (a*2^(min b.toNat k.bits))))
 | .shr=>some (.int k (a.fdiv (2^(min b.toNat k.bits))))
 |_=>none
def qP:BinOp->Bool
 | .shl| .shr=>true
 |_=>false
def yH(op:BinOp)(a b:List UInt8):Option AV:=
 match op with
 | .add=>if a.length+b.length<9223372036854775808 then some (.str (a++b)) else none
 | .eql=>some (.bool (decide (a=b)))
 | .neq=>some (.bool (!decide (a=b)))
 | .lss=>some (.bool (Op.bytesLess a b))
 | .leq=>some (.bool (Op.bytesLess a b||decide (a=b)))
 | .gtr=>some (.bool (!(Op.bytesLess a b||decide (a=b))))
 | .geq=>some (.bool (!Op.bytesLess a b))
 |_=>none
def Kf(op:BinOp)(k:FloatKind)(a b:Nat):Option AV:=
 match op with
 | .add| .sub| .mul| .quo=>(floatBits op k a b).map λr=> .sc (.float k r)
 | .eql=>some (.bool (k.format.order a b == some .eq))
 | .neq=>some (.bool (k.format.order a b != some .eq))
 | .lss=>some (.bool (k.format.order a b == some .lt))
 | .leq=>some (.bool (k.format.order a b == some .lt||k.format.order a b == some .eq))
 | .gtr=>some (.bool (k.format.order a b == some .gt))
 | .geq=>some (.bool (k.format.order a b == some .gt||k.format.order a b == some .eq))
 |_=>none
def Kg(op:BinOp)(a b c d:Nat):Option AV:=
 match op with
 | .add| .sub=>(cSumBits op .f64 a b c d).map λp=> .sc (.complex .f64 p.1 p.2)
 | .mul=>(cMulBits a b c d).map λp=> .sc (.complex .f64 p.1 p.2)
 |_=>none
def bin(op:BinOp)(x y:AV):Option AV:=
 match x,y with
 | .sc (.float k a),.sc (.float k' b)=>if k=k' then Kf op k a b else none
 | .sc (.complex .f64 a b),.sc (.complex .f64 c d)=>Kg op a b c d
 | .int k a,.int k' b=>if qP op then rG op k a b else if k=k' then rF op k a b else none
 | .str a,.str b=>yH op a b
 |_,_=>none
def eqB(neg:Bool)(x y:AV):Option AV:=
 match x,y with
 | .bool a,.bool b=>some (.bool (if neg then !(a == b) else (a == b)))
 |_,_=>none
def eqP(neg:Bool)(x y:AV):Option AV:=
 match x,y with
 | .ptr _ _,.sc (.pointer none)=>some (.bool neg)
 | .ref _,.sc (.pointer none)=>some (.bool neg)
 | .sc (.pointer none),.sc (.pointer none)=>some (.bool (!neg))
 |_,_=>none
def ja(k:EK)(x y:AV):Option Bool:=
 match k,x,y with
 | .int,.int k a,.int k' b=>if k=k' then some (decide (a=b)) else none
 | .str,.str a,.str b=>some (decide (a=b))
 | .bool,.bool a,.bool b=>some (a == b)
 |_,_,_=>none
def bu:List EK->List AV->List AV->Option Bool
 |[],[],[]=>some true
 |k::ks,x::xs,y::ys=>match ja k x y,bu ks xs ys with
  |some a,some b=>some (a&&b)
  |_,_=>none
 |_,_,_=>none
def eqA(neg:Bool)(ks:List EK)(x y:AV):Option AV:=
 match x,y with
 | .agg xs,.agg ys=>(bu ks xs ys).map λb=> .bool (if neg then !b else b)
 |_,_=>none
def mm(mx:Bool)(x y:AV):Option AV:=
 match x,y with
 | .int k a,.int _ b=>some (.int k (if mx then (if a<b then b else a) else (if b<a then b else a)))
 | .str a,.str b=>some (.str (if (if mx then !Op.bytesLess a b else (Op.bytesLess a b||decide (a=b))) then a else b))
 |_,_=>none
def lW(key:List UInt8):List (AV × AV)->Option (Option (Nat × AV))
 |[]=>some none
 |(a,v)::es=>match a with
  | .str a=>if a=key then some (some (0,v)) else (lW key es).map (Option.map λp=>(p.1+1,p.2))
  |_=>none
def EE(es:List (AV × AV))(k:List UInt8)(v:AV)(r:Option (Nat × AV)):List (AV × AV):=
 match r with
 |some p=>es.set p.1 (.str k,v)
 |none=>es++[(.str k,v)]
def rH(es:List (AV × AV))(r:Option (Nat × AV)):List (AV × AV):=
 match r with
 |some p=>es.eraseIdx p.1
 |none=>es
def eX(ks:List EK)(key:List AV):List (AV × AV)->Option (Option (Nat × AV))
 |[]=>if (bu ks key key).isSome then some none else none
 |(a,v)::es=>match a with
  | .agg xs=>match bu ks key xs with
   |some true=>some (some (0,v))
   |some false=>(eX ks key es).map (Option.map λp=>(p.1+1,p.2))
   |none=>none
  |_=>none
def rI(es:List (AV × AV))(k:List AV)(v:AV)(r:Option (Nat × AV)):List (AV × AV):=
 match r with
 |some p=>es.set p.1 (.agg k,v)
 |none=>es++[(.agg k,v)]
def dS(zero:AV)(ok:Bool):Option (Nat × AV)->AV
 |some p=>if ok then .tup [p.2,.bool true] else p.2
 |none=>if ok then .tup [zero,.bool false] else zero
def eqM(neg:Bool)(x:AV):Option AV:=
 match x with
 | .mp _=>some (.bool neg)
 | .sc (.map none)=>some (.bool (!neg))
 |_=>none
def eqN(neg:Bool)(x:AV):Option AV:=
 match x with
 | .sl _ (_::_) _=>some (.bool neg)
 | .tsl _ _ _ _ _=>some (.bool neg)
 | .sc (.slice a _ _)=>some (.bool (if neg then !a.isNone else a.isNone))
 |_=>none
def unop(op:UnOp)(x:AV):Option AV:=
 match op,x with
 | .not,.bool b=>some (.bool (!b))
 | .neg,.int k n=>some (.int k (k.wrap (0 - n)))
 | .xor,.int k n=>rF .xor k (if k.signed then -1 else k.max) n
 | .neg,.sc (.float k b)=>some (.sc (.float k (Op.negFloat k b)))
 |_,_=>none
def bound(x:Option AV)(d:Nat)(upto:Nat):Option Nat:=
 match x with
 |none=>some d
 |some (.int _ i)=>if 0<=i/\i<=upto then some i.toNat else none
 |_=>none
def nO(c:Cap)(lo hi len:Nat):Cap:=
 if hi=len then (match c with| .exact k=> .exact (k - lo)| .own t=> .own t| .any=> .any) else .any
def slice(str:Bool)(sz:Nat)(x:AV)(lo hi:Option AV)(mx:Option (Option AV)):Option AV:=
 match x with
 | .str l=>if str then (match mx with
  |none=>(bound hi l.length l.length).bind λh=>(bound lo 0 h).map λlw=> .str ((l.take h).drop lw)
  |some _=>none) else none
 | .sl s xs c=>if str=false/\(s=sz\/xs=[]) then (match mx with
  |none=>(bound hi xs.length xs.length).bind λh=>(bound lo 0 h).map λlw=> .sl s ((xs.take h).drop lw) (nO c lw h xs.length)
  |some m=>(bound m xs.length xs.length).bind λm=>(bound hi xs.length m).bind λh=>(bound lo 0 h).map λlw=> .sl s ((xs.take h).drop lw) (.exact (m - lw))) else none
 | .tsl s id off len c=>if str=false/\s=sz then (match mx with
  |none=>(bound hi len len).bind λh=>(bound lo 0 h).map λlw=> .tsl s id (off+lw*s) (h - lw) (c.map λk=>k - lw)
  |some _=>none) else none
 |_=>none
def part(off:Nat)(n:Option Nat)(cs:List AV):Option AV:=
 match n with
 |none=>cs[off]?
 |some n=>if off+n<=cs.length then some (.agg ((cs.drop off).take n)) else none
def fI(ρ:Opd->AV):List (Nat × Nat × Opd)->List AV->Option (List AV)
 |[],cs=>some cs
 |(off,n,x)::l,cs=>
  if (cellsOf (ρ x)).length=n/\off+n<=cs.length/\shaped (ρ x) then fI ρ l (setAt cs off (cellsOf (ρ x))) else none
def mT:List (Nat × Nat)->List AV->List AV->Option (List AV)
 |[],[],cs=>some cs
 |(off,n)::ps,x::xs,cs=>if (cellsOf x).length=n/\off+n<=cs.length/\shaped x then mT ps xs (setAt cs off (cellsOf x)) else none
 |_,_,_=>none
def ix(k:RK)(xs:List AV):Option AV:=
 match k with
 | .i2f k=>(match xs with
  |[.int _ n]=>some (.sc (.float k (floatOfInt k n)))
  |_=>none)
 | .f2i k=>(match xs with
  |[.sc (.float s b)]=>(floatToIntVal s b k).map (.int k)
  |_=>none)
 | .cplx=>(match xs with
  |[.sc (.float k a),.sc (.float k' b)]=>if k=k' then some (.sc (.complex k a b)) else none
  |_=>none)
 | .cpart re=>(match xs with
  |[.sc (.complex k a b)]=>some (.sc (.float k (if re then a else b)))
  |_=>none)
 | .fbits=>(match xs with
  |[.sc (.float .f64 b)]=>some (.int .u64 b)
  |_=>none)
 | .fofbits=>(match xs with
  |[.int .u64 n]=>some (.sc (.float .f64 n.toNat))
  |_=>none)
 | .ibyte=>(match xs with
  |[.str s,.int .u8 c]=>if 0<=c/\c<256 then some (.int .i64 (match (List.range s.length).find? λi=>s.getD i 0 == UInt8.ofNat c.toNat with|some i=>(i:Int)|none=> -1)) else none
  |_=>none)
 | .aidx sz n len=>(match xs with
  |[.agg cs,.int _ i]=>if 0<=i/\i<len then part (i.toNat*sz) n cs else none
  |_=>none)
 | .paddr sz len=>(match xs with
  |[.ptr id o,.int _ i]=>if 0<=i/\i<len then some (.ptr id (o+i.toNat*sz)) else none
  |[.ref cs,.int _ i]=>if 0<=i/\i<len then some (.ref (cs.drop (i.toNat*sz))) else none
  |_=>none)
 | .abuild zero ps=>(mT ps xs zero).map .agg
 | .slp _ _=>none
 | .cpy=>none
 | .s2a len=>(match xs with
  |[.sl sz cs _]=>if sz=1/\0<len/\len<=cs.length/\cs.all cM then some (.ref cs) else none
  |_=>none)
 | .eqarr neg len k=>(match xs with
  |[.agg a,.agg b]=>(bu (List.replicate len k) a b).map λr=> .bool (if neg then !r else r)
  |_=>none)
def aop(ρ:Opd->AV)(h:H):AOp->Option (AV × H × Ent)
 | .mov x=>some (ρ x,h,aZ)
 | .pick c a b=>match ρ c with
  | .bool c=>some (if c then ρ a else ρ b,h,aZ)
  |_=>none
 | .alloc zero=>if zero.all cM then some (.ptr h.n 0,{h with objs:=upd h.objs h.n (some (.cells zero)),n:=h.n+1},⟨[],[h.n],[]⟩) else none
 | .box x=>match ρ x with
  | .agg cs=>if cs.all cM then some (.ptr h.n 0,{h with objs:=upd h.objs h.n (some (.cells cs)),n:=h.n+1},⟨[],[h.n],[]⟩) else none
  |v=>if cM v then some (.ptr h.n 0,{h with objs:=upd h.objs h.n (some (.cells [v])),n:=h.n+1},⟨[],[h.n],[]⟩) else none
 | .build zero parts=>(fI ρ parts zero).map λcs=>(.agg cs,h,aZ)
 | .buildSl sz parts=>if parts.all (λx=>(cellsOf (ρ x)).length=sz/\shaped (ρ x))/\parts.length*sz<=16777216 then some (.sl sz (parts.map ρ) (.exact parts.length),h,aZ) else none
 | .load n x=>match ρ x with
  | .ref cs=>(part 0 n cs).map λv=>(v,h,aZ)
  | .ptr id off=>match h.objs id with
   |some (.cells cs)=>(part off n cs).map λv=>(v,h,⟨[id],[],[]⟩)
   |_=>none
  |_=>none
 | .store n x v=>match ρ x with
  | .ptr id off=>match h.objs id with
   |some (.cells cs)=>if (cellsOf (ρ v)).length=n/\off+n<=cs.length/\(cellsOf (ρ v)).all cM then
     some (.any,{h with objs:=upd h.objs id (some (.cells (setAt cs off (cellsOf (ρ v)))))},⟨[],[id],[]⟩) else none
   |_=>none
  |_=>none
 | .bin op x y=>(bin op (ρ x) (ρ y)).map λv=>(v,h,aZ)
 | .eqB neg x y=>(eqB neg (ρ x) (ρ y)).map λv=>(v,h,aZ)
 | .eqP neg x y=>(eqP neg (ρ x) (ρ y)).map λv=>(v,h,aZ)
 | .eqQ neg x y=>match ρ x,ρ y with
  | .ptr i a,.ptr j b=>match h.objs i,h.objs j with
   |some (.cells _),some (.cells _)=>some (.bool (if neg then !(decide (i=j)&&decide (a=b)) else (decide (i=j)&&decide (a=b))),h,⟨[i,j],[],[]⟩)
   |_,_=>none
  | .ptr _ _,.sc (.pointer none)=>some (.bool neg,h,aZ)
  | .sc (.pointer none),.sc (.pointer none)=>some (.bool (!neg),h,aZ)
  |_,_=>none
 | .eqN neg x=>(eqN neg (ρ x)).map λv=>(v,h,aZ)
 | .eqA neg ks x y=>(eqA neg ks (ρ x) (ρ y)).map λv=>(v,h,aZ)
 | .un op x=>(unop op (ρ x)).map λv=>(v,h,aZ)
 | .conv k x=>match k,ρ x with
  | .toInt k,.int _ n=>some (.int k (k.wrap n),h,aZ)
  | .b2s,.sl sz xs _=>if sz=1\/xs=[] then (ie xs).map λl=>(.str l,h,aZ) else none
  | .s2b,.str l=>some (.sl 1 (aD l) (.own h.m),{h with toks:=h.m::h.toks,m:=h.m+1},⟨[],[],[h.m]⟩)
  | .s2b,.sup B=>some (.supb B,{h with toks:=h.m::h.toks,m:=h.m+1},⟨[],[],[h.m]⟩)
  | .idem,.str l=>some (.str l,h,aZ)
  |_,_=>none
 | .mkfn fn first captured=>some (.clo fn (first.map ρ) (captured.map ρ),h,aZ)
 | .mksl sz bytes zero len cap=>match ρ len,ρ cap with
  | .int _ l,.int _ c=>if 0<=l/\l<=c/\c*bytes<=140737488355328/\c<9223372036854775808/\shaped zero then
    some (.sl sz (List.replicate l.toNat zero) (.own h.m),{h with toks:=h.m::h.toks,m:=h.m+1},⟨[],[],[h.m]⟩) else none
  |_,_=>none
 | .slc str sz x lo hi mx=>(slice str sz (ρ x) (lo.map ρ) (hi.map ρ) (mx.map λm=>some (ρ m))).map λv=>(v,h,aZ)
 | .faddr off x=>match ρ x with
  | .ref cs=>some (.ref (cs.drop off),h,aZ)
  | .ptr id o=>some (.ptr id (o+off),h,aZ)
  |_=>none
 | .fld off n x=>match ρ x with
  | .agg cs=>(part off n cs).map λv=>(v,h,aZ)
  |_=>none
 | .iaddr sz x i=>match ρ x,ρ i with
  | .sl s xs _,.int _ k=>if s=sz/\0<=k/\k<xs.length then (let x:=xs.getD k.toNat .any;if shaped x then some (.ref (cellsOf x),h,aZ) else none) else none
  | .tsl s id off len _,.int _ k=>if s=sz/\0<=k/\k<len then some (.ptr id (off+k.toNat*sz),h,aZ) else none
  |_,_=>none
 | .idx x i=>match ρ x,ρ i with
  | .str l,.int _ k=>if 0<=k/\k<l.length then some (byte (l.getD k.toNat 0),h,aZ) else none
  |_,_=>none
 | .ext x i=>match ρ x with
  | .tup xs=>(xs[i]?).map λv=>(v,h,aZ)
  |_=>none
 | .nilck x=>match ρ x with
  | .ptr id o=>some (.ptr id o,h,aZ)
  | .ref cs=>some (.ref cs,h,aZ)
  |_=>none
 | .len str x=>match str,ρ x with
  |true,.str l=>some (.int .i64 l.length,h,aZ)
  |true,.sup _=>some (.wint .i64,h,aZ)
  |false,.sl _ xs _=>some (.int .i64 xs.length,h,aZ)
  |false,.tsl _ _ _ n _=>some (.int .i64 n,h,aZ)
  |_,_=>none
 | .app str sz bytes s x=>match str,ρ s,ρ x with
  |false,.sl s xs c,.sl s' ys _=>
   if (s=sz\/xs=[])/\(s'=sz\/ys=[])/\(xs.length+ys.length)*bytes<=140737488355328/\xs.length+ys.length<4611686018427387904 then
    (match c with
    | .own t=>if s=sz/\t∈h.toks then some (.sl sz (xs++ys) (.own h.m),{h with toks:=h.m::h.toks.filter (· ≠t),m:=h.m+1},⟨[],[],[t,h.m]⟩) else none
    | .exact k=>if k=xs.length then some (.sl sz (xs++ys) (.own h.m),{h with toks:=h.m::h.toks,m:=h.m+1},⟨[],[],[h.m]⟩) else none
    | .any=>none)
   else none
  |true,.sl s xs c,.str l=>
   if (s=sz\/xs=[])/\sz=1/\(xs.length+l.length)*bytes<=140737488355328/\xs.length+l.length<4611686018427387904 then
    (match c with
    | .own t=>if s=sz/\t∈h.toks then some (.sl sz (xs++aD l) (.own h.m),{h with toks:=h.m::h.toks.filter (· ≠t),m:=h.m+1},⟨[],[],[t,h.m]⟩) else none
    | .exact k=>if k=xs.length then some (.sl sz (xs++aD l) (.own h.m),{h with toks:=h.m::h.toks,m:=h.m+1},⟨[],[],[h.m]⟩) else none
    | .any=>none)
   else none
  |_,_,_=>none
 | .appz bytes zero sz s x=>match ρ s,ρ x with
  | .sl s xs c,.int .i64 n=>
   if (s=sz\/xs=[])/\0<=n/\(xs.length+n.toNat)*bytes<=140737488355328/\xs.length+n.toNat<4611686018427387904/\shaped zero/\0<bytes then
    (match c with
    | .own t=>if s=sz/\t∈h.toks then some (.sl sz (xs++List.replicate n.toNat zero) (.own h.m),{h with toks:=h.m::h.toks.filter (· ≠t),m:=h.m+1},⟨[],[],[t,h.m]⟩) else none
    | .exact k=>if k=xs.length then some (.sl sz (xs++List.replicate n.toNat zero) (.own h.m),{h with toks:=h.m::h.toks,m:=h.m+1},⟨[],[],[h.m]⟩) else none
    | .any=>none)
   else none
  |_,_=>none
 | .mm mx x y=>(mm mx (ρ x) (ρ y)).map λv=>(v,h,aZ)
 | .clr sz zero x=>match ρ x with
  | .tsl s id off len _=>if len=0 then some (.any,h,aZ) else (match h.objs id with
   |some (.cells cs)=>if s=sz/\zero.length=sz/\off+len*sz<=cs.length/\zero.all cM then
     some (.any,{h with objs:=upd h.objs id (some (.cells (setAt cs off (List.replicate len zero).flatten)))},⟨[],[id],[]⟩) else none
   |_=>none)
  |_=>none
 | .mkmap=>some (.mp h.n,{h with objs:=upd h.objs h.n (some (.map [])),n:=h.n+1},⟨[],[h.n],[]⟩)
 | .mlook zero ok x key=>match ρ x,ρ key with
  | .mp id,.str k=>match h.objs id with
   |some (.map es)=>(lW k es).map λr=>(dS zero ok r,h,⟨[id],[],[]⟩)
   |_=>none
  | .sc (.map none),.str _=>some (dS zero ok none,h,aZ)
  |_,_=>none
 | .mput x key v=>match ρ x,ρ key with
  | .mp id,.str k=>match h.objs id with
   |some (.map es)=>(lW k es).map λr=>(.any,{h with objs:=upd h.objs id (some (.map (EE es k (ρ v) r)))},⟨[],[id],[]⟩)
   |_=>none
  |_,_=>none
 | .mdel x key=>match ρ x,ρ key with
  | .mp id,.str k=>match h.objs id with
   |some (.map es)=>(lW k es).map λr=>(.any,{h with objs:=upd h.objs id (some (.map (rH es r)))},⟨[],[id],[]⟩)
   |_=>none
  |_,_=>none
 | .mlen x=>match ρ x with
  | .mp id=>match h.objs id with
   |some (.map es)=>some (.int .i64 es.length,h,⟨[id],[],[]⟩)
   |_=>none
  | .sc (.map none)=>some (.int .i64 0,h,aZ)
  |_=>none
 | .mlookK ks zero ok x key=>match ρ x,ρ key with
  | .mp id,.agg k=>match h.objs id with
   |some (.map es)=>(eX ks k es).map λr=>(dS zero ok r,h,⟨[id],[],[]⟩)
   |_=>none
  |_,_=>none
 | .mputK ks x key v=>match ρ x,ρ key with
  | .mp id,.agg k=>match h.objs id with
   |some (.map es)=>(eX ks k es).map λr=>(.any,{h with objs:=upd h.objs id (some (.map (rI es k (ρ v) r)))},⟨[],[id],[]⟩)
   |_=>none
  |_,_=>none
 | .mdelK ks x key=>match ρ x,ρ key with
  | .mp id,.agg k=>match h.objs id with
   |some (.map es)=>(eX ks k es).map λr=>(.any,{h with objs:=upd h.objs id (some (.map (rH es r)))},⟨[],[id],[]⟩)
   |_=>none
  |_,_=>none
 | .eqM neg x=>(eqM neg (ρ x)).map λv=>(v,h,aZ)
 | .cap x=>match ρ x with
  | .sl _ _ (.exact k)=>some (.int .i64 k,h,aZ)
  | .tsl _ _ _ _ (some k)=>some (.int .i64 k,h,aZ)
  |_=>none
 | .ifc t x=>some (.ifc t (ρ x),h,aZ)
 | .pan _=>none
 | .dead=>none
 | .raw k xs=>(ix k (xs.map ρ)).map λv=>(v,h,aZ)
 | .call _ _=>none
 | .callv _ _=>none
def bL(P:Program)(t:TypeId):Bool:=
 match P.underlying t with
 |some (.struct _)|some (.array _ _)=>true
 |_=>false
def EF(P:Program)(t:TypeId):Bool:=
 match P.underlying t with
 |some (.int .u8)=>true
 |_=>false
def Hv(P:Program)(t:TypeId):Nat:=
 match P.underlying t with
 |some (.slice e)=>P.cellsOf e
 |_=>0
def uS(P:Program)(t:TypeId):Value->Option AV
 | .int k n=>some (.int k n)
 | .bool b=>some (.bool b)
 | .string s=>some (.str s.data.toList)
 | .slice none 0 0=>some (.sl (Hv P t) [] (.exact 0))
 | .pointer none=>some (.sc (.pointer none))
 | .map none=>some (.sc (.map none))
 | .nilFunc=>some (.sc .nilFunc)
 | .nilIface=>some (.sc .nilIface)
 | .float k b=>some (.sc (.float k b))
 | .complex k a b=>some (.sc (.complex k a b))
 |_=>none
def EG(P:Program):Nat->TypeId->List TypeId
 |0,t=>[t]
 |d+1,t=>match P.underlying t with
  |some (.struct fs)=>fs.toList.flatMap λf=>EG P d f.type
  |some (.array n e)=>(List.replicate n (EG P d e)).flatten
  |_=>[t]
def kQ(P:Program):List TypeId->List Value->Option (List AV)
 |t::ts,v::vs=>match uS P t v,kQ P ts vs with
  |some a,some l=>some (a::l)
  |_,_=>none
 |[],[]=>some []
 |_,_=>none
def dm(P:Program)(t:TypeId):Value->Option AV
 | .agg cs=>(kQ P (EG P 8 t) cs.toList).map .agg
 |v=>uS P t v
def opd(P:Program)(ty:TypeId):Operand->Option Opd
 | .tmp t=>some (.t t)
 | .const v=>(dm P ty v).map .c
 | .func f=>some (.c (.clo (.func f) [] []))
 | .global _=>none
def nP(P:Program):List TypeId->List Operand->Option (List Opd)
 |t::ts,x::xs=>match opd P t x,nP P ts xs with
  |some a,some l=>some (a::l)
  |_,_=>none
 |[],x::xs=>match opd P 0 x,nP P [] xs with
  |some a,some l=>some (a::l)
  |_,_=>none
 |_,[]=>some []
def lY(P:Program):Option Operand->Option (Option Opd)
 |none=>some none
 |some x=>(opd P 0 x).map some
def partsOf(P:Program)(fs:Array Field):List (Nat × Operand)->Option (List (Nat × Nat × Opd))
 |[]=>some []
 |(i,x)::l=>match fs[i]? with
  |none=>none
  |some f=>match opd P f.type x,partsOf P fs l with
   |some a,some r=>if (P.info? f.type).isSome then some ((f.offset,P.cellsOf f.type,a)::r) else none
   |_,_=>none
def iR(P:Program)(e:TypeId):Nat->List (Nat × Operand)->Option (List Opd)
 |_,[]=>some []
 |k,(i,x)::l=>if i=k then (match opd P e x,iR P e (k+1) l with
  |some a,some r=>some (a::r)
  |_,_=>none) else none
def iJ(P:Program)(t:TypeId):Option EK:=
 match P.underlying t with
 |some (.int _)=>some .int
 |some .bool=>some .bool
 |some .string=>some .str
 |_=>none
def gy(P:Program):Nat->List Field->Option (List EK)
 |_,[]=>some []
 |i,f::fs=>match iJ P f.type,gy P (i+1) fs with
  |some k,some ks=>if f.name≠ "_" /\f.offset=i then some (k::ks) else none
  |_,_=>none
def kS(P:Program)(inner:List Field->Option (List EK)):Nat->List Field->Option (List EK)
 |_,[]=>some []
 |i,f::fs=>match iJ P f.type with
  |some k=>(match kS P inner (i+1) fs with
   |some ks=>if f.name≠ "_" /\f.offset=i then some (k::ks) else none
   |none=>none)
  |none=>match P.underlying f.type with
   |some (.struct gs)=>(match inner gs.toList with
    |some k1=>(match kS P inner (i+k1.length) fs with
     |some ks=>if f.name≠ "_" /\f.offset=i/\P.stoodInHeld f.type=false/\P.cellsOf f.type=k1.length/\(P.info? f.type).isSome then some (k1++ks) else none
     |none=>none)
    |none=>none)
   |_=>none
def oC(P:Program):Nat->List Field->Option (List EK)
 |0=>kS P (λ_=>none) 0
 |d+1=>kS P (oC P d) 0
def yI(P:Program)(e:TypeId)(y:Operand):Bool:=(match y with| .const _=>false|_=>true)&&((P.info? e).any λi=>decide (i.size≠0))
def cOp(P:Program)(o:Oper):Option AOp:=
 match o.op with
 | .move x| .assign x=>(opd P o.type x).map .mov
 | .pick c a b=>match opd P 0 c,opd P o.type a,opd P o.type b with
  |some c,some a,some b=>some (.pick c a b)
  |_,_,_=>none
 | .alloc e=>match (P.info? e).bind (·.zero) with
  |some z=>(dm P e z).map λa=> .alloc (cellsOf a)
  |none=>none
 | .box e x=>(opd P e x).map .box
 | .build t parts=>match P.underlying t,(P.info? t).bind (·.zero) with
  |some (.struct fs),some z=>match dm P t z,partsOf P fs parts.toList with
   |some (.agg cs),some l=>if fs.all λf=>(P.info? f.type).isSome then some (.build cs l) else none
   |_,_=>none
  |_,_=>none
 | .buildSlice t len parts=>match P.underlying t with
  |some (.slice e)=>if parts.size=len/\(P.info? e).isSome/\0<P.cellsOf e/\(((P.info? e).bind (·.zero)).any λz=>z.cells.size == P.cellsOf e) then (iR P e 0 parts.toList).map (.buildSl (P.cellsOf e)) else none
  |_=>none
 | .load t a=>if (P.info? t).isSome/\(P.underlying t).isSome then (opd P 0 a).map (.load (if bL P t then some (P.cellsOf t) else none)) else none
 | .store t a x=>if (P.info? t).isSome/\0<P.cellsOf t then (match opd P 0 a,opd P t x with
  |some a,some x=>some (.store (P.cellsOf t) a x)
  |_,_=>none) else none
 | .binOp op xT x y yT=>match opd P xT x,opd P yT y with
  |some a,some b=>(match P.underlying xT with
   |some .bool=>(match op with| .eql=>some (.eqB false a b)| .neq=>some (.eqB true a b)|_=>none)
   |some (.pointer e)=>if yI P e y then (match op with| .eql=>some (.eqQ false a b)| .neq=>some (.eqQ true a b)|_=>none) else (match op with| .eql=>some (.eqP false a b)| .neq=>some (.eqP true a b)|_=>none)
   |some (.struct fs)=>(match oC P 3 fs.toList with
    |some ks=>if P.stoodInHeld xT=false/\P.eqGuardType P.depth xT=false then (match op with| .eql=>some (.eqA false ks a b)| .neq=>some (.eqA true ks a b)|_=>none) else none
    |none=>none)
   |some (.map _ _)=>(match op,y with| .eql,.const (.map none)=>some (.eqM false a)| .neq,.const (.map none)=>some (.eqM true a)|_,_=>none)
   |some (.slice _)=>(match op,y with| .eql,.const (.slice none 0 0)=>some (.eqN false a)| .neq,.const (.slice none 0 0)=>some (.eqN true a)|_,_=>none)
   |some (.array _ _)=>none
   |_=>some (.bin op a b))
  |_,_=>none
 | .unOp op xT x=>(opd P xT x).map (.un op)
 | .convert src dst x=>match opd P src x,P.underlying src,P.underlying dst with
  |some a,some (.int _),some (.int k)=>some (.conv (.toInt k) a)
  |some a,some (.slice e),some .string=>if EF P e/\P.cellsOf e=1 then some (.conv .b2s a) else none
  |some a,some .string,some (.slice e)=>if EF P e/\P.cellsOf e=1 then some (.conv .s2b a) else none
  |some a,some .string,some .string=>some (.conv .idem a)
  |some a,some (.slice e),some (.slice _)=>if src=dst/\EF P e/\P.cellsOf e=1 then some (.conv .s2s a) else none
  |_,_,_=>none
 | .makeFunc fn first captured=>match nP P [] first.toList,nP P [] captured.toList with
  |some a,some b=>some (.mkfn fn a b)
  |_,_=>none
 | .makeSlice t l c=>match P.underlying t with
  |some (.slice e)=>match P.info? e with
   |some i=>match i.zero with
    |some z=>match dm P e z,opd P 0 l,opd P 0 c with
     |some a,some l,some c=>if z.cells.size=i.size/\0<i.size then some (.mksl i.size i.bytes a l c) else none
     |_,_,_=>none
    |none=>none
   |none=>none
  |_=>none
 | .slice t x lo hi mx=>match opd P t x,lY P lo,lY P hi,lY P mx,P.underlying t with
  |some a,some l,some h,some m,some .string=>if m.isNone then some (.slc true 0 a l h none) else none
  |some a,some l,some h,some m,some (.slice e)=>if (P.info? e).isSome/\(m.isNone\/h.isSome) then some (.slc false (P.cellsOf e) a l h m) else none
  |_,_,_,_,_=>none
 | .fieldAddr s x f=>match opd P 0 x,P.underlying s with
  |some a,some (.struct fs)=>match fs[f]? with
   |some fd=>if (P.info? fd.type).isSome/\0<P.cellsOf fd.type then some (.faddr fd.offset a) else none
   |none=>none
  |_,_=>none
 | .field s x f=>match opd P s x,P.underlying s with
  |some a,some (.struct fs)=>match fs[f]? with
   |some fd=>if (P.info? fd.type).isSome/\(P.underlying fd.type).isSome then some (.fld fd.offset (if bL P fd.type then some (P.cellsOf fd.type) else none) a) else none
   |none=>none
  |_,_=>none
 | .indexAddr t x i=>match opd P t x,opd P 0 i,P.underlying t with
  |some a,some b,some (.slice e)=>if (P.info? e).isSome then some (.iaddr (P.cellsOf e) a b) else none
  |_,_,_=>none
 | .index t x i=>match opd P t x,opd P 0 i,P.underlying t with
  |some a,some b,some .string=>some (.idx a b)
  |_,_,_=>none
 | .makeMap t r=>match r,P.underlying t with
  |none,some (.map _ _)=>some .mkmap
  |some (.const (.int _ _)),some (.map _ _)=>some .mkmap
  |_,_=>none
 | .lookup t x i ok=>match opd P t x,P.underlying t with
  |some a,some (.map kt et)=>match opd P kt i,P.underlying kt,(P.info? et).bind (·.zero) with
   |some b,some .string,some z=>(dm P et z).map λzz=> .mlook zz ok a b
   |some b,some (.struct fs),some z=>(match gy P 0 fs.toList with
    |some ks=>if P.stoodInHeld kt=false then (dm P et z).map λzz=> .mlookK ks zz ok a b else none
    |none=>none)
   |_,_,_=>none
  |_,_=>none
 | .mapUpdate t x i v| .insert t x i v=>match opd P t x,P.underlying t with
  |some a,some (.map kt et)=>match opd P kt i,opd P et v,P.underlying kt with
   |some b,some c,some .string=>some (.mput a b c)
   |some b,some c,some (.struct fs)=>(match gy P 0 fs.toList with
    |some ks=>if P.stoodInHeld kt=false then some (.mputK ks a b c) else none
    |none=>none)
   |_,_,_=>none
  |_,_=>none
 | .extract x i=>(opd P 0 x).map λa=> .ext a i
 | .nilCheck x=>(opd P 0 x).map .nilck
 | .makeInterface t x=>match P.underlying t with
  |some (.interface _)=>none
  |some _=>(opd P t x).map (.ifc t)
  |none=>none
 | .panic x=>(opd P 0 x).map .pan
 | .call c=>match c.callee with
  | .builtin .len=>match c.args.toList,c.argTypes.toList with
   |[x],[t]=>match opd P t x,P.underlying t with
    |some a,some .string=>some (.len true a)
    |some a,some (.slice _)=>some (.len false a)
    |some a,some (.map _ _)=>some (.mlen a)
    |_,_=>none
   |_,_=>none
  | .builtin .cap=>match c.args.toList,c.argTypes.toList with
   |[x],[t]=>match opd P t x,P.underlying t with
    |some a,some (.slice _)=>some (.cap a)
    |_,_=>none
   |_,_=>none
  | .builtin .delete=>match c.args.toList,c.argTypes.toList with
   |[x,k],t::_=>match opd P t x,P.underlying t with
    |some a,some (.map kt _)=>match opd P kt k,P.underlying kt with
     |some b,some .string=>some (.mdel a b)
     |some b,some (.struct fs)=>(match gy P 0 fs.toList with
      |some ks=>if P.stoodInHeld kt=false then some (.mdelK ks a b) else none
      |none=>none)
     |_,_=>none
    |_,_=>none
   |_,_=>none
  | .builtin .min=>match c.args.toList with
   |[x,y]=>match opd P 0 x,opd P 0 y with
    |some a,some b=>some (.mm false a b)
    |_,_=>none
   |_=>none
  | .builtin .max=>match c.args.toList with
   |[x,y]=>match opd P 0 x,opd P 0 y with
    |some a,some b=>some (.mm true a b)
    |_,_=>none
   |_=>none
  | .builtin .clear=>match c.args.toList,c.argTypes.toList with
   |[x],[t]=>match opd P t x,P.underlying t with
    |some a,some (.slice e)=>(match P.info? e with
     |some i=>(match i.zero with
      |some z=>(match dm P e z with
       |some b=>if z.cells.size=i.size/\0<i.size then some (.clr i.size (cellsOf b) a) else none
       |none=>none)
      |none=>none)
     |none=>none)
    |_,_=>none
   |_,_=>none
  | .builtin .append=>match c.args.toList,c.argTypes.toList with
   |[s,x],[t,u]=>match opd P t s,opd P u x,P.underlying t,P.underlying u with
    |some a,some b,some (.slice e),some (.slice _)=>(match P.info? e with
     |some i=>if 0<i.size/\(i.zero.any λz=>z.cells.size == i.size) then some (.app false i.size i.bytes a b) else none
     |none=>none)
    |some a,some b,some (.slice e),some .string=>(match P.info? e with
     |some i=>if i.size=1/\(i.zero.any λz=>z.cells.size == i.size) then some (.app true i.size i.bytes a b) else none
     |none=>none)
    |some a,some b,some (.slice e),some (.int .i64)=>(match P.info? e with
     |some i=>(match i.zero.bind (dm P e) with
      |some z=>if 0<i.size/\(i.zero.any λz=>z.cells.size == i.size) then some (.appz i.bytes z i.size a b) else none
      |none=>none)
     |none=>none)
    |_,_,_,_=>none
   |_,_=>none
  | .value (.func f)=>match P.funcs[f]? with
   |some fn=>if fn.body.isSome/\fn.name≠ "runtime.NumGoroutine" then (nP P c.argTypes.toList c.args.toList).map (.call f) else none
   |none=>none
  | .value x=>match opd P 0 x,nP P c.argTypes.toList c.args.toList with
   |some a,some l=>some (.callv a l)
   |_,_=>none
  |_=>none
 |_=>none
def j0(P:Program)(e:TypeId):List (Nat × Operand)->Option (List (Nat × Nat) × List Opd)
 |[]=>some ([],[])
 |(i,x)::l=>match opd P e x,j0 P e l with
  |some a,some r=>some ((i*P.cellsOf e,P.cellsOf e)::r.1,a::r.2)
  |_,_=>none
def fW(P:Program)(o:Oper):Option AOp:=
 match o.op with
 | .binOp op xT x y yT=>match opd P xT x,opd P yT y,P.underlying xT with
  |some a,some b,some (.array n e)=>(match iJ P e with
   |some k=>if P.eqGuardType P.depth xT=false/\(P.info? e).isSome/\P.cellsOf e=1 then (match op with| .eql=>some (.raw (.eqarr false n k) [a,b])| .neq=>some (.raw (.eqarr true n k) [a,b])|_=>none) else none
   |none=>none)
  |_,_,_=>none
 | .convert src dst x=>match opd P src x,P.underlying src,P.underlying dst with
  |some a,some (.int _),some (.float k)=>some (.raw (.i2f k) [a])
  |some a,some (.float _),some (.int k)=>some (.raw (.f2i k) [a])
  |_,_,_=>none
 | .index t x i=>match opd P t x,opd P 0 i,P.underlying t with
  |some a,some b,some (.array n e)=>if (P.info? e).isSome/\(P.underlying e).isSome then some (.raw (.aidx (P.cellsOf e) (if bL P e then some (P.cellsOf e) else none) n) [a,b]) else none
  |_,_,_=>none
 | .indexAddr t x i=>match opd P 0 x,opd P 0 i,P.underlying t with
  |some a,some b,some (.array n e)=>if (P.info? e).isSome then some (.raw (.paddr (P.cellsOf e) n) [a,b]) else none
  |_,_,_=>none
 | .build t parts=>match P.underlying t,(P.info? t).bind (·.zero) with
  |some (.array _ e),some z=>match dm P t z,j0 P e parts.toList with
   |some (.agg cs),some l=>if (P.info? e).isSome then some (.raw (.abuild cs l.1) l.2) else none
   |_,_=>none
  |_,_=>none
 | .slice ty x lo hi mx=>match opd P 0 x,lY P lo,lY P hi,mx,P.underlying ty with
  |some a,some l,some h,none,some (.array n e)=>if (P.info? e).isSome then some (.raw (.slp (P.cellsOf e) n) [a,l.getD (.c (.int .i64 0)),h.getD (.c (.int .i64 n))]) else none
  |_,_,_,_,_=>none
 | .sliceToArrayPointer arr x=>match opd P 0 x,P.underlying arr with
  |some a,some (.array n _)=>some (.raw (.s2a n) [a])
  |_,_=>none
 | .call c=>match c.callee,c.args.toList with
  | .builtin .copy,[x,y]=>(match c.argTypes.toList with
   |[T,U]=>(match opd P T x,opd P U y,P.underlying T with
    |some a,some b,some (.slice e)=>if P.cellsOf e=1/\(P.info? e).isSome then some (.raw .cpy [a,b]) else none
    |_,_,_=>none)
   |_=>none)
  | .builtin .complex,[x,y]=>match opd P 0 x,opd P 0 y with
   |some a,some b=>some (.raw .cplx [a,b])
   |_,_=>none
  | .builtin .real,[x]=>(opd P 0 x).map λa=> .raw (.cpart true) [a]
  | .builtin .imag,[x]=>(opd P 0 x).map λa=> .raw (.cpart false) [a]
  | .value (.func f),[x,y]=>match P.funcs[f]? with
   |some fn=>if fn.body.isNone/\fn.name= "internal/bytealg.IndexByteString" /\fn.origin= "" then (match opd P 0 x,opd P 0 y with
    |some a,some b=>some (.raw .ibyte [a,b])
    |_,_=>none) else none
   |none=>none
  | .value (.func f),[x]=>match P.funcs[f]? with
   |some fn=>if fn.body.isNone/\fn.name= "math.Float64bits" /\fn.origin= "" then (opd P 0 x).map λa=> .raw .fbits [a]
    else if fn.body.isNone/\fn.name= "math.Float64frombits" /\fn.origin= "" then (opd P 0 x).map λa=> .raw .fofbits [a] else none
   |none=>none
  |_,_=>none
 |_=>none
def cG(G:aQ)(w:World)(t:Tm)(a:Act):Prop:=∀i,aB G w (t i) (a.tmps.getD i undef)
section
variable{P:Program}{G:aQ}{w:World}
theorem aC.nil:aC G w [] []:=by simp[aC]
theorem aC.cons{x:AV}{v:Value}{xs:List AV}{vs:List Value}(h:aB G w x v)(t:aC G w xs vs):aC G w (x::xs) (v::vs):=by
 simp only[aC];exact ⟨v,vs,rfl,h,t⟩
theorem aC.length:∀{xs:List AV}{vs:List Value},aC G w xs vs->vs.length=xs.length
 |[],vs,h=>by simp only[aC] at h;simp[h]
 |x::xs,vs,h=>by
  simp only[aC] at h;obtain ⟨v,us,rfl,_,h2⟩:=h;simp[aC.length h2]
theorem aC.get:∀{xs:List AV}{vs:List Value},aC G w xs vs->∀{i:Nat}{x:AV},xs[i]? =some x->∃v,vs[i]? =some v/\aB G w x v
 |[],vs,h,i,x,hx=>by simp at hx
 |y::xs,vs,h,i,x,hx=>by
  simp only[aC] at h;obtain ⟨v,us,rfl,h1,h2⟩:=h;cases i with
  |zero=>simp at hx;subst hx;exact ⟨v,by simp,h1⟩
  |succ i=>simp at hx;obtain ⟨u,hu,hr⟩:=aC.get h2 hx;exact ⟨u,by simpa using hu,hr⟩
theorem aC.drop:∀{xs:List AV}{vs:List Value}(n:Nat),aC G w xs vs->aC G w (xs.drop n) (vs.drop n)
 |xs,vs,0,h=>by simpa using h
 |[],vs,n+1,h=>by simp only[aC] at h;simp[h,aC]
 |x::xs,vs,n+1,h=>by
  simp only[aC] at h;obtain ⟨v,us,rfl,_,h2⟩:=h;simpa using aC.drop n h2
theorem aC.take:∀{xs:List AV}{vs:List Value}(n:Nat),aC G w xs vs->aC G w (xs.take n) (vs.take n)
 |xs,vs,0,h=>by simp[aC]
 |[],vs,n+1,h=>by simp only[aC] at h;simp[h,aC]
 |x::xs,vs,n+1,h=>by
  simp only[aC] at h;obtain ⟨v,us,rfl,h1,h2⟩:=h;simpa using aC.cons h1 (aC.take n h2)
theorem aC.append:∀{xs ys:List AV}{vs us:List Value},aC G w xs vs->aC G w ys us->aC G w (xs++ys) (vs++us)
 |[],ys,vs,us,h,h'=>by simp only[aC] at h;subst h;simpa using h'
 |x::xs,ys,vs,us,h,h'=>by
  simp only[aC] at h;obtain ⟨v,vs',rfl,h1,h2⟩:=h;simpa using aC.cons h1 (aC.append h2 h')
theorem wo{P:Program}{t:TypeId}{v:Value}{a:AV}(h:uS P t v=some a):aB G w a v:=by
 unfold uS at h;split at h<;>cases h<;>simp[aB,kP]
theorem tC{P:Program}:∀{ts:List TypeId}{vs:List Value}{l:List AV},kQ P ts vs=some l->aC G w l vs
 |[],[],l,h=>by simp[kQ] at h;subst h;exact .nil
 |[],_::_,l,h=>by simp[kQ] at h
 |_::_,[],l,h=>by simp[kQ] at h
 |t::ts,v::vs,l,h=>by
  simp only[kQ] at h;split at h
  ·rename_i a r h1 h2;cases h;exact .cons (wo h1) (tC h2)
  ·cases h
theorem eR{t:TypeId}{v:Value}{a:AV}(h:dm P t v=some a):aB G w a v:=by
 unfold dm at h;split at h
 ·rename_i cs;simp only[N8] at h;obtain ⟨l,h1,rfl⟩:=h;simp only[aB];exact ⟨cs.toList,by simp,tC h1⟩
 ·exact wo h
theorem aJ{ty:TypeId}{x:Operand}{y:Opd}{t:Tm}{a:Act}(h:opd P ty x=some y)(ht:cG G w t a):aB G w (ev t y) (a.eval x):=by
 unfold opd at h;split at h
 ·cases h;exact ht _
 ·simp only[N8] at h;obtain ⟨b,h1,rfl⟩:=h;exact eR h1
 ·cases h;simp only[ev,aB,Act.eval];exact ⟨[],[],rfl,.nil,.nil⟩
 ·cases h
theorem iy{t:Tm}{a:Act}(ht:cG G w t a):∀{ts:List TypeId}{xs:List Operand}{l:List Opd},nP P ts xs=some l->aC G w (l.map (ev t)) (xs.map a.eval)
 |[],[],l,h=>by simp[nP] at h;subst h;exact .nil
 |_::_,[],l,h=>by simp[nP] at h;subst h;exact .nil
 |[],x::xs,l,h=>by
  simp only[nP] at h;split at h
  ·rename_i a' r h1 h2;cases h;exact .cons (aJ h1 ht) (iy ht h2)
  ·cases h
 |t::ts,x::xs,l,h=>by
  simp only[nP] at h;split at h
  ·rename_i a' r h1 h2;cases h;exact .cons (aJ h1 ht) (iy ht h2)
  ·cases h
def Plain(P:Program)(G:aQ)(w:World)(a:Act)(o:Oper)(x:AV):Prop:=∃v,(execOp a.eval o).run P w= .ok (.value v) w/\aB G w x v
variable{t:Tm}{a:Act}{o:Oper}{h h':H}{x:AV}{en:Ent}
theorem Plain.mk{v:Value}(h1:(execOp a.eval o).run P w= .ok (.value v) w)(h2:aB G w x v):Plain P G w a o x:=⟨v,h1,h2⟩
theorem Cr{op:BinOp}{xT yT:TypeId}{x y:Operand}{b c:Opd}{z:AV}(hop:o.op= .binOp op xT x y yT)(h1:opd P xT x=some b)(h2:opd P yT y=some c)
  (ht:cG G w t a) (hz:bin op (ev t b) (ev t c)=some z):Plain P G w a o z:=by
 have r1:=aJ h1 ht;have r2:=aJ h2 ht;generalize ev t b=X at*
 generalize ev t c=Y at*
 unfold Plain;simp only[execOp,hop];generalize hx:a.eval x=vx at*
 generalize hy:a.eval y=vy at*
 unfold bin at hz;split at hz
 ·rename_i k n k' m;simp only[aB] at r1 r2;subst r1 r2;split at hz
  ·rename_i hk;subst hk;cases op<;>simp only[Kf,N8,Oi] at hz<;>
    first
    |(cases hz;done)
    |(obtain ⟨r,hr,rfl⟩:=hz;simp[eqGuard,run_float_arith w _ _ k n m r hr,aB];done)
    |(subst hz;simp[eqGuard,binOp,Op.floatCmp,aB];done)
  ·cases hz
 ·rename_i p q r u;simp only[aB] at r1 r2;subst r1 r2;cases op<;>simp only[Kg,N8] at hz<;>
   first
   |(cases hz;done)
   |(obtain ⟨⟨re,im⟩,hr,rfl⟩:=hz;simp[eqGuard,run_complex_sum w _ (.inl rfl) _ _ _ _ _ _ _ _ hr,aB];done)
   |(obtain ⟨⟨re,im⟩,hr,rfl⟩:=hz;simp[eqGuard,run_complex_sum w _ (.inr rfl) _ _ _ _ _ _ _ _ hr,aB];done)
   |(obtain ⟨⟨re,im⟩,hr,rfl⟩:=hz;simp[eqGuard,run_complex_mul w _ _ _ _ _ _ _ hr,aB];done)
 ·rename_i k n k' m;simp only[aB] at r1 r2;subst r1 r2;split at hz
  ·rename_i hs;unfold rG at hz;split at hz
   ·cases hz
   ·rename_i hb;cases op<;>simp[qP] at hs<;>simp only[Oi] at hz<;>subst hz<;>simp[eqGuard,binOp,Op.shift,hb,aB]
  ·rename_i hs;split at hz
   ·rename_i hk;subst hk;cases op<;>simp[qP] at hs<;>simp only[rF,oB,orI,nN,Hu] at hz<;>(try split at hz)<;>
     first
     |(cases hz;done)
     |(simp only[Oi] at hz;subst hz;simp[eqGuard,binOp,Op.intArith,Op.intCmp,Op.intBits,Op.intDiv,aB, *];done)
     |(simp only[Oi] at hz;subst hz;simp[eqGuard,binOp,Op.intArith,Op.intCmp,Op.intBits,Op.intDiv,aB, *];(first|rfl|(congr;funext;simp)))
   ·cases hz
 ·rename_i p q;simp only[aB] at r1 r2;subst r1 r2;have hb:∀(u v:List UInt8),(u == v)=decide (u=v):=λu v=>by
   rw[QL];simp
  cases op<;>simp only[yH] at hz<;>(try split at hz)<;>
   first
   |(cases hz;done)
   |(simp only[Oi] at hz;subst hz;simp[eqGuard,binOp,Op.stringOp,aB,hb];done)
   |skip
  rename_i hlt;simp only[Oi] at hz;subst hz;have h1:(ByteArray.mk p.toArray).size=p.length:=by simp[ByteArray.size]
  have h2:(ByteArray.mk q.toArray).size=q.length:=by simp[ByteArray.size]
  have h3:¬((((ByteArray.mk p.toArray).size+(ByteArray.mk q.toArray).size:Nat):Int)>IntKind.i64.max):=by
   rw[h1,h2];simp[IntKind.max,IntKind.signed,IntKind.bits];omega
  simp only[eqGuard,binOp,Op.stringOp,aB];rw[N7 h3];refine ⟨_,by simp;rfl,?_⟩;all_goals first|rfl|(congr 1;done)|(congr 1;apply ByteArray.ext;simp)
 ·cases hz
theorem Cs{op:BinOp}{neg:Bool}{xT yT:TypeId}{x y:Operand}{b c:Opd}{z:AV}(hop:o.op= .binOp op xT x y yT)(hT:P.underlying xT=some .bool)
  (hn:op= .eql/\neg=false\/op= .neq/\neg=true) (h1:opd P xT x=some b) (h2:opd P yT y=some c)
  (ht:cG G w t a) (hz:eqB neg (ev t b) (ev t c)=some z):Plain P G w a o z:=by
 have r1:=aJ h1 ht;have r2:=aJ h2 ht;generalize ev t b=X at*
 generalize ev t c=Y at*
 unfold Plain;simp only[execOp,hop];generalize hx:a.eval x=vx at*
 generalize hy:a.eval y=vy at*
 unfold eqB at hz;split at hz
 ·rename_i p q;cases hz;simp only[aB] at r1 r2;subst r1 r2;rcases hn with ⟨rfl,rfl⟩|⟨rfl,rfl⟩
  ·simp[eqGuard,run_eql_bool _ _ _ _ hT,aB]
  ·simp[eqGuard,run_neq_bool _ _ _ _ hT,aB]
 ·cases hz
theorem ka{op:BinOp}{neg:Bool}{xT yT e:TypeId}{x y:Operand}{b c:Opd}{z:AV}(hop:o.op= .binOp op xT x y yT)(hT:P.underlying xT=some (.pointer e))
  (hn:op= .eql/\neg=false\/op= .neq/\neg=true) (h1:opd P xT x=some b) (h2:opd P yT y=some c)
  (ht:cG G w t a) (hz:eqP neg (ev t b) (ev t c)=some z):Plain P G w a o z:=by
 have r1:=aJ h1 ht;have r2:=aJ h2 ht;generalize ev t b=X at*
 generalize ev t c=Y at*
 unfold Plain;simp only[execOp,hop];generalize hx:a.eval x=vx at*
 generalize hy:a.eval y=vy at*
 have hT':P.underlying xT=some (.pointer (P.pointee xT)):=by
  rw[hT];simp[Program.pointee,hT]
 unfold eqP at hz;split at hz
 ·cases hz;simp only[aB] at r1 r2;obtain ⟨-,rfl⟩:=r1;subst r2;rcases hn with ⟨rfl,rfl⟩|⟨rfl,rfl⟩
  ·simp[eqGuard,run_eql_pointer_nil _ _ _ hT',aB]
  ·simp[eqGuard,run_neq_pointer_nil _ _ _ hT',aB]
 ·cases hz;simp only[aB] at r1 r2;obtain ⟨B,off,vs,rfl,-⟩:=r1;subst r2;rcases hn with ⟨rfl,rfl⟩|⟨rfl,rfl⟩
  ·simp[eqGuard,run_eql_pointer_nil _ _ _ hT',aB]
  ·simp[eqGuard,run_neq_pointer_nil _ _ _ hT',aB]
 ·cases hz;simp only[aB] at r1 r2;subst r1 r2;rcases hn with ⟨rfl,rfl⟩|⟨rfl,rfl⟩
  ·simp[eqGuard,run_eql_pointer_nil _ _ _ hT',aB]
  ·simp[eqGuard,run_neq_pointer_nil _ _ _ hT',aB]
 ·cases hz
theorem nQ{k:EK}{x y:AV}{v u:Value}{b:Bool}{t:TypeId}{d:Nat}(hu:iJ P t=some k)(r1:aB G w x v)(r2:aB G w y u)(h:ja k x y=some b):(Op.equalIn (d+1) t v u).run P w= .ok b w:=by
 unfold iJ at hu;unfold ja at h;split at h
 ·split at h
  ·rename_i k a k' c hk;subst hk;cases h;simp only[aB] at r1 r2;subst r1 r2;split at hu<;>first|(cases hu;done)|skip
   rename_i hu';rw[run_equalIn_int w d t _ _ _ _ hu'];rfl
  ·cases h
 ·cases h;simp only[aB] at r1 r2;subst r1 r2;split at hu<;>first|(cases hu;done)|skip
  rename_i hu';rw[run_equalIn_string w d t _ _ hu'];congr 1;rw[ByteArray.toList_eq,ByteArray.toList_eq,QL];simp
 ·cases h;simp only[aB] at r1 r2;subst r1 r2;split at hu<;>first|(cases hu;done)|skip
  rename_i hu';rw[run_equalIn_bool w d t _ _ hu']
 ·cases h
theorem dQ{k:EK}{t:TypeId}{xs:Array Value}{i:Nat}{v:Value}(hu:iJ P t=some k)(hx:xs[i]? =some v):(Go.part t xs i).run P w= .ok v w:=by
 unfold iJ at hu;split at hu<;>first|(cases hu;done)|skip
 all_goals
  rename_i hu';simp[Go.part,isAgg,run_underlying hu',hx]
theorem qw{d:Nat}{X Y:Array Value}:∀{i:Nat}{fs:List Field}{ks:List EK}{xs ys:List AV}{b:Bool},gy P i fs=some ks->aC G w xs (X.toList.drop i)->aC G w ys (Y.toList.drop i)->bu ks xs ys=some b->
  (Op.eqFields (d+1) X Y fs).run P w= .ok b w
 |i,[],ks,xs,ys,b,hf,r1,r2,h=>by
  simp only[gy,Oi] at hf;subst hf;cases xs<;>cases ys<;>simp only[bu] at h<;>first|(cases h;done)|skip
  cases h;simp[Op.eqFields]
 |i,f::fs,ks,xs,ys,b,hf,r1,r2,h=>by
  simp only[gy] at hf;split at hf
  ·rename_i k ks' hk hks;split at hf
   ·rename_i hn;obtain ⟨hn,ho⟩:=hn;cases hf;cases xs with
    |nil=>simp[bu] at h
    |cons x xs=>
     cases ys with
     |nil=>simp[bu] at h
     |cons y ys=>
      simp only[aC] at r1 r2;obtain ⟨v,vs,e1,r1,q1⟩:=r1;obtain ⟨u,us,e2,r2,q2⟩:=r2;have g1:X[i]? =some v:=by
       have:=Pb (λl=>l[0]?) e1;simpa using this
      have g2:Y[i]? =some u:=by
       have:=Pb (λl=>l[0]?) e2;simpa using this
      have t1:X.toList.drop (i+1)=vs:=by
       have:=Pb (List.drop 1) e1;simpa [PQ] using this
      have t2:Y.toList.drop (i+1)=us:=by
       have:=Pb (List.drop 1) e2;simpa [PQ] using this
      simp only[bu] at h;split at h
      ·rename_i p q hp hq;cases h;have rec':=qw (d:=d) (i:=i+1) hks (t1▸q1) (t2▸q2) hq;simp only[Op.eqFields,hn,ne_eq,QS,N9,Sem.run_bind,ho,dQ hk g1,dQ hk g2,Result.andThen_ok,nQ hk r1 r2 hp];cases p
       ·simp
       ·simpa using rec'
      ·cases h
   ·cases hf
  ·cases hf
theorem gQ(w:World)(t e:TypeId)(a:Option Addr)(n c:Nat)(h:P.underlying t=some (.slice e)):
  (binOp .eql t (.slice a n c) (.slice none 0 0)).run P w= .ok (.bool a.isNone) w/\(binOp .neq t (.slice a n c) (.slice none 0 0)).run P w= .ok (.bool (!a.isNone)) w:=by
 have hq:∀d:Nat,(Op.equalIn (d+1) t (.slice a n c) (.slice none 0 0)).run P w= .ok a.isNone w:=λd=>by
  cases a<;>simp[Op.equalIn,run_underlying h]
 constructor
 ·simp only[binOp];simp[Op.equal,Op.maxDepth,hq 9999]
 ·simp only[binOp];simp[Op.equal,Op.maxDepth,hq 9999]
theorem Ct{op:BinOp}{neg:Bool}{xT yT e:TypeId}{x y:Operand}{b:Opd}{z:AV}(hop:o.op= .binOp op xT x y yT)(hT:P.underlying xT=some (.slice e))(hy:y= .const (.slice none 0 0))
  (hn:op= .eql/\neg=false\/op= .neq/\neg=true) (h1:opd P xT x=some b)
  (ht:cG G w t a) (hz:eqN neg (ev t b)=some z):Plain P G w a o z:=by
 have r1:=aJ h1 ht;generalize ev t b=X at*
 unfold Plain;subst hy;simp only[execOp,hop];have he:a.eval (.const (.slice none 0 0))= .slice none 0 0:=rfl;rw[he];generalize hx:a.eval x=vx at*
 unfold eqN at hz;split at hz
 ·cases hz;simp only[aB] at r1;rcases r1 with ⟨h,-⟩|⟨B,off,C,vs,h1,-⟩
  ·cases h
  ·subst h1;rcases hn with ⟨rfl,rfl⟩|⟨rfl,rfl⟩ <;>simp[eqGuard,(gQ w xT e _ _ _ hT).1,(gQ w xT e _ _ _ hT).2,aB]
 ·cases hz;simp only[aB] at r1;obtain ⟨-,⟨C,c,T,fr,rfl,-⟩|⟨-,⟨a0,rfl⟩,-⟩⟩:=r1<;>
  rcases hn with ⟨rfl,rfl⟩|⟨rfl,rfl⟩ <;>simp[eqGuard,(gQ w xT e _ _ _ hT).1,(gQ w xT e _ _ _ hT).2,aB]
 ·cases hz;simp only[aB] at r1;subst r1;rcases hn with ⟨rfl,rfl⟩|⟨rfl,rfl⟩ <;>simp[eqGuard,(gQ w xT e _ _ _ hT).1,(gQ w xT e _ _ _ hT).2,aB]
 ·cases hz
theorem EH{op:UnOp}{xT:TypeId}{x:Operand}{b:Opd}{z:AV}(hop:o.op= .unOp op xT x)(h1:opd P xT x=some b)
  (ht:cG G w t a) (hz:unop op (ev t b)=some z):Plain P G w a o z:=by
 have r1:=aJ h1 ht;generalize ev t b=X at*
 unfold Plain;simp only[execOp,hop];generalize hx:a.eval x=vx at*
 unfold unop at hz;split at hz
 ·cases hz;simp only[aB] at r1;subst r1;simp[Op.unary,aB]
 ·cases hz;simp only[aB] at r1;subst r1;simp[Op.unary,Op.intArith,aB]
 ·simp only[rF,nN,Oi] at hz;subst hz;simp only[aB] at r1;subst r1;simp[Op.unary,Op.intBits,aB]
 ·cases hz;simp only[aB] at r1;subst r1;simp[Op.unary,aB]
 ·cases hz
theorem tD{y:Opd}{z:Operand}{ty:TypeId}(hop:o.op= .move z\/o.op= .assign z)(h1:opd P ty z=some y)(ht:cG G w t a):Plain P G w a o (ev t y):=by
 have r1:=aJ h1 ht;unfold Plain;rcases hop with hop|hop<;>exact ⟨a.eval z,by simp[execOp,hop],r1⟩
theorem yJ{y1 y2 y3:Opd}{z1 z2 z3:Operand}{t1 t2 t3:TypeId}{c:Bool}(hop:o.op= .pick z1 z2 z3)(h1:opd P t1 z1=some y1)(h2:opd P t2 z2=some y2)(h3:opd P t3 z3=some y3)
  (ht:cG G w t a) (hc:ev t y1= .bool c):Plain P G w a o (if c then ev t y2 else ev t y3):=by
 have r1:=aJ h1 ht;have r2:=aJ h2 ht;have r3:=aJ h3 ht;rw[hc] at r1;simp only[aB] at r1;refine ⟨if c then a.eval z2 else a.eval z3,?_,?_⟩
 ·simp[execOp,hop,r1,asBool]
 ·cases c<;>simpa
theorem Cu{y:Opd}{z:Operand}{ty:TypeId}{i:Nat}{xs:List AV}(hop:o.op= .extract z i)(h1:opd P ty z=some y)(ht:cG G w t a)(hx:ev t y= .tup xs)(hi:xs[i]? =some x):Plain P G w a o x:=by
 have r1:=aJ h1 ht;rw[hx] at r1;simp only[aB] at r1;obtain ⟨vs,hv,hr⟩:=r1;obtain ⟨v,hv',hr'⟩:=hr.get hi;exact ⟨v,by simp[execOp,hop,hv,Instr.extract,hv'],hr'⟩
theorem yK{fn:Fn}{f1 f2:Array Operand}{y1 y2:List Opd}(hop:o.op= .makeFunc fn f1 f2)(h1:nP P [] f1.toList=some y1)(h2:nP P [] f2.toList=some y2)(ht:cG G w t a):
  Plain P G w a o (.clo fn (y1.map (ev t)) (y2.map (ev t))):=by
 have r1:=iy ht h1;have r2:=iy ht h2;refine ⟨.func fn (f1.map a.eval) (f2.map a.eval),by simp[execOp,hop,Instr.makeFunc],?_⟩;simp only[aB];have e:∀f:Array Operand,f.map a.eval=(f.toList.map a.eval).toArray:=λf=>by cases f;simp
 exact ⟨f1.toList.map a.eval,f2.toList.map a.eval,by rw[e f1,e f2],r1,r2⟩
theorem qx{y:Opd}{z:Operand}{ty:TypeId}(hop:o.op= .nilCheck z)(h1:opd P ty z=some y)(ht:cG G w t a)(hx:(∃id off,ev t y= .ptr id off)\/∃cs,ev t y= .ref cs):Plain P G w a o (ev t y):=by
 have r1:=aJ h1 ht;rcases hx with ⟨id,off,hx⟩|⟨cs,hx⟩ <;>rw[hx] at r1 |- <;>simp only[aB] at r1
 ·exact ⟨a.eval z,by simp[execOp,hop,r1.2],by simp only[aB];exact r1⟩
 ·obtain ⟨B,off,vs,e1,e2⟩:=id r1;exact ⟨a.eval z,by simp[execOp,hop,e1],by simp only[aB];exact r1⟩
theorem Cv{y1 y2:Opd}{z1 z2:Operand}{ty:TypeId}{k:IntKind}{i:Int}{l:List UInt8}(hT:P.underlying ty=some .string)(hop:o.op= .index ty z1 z2)(h1:opd P ty z1=some y1)(h2:opd P 0 z2=some y2)(ht:cG G w t a)
  (hx:ev t y1= .str l) (hi:ev t y2= .int k i) (hb:0<=i/\i<l.length):Plain P G w a o (byte (l.getD i.toNat 0)):=by
 have r1:=aJ h1 ht;have r2:=aJ h2 ht;rw[hx] at r1;rw[hi] at r2;simp only[aB] at r1 r2;have hlt:i.toNat<l.length:=by omega
 have hb':0<=i:=hb.1;refine ⟨.int .u8 (l.getD i.toNat 0).toNat,?_,by simp[byte,aB]⟩;have e1:(ByteArray.mk l.toArray)[i.toNat]? =some (l.getD i.toNat 0):=by
  have hs:(ByteArray.mk l.toArray).size=l.length:=by simp[ByteArray.size]
  rw[getElem?_pos _ _ (by rw[hs];exact hlt)];simp[List.getD,N0 hlt];rfl
 simp[execOp,hop,Instr.index,r1,r2,run_underlying hT,asIntOf,hb',e1]
theorem yL{y:Opd}{z:Operand}{ty:TypeId}{c:Call}{B:Nat}(hop:o.op= .call c)(hc:c.callee= .builtin .len)(ha:c.args.toList=[z])(hta:c.argTypes.toList=[ty])
  (h1:opd P ty z=some y) (ht:cG G w t a) (hT:P.underlying ty=some .string) (e1:ev t y= .sup B):Plain P G w a o (.wint .i64):=by
 have r1:=aJ h1 ht;have ha':c.args= #[z]:=by rw[<-Array.toArray_toList (xs:=c.args),ha]
 have hta':c.argTypes= #[ty]:=by rw[<-Array.toArray_toList (xs:=c.argTypes),hta]
 rw[e1] at r1;simp only[aB] at r1;obtain ⟨l,r1,-⟩:=r1;have hs:(ByteArray.mk l.toArray).size=l.length:=by simp[ByteArray.size]
 refine ⟨.int .i64 l.length,?_,by simp[aB]⟩;simp[execOp,hop,resolve,hc,ha',hta',invoke,builtin,Builtin.len_,run_underlying hT,r1,goInt,hs]
theorem pI{y:Opd}{z:Operand}{ty:TypeId}{c:Call}{n:Nat}(hop:o.op= .call c)(hc:c.callee= .builtin .len)(ha:c.args.toList=[z])(hta:c.argTypes.toList=[ty])
  (h1:opd P ty z=some y) (ht:cG G w t a)
  (hx:(P.underlying ty=some .string/\∃l,ev t y= .str l/\n=l.length)\/(∃e,P.underlying ty=some (.slice e))/\((∃s xs c,ev t y= .sl s xs c/\n=xs.length)\/∃sz id off cap,ev t y= .tsl sz id off n cap)):Plain P G w a o (.int .i64 n):=by
 have r1:=aJ h1 ht;have ha':c.args= #[z]:=by rw[<-Array.toArray_toList (xs:=c.args),ha]
 have hta':c.argTypes= #[ty]:=by rw[<-Array.toArray_toList (xs:=c.argTypes),hta]
 refine ⟨.int .i64 n,?_,by simp[aB]⟩;rcases hx with ⟨hT,l,e1,e2⟩|⟨⟨e,hT⟩,⟨s,xs,c',e1,e2⟩|⟨sz,id,off,cap,e1⟩⟩
 ·rw[e1] at r1;simp only[aB] at r1;have hs:(ByteArray.mk l.toArray).size=n:=by simp[ByteArray.size,e2]
  simp[execOp,hop,resolve,hc,ha',hta',invoke,builtin,Builtin.len_,run_underlying hT,r1,goInt,hs]
 ·rw[e1] at r1;simp only[aB] at r1;rcases r1 with ⟨rfl,⟨a0,r1⟩,-⟩|⟨B,off,C,vs,r1,-⟩ <;>
   simp[execOp,hop,resolve,hc,ha',hta',invoke,builtin,Builtin.len_,run_underlying hT,r1,goInt,e2]
 ·rw[e1] at r1;simp only[aB] at r1;obtain ⟨-,⟨C,c0,T0,fr,r1,-⟩|⟨h0,⟨a0,r1⟩,-⟩⟩:=r1
  ·simp[execOp,hop,resolve,hc,ha',hta',invoke,builtin,Builtin.len_,run_underlying hT,r1,goInt]
  ·simp[execOp,hop,resolve,hc,ha',hta',invoke,builtin,Builtin.len_,run_underlying hT,r1,goInt,h0]
theorem tE{y:Opd}{z:Operand}{ty e:TypeId}{c:Call}{n:Nat}(hop:o.op= .call c)(hc:c.callee= .builtin .cap)(ha:c.args.toList=[z])(hta:c.argTypes.toList=[ty])
  (h1:opd P ty z=some y) (ht:cG G w t a) (hT:P.underlying ty=some (.slice e)) (hx:(∃s xs,ev t y= .sl s xs (.exact n))\/∃sz id off len,ev t y= .tsl sz id off len (some n)):Plain P G w a o (.int .i64 n):=by
 have r1:=aJ h1 ht;have ha':c.args= #[z]:=by rw[<-Array.toArray_toList (xs:=c.args),ha]
 have hta':c.argTypes= #[ty]:=by rw[<-Array.toArray_toList (xs:=c.argTypes),hta]
 refine ⟨.int .i64 n,?_,by simp[aB]⟩;have key:∃ad len,a.eval z= .slice ad len n:=by
  rcases hx with ⟨s,xs,e1⟩|⟨sz,id,off,len,e1⟩
  ·rw[e1] at r1;simp only[aB] at r1;rcases r1 with ⟨-,⟨a0,r1⟩,hn⟩|⟨B,off,C,vs,r1,-,-,-,-,hC⟩
   ·simp only[kP] at hn;exact ⟨_,_,by rw[r1,hn]⟩
   ·simp only[di] at hC;exact ⟨_,_,by rw[r1,hC]⟩
  ·rw[e1] at r1;simp only[aB] at r1;obtain ⟨-,⟨C,c0,T0,fr,r1,-,hk,-⟩|⟨h0,⟨a0,r1⟩,hk⟩⟩:=r1
   ·exact ⟨_,_,by rw[r1,hk n rfl]⟩
   ·exact ⟨_,_,by rw[r1,hk n rfl]⟩
 obtain ⟨ad,len,key⟩:=key;simp[execOp,hop,resolve,hc,ha',hta',invoke,builtin,Builtin.cap_,run_underlying hT,key,goInt]
theorem Cw{y:Opd}{z:Operand}{ty:TypeId}{d:TypeDesc}(hop:o.op= .makeInterface ty z)(hT:P.underlying ty=some d)(hd:∀q,d≠ .interface q)(h1:opd P ty z=some y)(ht:cG G w t a):Plain P G w a o (.ifc ty (ev t y)):=by
 have r1:=aJ h1 ht;refine ⟨.iface ty (a.eval z),?_,by simp only[aB];exact ⟨_,rfl,r1⟩⟩;have hr:(Instr.makeInterface ty (a.eval z)).run P w= .ok (.iface ty (a.eval z)) w:=by
  cases d<;>first|exact absurd rfl (hd _)|simp[Instr.makeInterface,Sem.run_bind,run_underlying hT,Result.andThen]
 simp[execOp,hop,Sem.run_bind,hr,Result.andThen]
theorem wq{mx:Bool}{y1 y2:Opd}{z1 z2:Operand}{c:Call}{z:AV}(hop:o.op= .call c)(hc:c.callee= .builtin (if mx then .max else .min))(ha:c.args.toList=[z1,z2])
  (h1:opd P 0 z1=some y1) (h2:opd P 0 z2=some y2) (ht:cG G w t a) (hz:mm mx (ev t y1) (ev t y2)=some z):Plain P G w a o z:=by
 have r1:=aJ h1 ht;have r2:=aJ h2 ht;have ha':c.args= #[z1,z2]:=by rw[<-Array.toArray_toList (xs:=c.args),ha]
 generalize ev t y1=X at*
 generalize ev t y2=Y at*
 unfold mm at hz;split at hz
 ·rename_i k p k' q;cases hz;simp only[aB] at r1 r2;cases mx
  ·simp only[Oa,N5] at hc |-;exact ⟨_,by simp[execOp,hop,resolve,hc,ha',invoke,builtin,Builtin.min_,Builtin.min2,r1,r2];rfl,by simp[aB]⟩
  ·simp only[N9] at hc |-;exact ⟨_,by simp[execOp,hop,resolve,hc,ha',invoke,builtin,Builtin.max_,Builtin.max2,r1,r2];rfl,by simp[aB]⟩
 ·rename_i p q;cases hz;simp only[aB] at r1 r2;have hb:∀(u v:List UInt8),(u == v)=decide (u=v):=λu v=>by
   rw[QL];simp
  cases mx
  ·simp only[Oa,N5] at hc |-;refine ⟨.string (if (Op.bytesLess p q||decide (p=q))=true then ⟨p.toArray⟩ else ⟨q.toArray⟩),?_,?_⟩
   ·simp[execOp,hop,resolve,hc,ha',invoke,builtin,Builtin.min_,Builtin.min2,r1,r2,Op.stringOp,asBool,ByteArray.toList_eq,hb]
   ·simp only[aB];split<;>rfl
  ·simp only[N9] at hc |-;refine ⟨.string (if (!Op.bytesLess p q)=true then ⟨p.toArray⟩ else ⟨q.toArray⟩),?_,?_⟩
   ·simp[execOp,hop,resolve,hc,ha',invoke,builtin,Builtin.max_,Builtin.max2,r1,r2,Op.stringOp,asBool,ByteArray.toList_eq,hb]
   ·simp only[aB];split<;>rfl
 ·cases hz
theorem yM{c:Call}{z:Operand}{y:Opd}{T:TypeId}{sz id off:Nat}{cap:Option Nat}(hop:o.op= .call c)(hc:c.callee= .builtin .clear)(ha:c.args.toList=[z])(hta:c.argTypes.toList=[T])
  (hy:opd P T z=some y) (ht:cG G w t a) (hx:ev t y= .tsl sz id off 0 cap) (hT:∃d,P.underlying T=some d):Plain P G w a o .any:=by
 have r1:=aJ hy ht;have ha':c.args= #[z]:=by rw[<-Array.toArray_toList (xs:=c.args),ha]
 have hta':c.argTypes= #[T]:=by rw[<-Array.toArray_toList (xs:=c.argTypes),hta]
 obtain ⟨d,hT⟩:=hT;rw[hx] at r1;simp only[aB] at r1;refine ⟨.tuple #[],?_,by simp[aB]⟩;obtain ⟨-,⟨C,c0,T0,fr,r1,-⟩|⟨-,⟨a0,r1⟩,-⟩⟩:=r1<;>
  cases d<;>simp[execOp,hop,resolve,hc,ha',hta',invoke,builtin,Builtin.clear_,run_underlying hT,r1]
end
section
variable{P:Program}{G:aQ}{w:World}
theorem add_plain(B off k:Nat):(⟨B,off,none⟩:Addr).add k=⟨B,off+k,none⟩:=by
 unfold Addr.add;split<;>simp_all
theorem aK.length{sz:Nat}:∀{xs:List AV}{vs:List Value},aK G w sz xs vs->vs.length=xs.length*sz
 |[],vs,h=>by simp only[aK] at h;simp[h]
 |x::xs,vs,h=>by
  simp only[aK] at h;obtain ⟨v,us,rfl,h1,_,h2⟩:=h;simp[aK.length h2,h1,Px];omega
theorem aK.drop{sz:Nat}:∀{xs:List AV}{vs:List Value}(n:Nat),aK G w sz xs vs->aK G w sz (xs.drop n) (vs.drop (n*sz))
 |xs,vs,0,h=>by simpa using h
 |[],vs,n+1,h=>by simp only[aK] at h;simp[h,aK]
 |x::xs,vs,n+1,h=>by
  simp only[aK] at h;obtain ⟨v,us,rfl,h1,_,h2⟩:=h;have e:(n+1)*sz=v.cells.toList.length+n*sz:=by simp[h1,Px];omega
  have e2:(v.cells.toList++us).drop (v.cells.toList.length+n*sz)=us.drop (n*sz):=by
   rw[<-PQ,QV]
  rw[e,e2];simpa using aK.drop n h2
theorem aK.take{sz:Nat}:∀{xs:List AV}{vs:List Value}(n:Nat),aK G w sz xs vs->aK G w sz (xs.take n) (vs.take (n*sz))
 |xs,vs,0,h=>by simp[aK]
 |[],vs,n+1,h=>by simp only[aK] at h;simp[h,aK]
 |x::xs,vs,n+1,h=>by
  simp only[aK] at h;obtain ⟨v,us,rfl,h1,h1',h2⟩:=h;have e:(n+1)*sz=v.cells.toList.length+n*sz:=by simp[h1,Px];omega
  rw[e,List.take_length_add_append];simp only[List.take_succ_cons,aK];exact ⟨v,_,rfl,h1,h1',aK.take n h2⟩
theorem aK.append{sz:Nat}:∀{xs ys:List AV}{vs us:List Value},aK G w sz xs vs->aK G w sz ys us->aK G w sz (xs++ys) (vs++us)
 |[],ys,vs,us,h,h'=>by simp only[aK] at h;subst h;simpa using h'
 |x::xs,ys,vs,us,h,h'=>by
  simp only[aK] at h;obtain ⟨v,vs',rfl,h1,h2,h3⟩:=h;simp only[List.cons_append,aK,Pn];exact ⟨v,_,rfl,h1,h2,aK.append h3 h'⟩
theorem aK.get{sz:Nat}:∀{xs:List AV}{vs:List Value}(i:Nat),aK G w sz xs vs->i<xs.length->
  ∃v:Value,v.cells.size=sz/\aB G w (xs.getD i .any) v/\∀j u,v.cells.toList[j]? =some u->vs[i*sz+j]? =some u
 |[],vs,i,h,hi=>by simp at hi
 |x::xs,vs,0,h,hi=>by
  simp only[aK] at h;obtain ⟨v,us,rfl,h1,h2,h3⟩:=h;refine ⟨v,h1,by simpa using h2,λj u hu=>?_⟩;have:j<v.cells.toList.length:=by
   rcases Ps j v.cells.toList.length with h|h
   ·exact h
   ·rw[Pp h] at hu;cases hu
  rw[OI (by simpa using this)];simpa using hu
 |x::xs,vs,i+1,h,hi=>by
  simp only[aK] at h;obtain ⟨v,us,rfl,h1,h2,h3⟩:=h;obtain ⟨v',e1,e2,e3⟩:=aK.get i h3 (by simpa using hi);refine ⟨v',e1,by simpa using e2,λj u hu=>?_⟩;have e:(i+1)*sz+j=v.cells.toList.length+(i*sz+j):=by simp[h1,Px];omega
  rw[e,PD aa];simpa using e3 j u hu
theorem dU{x:AV}{v:Value}(h:aB G w x v)(hx:cM x=true\/∃cs,x= .agg cs):aC G w (cellsOf x) v.cells.toList:=by
 rcases hx with hx|⟨cs,rfl⟩
 ·have hv:v.cells= #[v]:=by
   cases x<;>simp only[aB] at h<;>simp[cM] at hx<;>first
    |(subst h;rfl)
    |(obtain ⟨-,rfl⟩:=h;rfl)
    |skip
   ·rename_i u;cases u<;>simp_all<;>rfl
   ·rcases h with ⟨-,⟨_,rfl⟩,-⟩|⟨_,_,_,_,rfl,-⟩ <;>rfl
   ·obtain ⟨_,_,_,rfl,-⟩:=h;rfl
   ·obtain ⟨-,⟨_,_,_,_,rfl,-⟩|⟨-,⟨_,rfl⟩,-⟩⟩:=h<;>rfl
   ·obtain ⟨_,_,rfl,-⟩:=h;rfl
   ·obtain ⟨_,rfl,-⟩:=h;rfl
   ·obtain ⟨_,_,_,_,_,rfl,-⟩:=h;rfl
   ·obtain ⟨_,rfl,-⟩:=h;rfl
   ·obtain ⟨_,_,⟨-,_,rfl⟩|⟨_,_,_,rfl,-⟩⟩:=h<;>rfl
   ·obtain ⟨h1,h2⟩:=h;cases v<;>first|rfl|exact absurd rfl (h1 _)|exact absurd rfl (h2 _)
  rw[hv];have:cellsOf x=[x]:=by cases x<;>simp[cM] at hx<;>rfl
  rw[this];exact .cons h .nil
 ·simp only[aB] at h;obtain ⟨vs,rfl,hr⟩:=h;simpa [cellsOf,Value.cells] using hr
theorem yN{x:AV}{v:Value}(h:aB G w x v)(hx:cM x=true):One v:=by
 unfold One;cases x
 case sc u=>simp only[aB] at h;subst h;cases v<;>simp_all [cM]
 case sl=>simp only[aB] at h;rcases h with ⟨-,⟨_,rfl⟩,-⟩|⟨_,_,_,_,rfl,-⟩ <;>simp
 case ref=>simp only[aB] at h;obtain ⟨_,_,_,rfl,-⟩:=h;simp
 case tsl=>simp only[aB] at h;obtain ⟨-,⟨_,_,_,_,rfl,-⟩|⟨-,⟨_,rfl⟩,-⟩⟩:=h<;>simp
 case clo=>simp only[aB] at h;obtain ⟨_,_,rfl,-⟩:=h;simp
 case ifc=>simp only[aB] at h;obtain ⟨_,rfl,-⟩:=h;simp
 case slt=>simp only[aB] at h;obtain ⟨_,_,_,_,_,rfl,-⟩:=h;simp
 case sup=>simp only[aB] at h;obtain ⟨_,rfl,-⟩:=h;simp
 case supb=>simp only[aB] at h;obtain ⟨_,_,⟨-,_,rfl⟩|⟨_,_,_,rfl,-⟩⟩:=h<;>simp
 case wint=>simp only[aB] at h;obtain ⟨_,rfl⟩:=h;simp
 case one=>simp only[aB] at h;exact h
 all_goals first
  |(simp [cM] at hx;done)
  |(simp only[aB] at h;subst h;simp;done)
  |(simp only[aB] at h;obtain ⟨-,rfl⟩:=h;simp;done)
theorem Imm.drop{B off:Nat}{vs:List Value}(n:Nat)(h:Imm G w B off vs):Imm G w B (off+n) (vs.drop n):=by
 intro i v hv;rw[PM] at hv;have:=h (n+i) v hv
 rwa [<-PH] at this
theorem Imm.take{B off:Nat}{vs:List Value}(n:Nat)(h:Imm G w B off vs):Imm G w B off (vs.take n):=by
 intro i v hv;rw[List.getElem?_take] at hv;split at hv
 ·exact h i v hv
 ·cases hv
theorem Imm.nil{B off:Nat}:Imm G w B off []:=λi v hv=>by simp at hv
variable{t:Tm}{a:Act}{o:Oper}{h h':H}{x:AV}{en:Ent}
theorem kb(P:Program)(w:World)(ty:TypeId)(hs:(P.underlying ty).isSome=true):(isAgg ty).run P w= .ok (bL P ty) w:=by
 obtain ⟨d,hd⟩:=Qk.1 hs;simp only[isAgg,Sem.run_bind,run_underlying hd,Result.andThen_ok,bL,hd];cases d<;>rfl
theorem fx(P:Program)(w:World){k:IntKind}{i:Int}{y:Nat}{code:BoundsCode}(h0:0<=i)(h1:i<=y):(Instr.sliceBound (.int k i) y code).run P w= .ok i.toNat w:=by
 simp[Instr.sliceBound,asIntOf,h0,h1]
theorem cH(P:Program)(w:World)(ty:TypeId)(hs:(P.info? ty).isSome=true):(sizeOf ty).run P w= .ok (P.cellsOf ty) w:=by
 obtain ⟨d,hd⟩:=Qk.1 hs;simp[sizeOf,typeInfo,hd,Program.cellsOf]
theorem jA(P:Program)(w:World)(ty:TypeId)(B off:Nat)(cs:List Value)(h1:(P.info? ty).isSome=true)(h2:(P.underlying ty).isSome=true)(hagg:bL P ty=true)
  (hn:cs.length=P.cellsOf ty) (hc:∀j v,cs[j]? =some v->w.cell? ⟨B,off+j,none⟩=some v):(loadVar ty ⟨B,off,none⟩).run P w= .ok (.agg cs.toArray) w:=by
 have hl:=run_loadCells_list (P:=P) w ⟨B,off,none⟩ cs (λj v hv=>by rw[add_plain];exact hc j v hv);simp only[loadVar,Sem.run_bind,kb P w ty h2,hagg,Result.andThen_ok,cH P w ty h1,<-hn,N9,Sem.run_map];simp[hl]
theorem kd(P:Program)(w:World)(ty:TypeId)(ad:Addr)(v:Value)(h2:(P.underlying ty).isSome=true)(hagg:bL P ty=false)
  (hc:w.cell? ad=some v):(loadVar ty ad).run P w= .ok v w:=by
 simp[loadVar,kb P w ty h2,hagg,hc]
theorem nR{off:Nat}{n:Option Nat}{cs:List AV}{vs:List Value}(hr:aC G w cs vs)(hp:part off n cs=some x):
  (n=none/\∃v,vs[off]? =some v/\aB G w x v)\/∃m,n=some m/\off+m<=vs.length/\aB G w x (.agg ((vs.drop off).take m).toArray):=by
 unfold part at hp;split at hp
 ·obtain ⟨v,h1,h2⟩:=hr.get hp;exact .inl ⟨rfl,v,h1,h2⟩
 ·rename_i m;split at hp
  ·cases hp;refine .inr ⟨m,rfl,by rw[hr.length];assumption,?_⟩;simp only[aB];exact ⟨_,rfl,(hr.drop off).take m⟩
  ·cases hp
theorem nS{ty:TypeId}{z:Operand}{y:Opd}(hop:o.op= .load ty z)(h1:(P.info? ty).isSome=true)(h2:(P.underlying ty).isSome=true)(hy:opd P 0 z=some y)(ht:cG G w t a)
  {B off:Nat} {vs:List Value} {cs:List AV} (hv:a.eval z= .pointer (some ⟨B,off,none⟩)) (hr:aC G w cs vs) (hc:∀j v,vs[j]? =some v->w.cell? ⟨B,off+j,none⟩=some v)
  (hp:part 0 (if bL P ty then some (P.cellsOf ty) else none) cs=some x):Plain P G w a o x:=by
 rcases nR hr hp with ⟨e,v,e1,e2⟩|⟨m,e,e1,e2⟩
 ·have hagg:bL P ty=false:=by
   cases hh:bL P ty<;>simp[hh] at e |-
  refine ⟨v,?_,e2⟩;have:=kd P w ty ⟨B,off,none⟩ v h2 hagg (by simpa using hc 0 v e1);simp[execOp,hop,Instr.loadAt,hv,Instr.sureAddr,this]
 ·have hagg:bL P ty=true:=by
   cases hh:bL P ty<;>simp[hh] at e |-
  have hm:m=P.cellsOf ty:=by simpa [hagg] using e.symm
  refine ⟨_,?_,e2⟩;have:=jA P w ty B off ((vs.drop 0).take m) h1 h2 hagg (by simp[hm] at e1 |-;omega) (λj v hj=>hc j v (by
   rw[List.getElem?_take] at hj;split at hj
   ·simpa using hj
   ·cases hj))
  rw[Pw] at this;simp[execOp,hop,Instr.loadAt,hv,Instr.sureAddr,this]
theorem wu(P:Program)(w:World)(ty:TypeId)(off:Nat)(cs:List AV)(vs:List Value)(h1:(P.info? ty).isSome=true)(h2:(P.underlying ty).isSome=true)(hr:aC G w cs vs)
  (hp:part off (if bL P ty then some (P.cellsOf ty) else none) cs=some x):∃v,(Go.part ty vs.toArray off).run P w= .ok v w/\aB G w x v:=by
 rcases nR hr hp with ⟨e,v,e1,e2⟩|⟨m,e,e1,e2⟩
 ·have hagg:bL P ty=false:=by
   cases hh:bL P ty<;>simp[hh] at e |-
  refine ⟨v,?_,e2⟩;simp[Go.part,kb P w ty h2,hagg,e1]
 ·have hagg:bL P ty=true:=by
   cases hh:bL P ty<;>simp[hh] at e |-
  have hm:m=P.cellsOf ty:=by simpa [hagg] using e.symm
  refine ⟨_,?_,e2⟩;simp[Go.part,kb P w ty h2,hagg,cH P w ty h1,hm]
theorem Cy{ty:TypeId}{z:Operand}{y:Opd}{f:Nat}{fs:Array Field}{fd:Field}{cs:List AV}(hop:o.op= .field ty z f)(hu:P.underlying ty=some (.struct fs))(hf:fs[f]? =some fd)
  (h1:(P.info? fd.type).isSome=true) (h2:(P.underlying fd.type).isSome=true) (hy:opd P ty z=some y) (ht:cG G w t a) (hx:ev t y= .agg cs)
  (hp:part fd.offset (if bL P fd.type then some (P.cellsOf fd.type) else none) cs=some x):Plain P G w a o x:=by
 have r:=aJ hy ht;rw[hx] at r;simp only[aB] at r;obtain ⟨vs,hv,hr⟩:=r;obtain ⟨v,e1,e2⟩:=wu P w fd.type fd.offset cs vs h1 h2 hr hp;exact ⟨v,by simp[execOp,hop,Instr.field,run_underlying hu,hf,hv,asAgg,e1],e2⟩
theorem qy{ty:TypeId}{z:Operand}{y:Opd}{f:Nat}{fs:Array Field}{fd:Field}(hop:o.op= .fieldAddr ty z f)(hu:P.underlying ty=some (.struct fs))(hf:fs[f]? =some fd)
  (h1:(P.info? fd.type).isSome=true) (h2:0<P.cellsOf fd.type) (hy:opd P 0 z=some y) (ht:cG G w t a)
  (hx:(∃cs,ev t y= .ref cs/\x= .ref (cs.drop fd.offset))\/∃id off,ev t y= .ptr id off/\x= .ptr id (off+fd.offset)):Plain P G w a o x:=by
 have r:=aJ hy ht;have hz:P.cellsOf fd.type≠0:=by omega
 rcases hx with ⟨cs,hx,rfl⟩|⟨id,off,hx,rfl⟩
 ·rw[hx] at r;simp only[aB] at r;obtain ⟨B,off,vs,hv,hr,hi⟩:=r;refine ⟨.pointer (some ⟨B,off+fd.offset,none⟩),?_,?_⟩
  ·simp[execOp,hop,Instr.fieldAt,run_underlying hu,hf,hv,Instr.sureAddr,fieldPlace,cH P w _ h1,hz,add_plain]
  ·simp only[aB];exact ⟨B,_,_,rfl,hr.drop _,hi.drop _⟩
 ·rw[hx] at r;simp only[aB] at r;obtain ⟨hd,hv⟩:=r;refine ⟨.pointer (some ⟨G.ι id,off+fd.offset,none⟩),?_,?_⟩
  ·simp[execOp,hop,Instr.fieldAt,run_underlying hu,hf,hv,Instr.sureAddr,fieldPlace,cH P w _ h1,hz,add_plain]
  ·simp only[aB];exact ⟨hd,trivial⟩
theorem qz{ty e:TypeId}{z1 z2:Operand}{y1 y2:Opd}{k:IntKind}{i:Int}(hop:o.op= .indexAddr ty z1 z2)(hu:P.underlying ty=some (.slice e))(h1:(P.info? e).isSome=true)
  (hy1:opd P ty z1=some y1) (hy2:opd P 0 z2=some y2) (ht:cG G w t a) (hi:ev t y2= .int k i) (h0:0<=i)
  (hx:(∃xs c,ev t y1= .sl (P.cellsOf e) xs c/\i<xs.length/\x= .ref (cellsOf (xs.getD i.toNat .any))/\(cM (xs.getD i.toNat .any)=true\/∃cs,xs.getD i.toNat .any= .agg cs))\/
   ∃id off len cap,ev t y1= .tsl (P.cellsOf e) id off len cap/\i<len/\x= .ptr id (off+i.toNat*P.cellsOf e)):Plain P G w a o x:=by
 have r1:=aJ hy1 ht;have r2:=aJ hy2 ht;rw[hi] at r2;simp only[aB] at r2;rcases hx with ⟨xs,c,hx,hlt,rfl,hcell⟩|⟨id,off,len,cap,hx,hlt,rfl⟩
 ·rw[hx] at r1;simp only[aB] at r1;rcases r1 with ⟨rfl,-⟩|⟨B,off,C,vs,hv,hC,hl,he,him,-⟩
  ·simp at hlt;omega
  ·have hlt':i.toNat<xs.length:=by omega
   obtain ⟨v,e1,e2,e3⟩:=he.get i.toNat hlt';refine ⟨.pointer (some ⟨B,off+i.toNat*P.cellsOf e,none⟩),?_,?_⟩
   ·have hlt2:i<(xs.length:Int):=hlt;simp[execOp,hop,Instr.indexAt,run_underlying hu,hv,r2,asIntOf,h0,hlt2,cH P w _ h1,add_plain]
   ·simp only[aB];refine ⟨B,_,v.cells.toList,rfl,dU e2 hcell,λj u hu'=>?_⟩;have:=him _ u (e3 j u hu');simpa [PH] using this
 ·rw[hx] at r1;simp only[aB] at r1;obtain ⟨hd,⟨C,c0,T0,fr,hv,-⟩|⟨h0,-⟩⟩:=r1;rotate_left
  ·omega
  refine ⟨.pointer (some ⟨G.ι id,off+i.toNat*P.cellsOf e,none⟩),?_,?_⟩
  ·simp[execOp,hop,Instr.indexAt,run_underlying hu,hv,r2,asIntOf,h0,hlt,cH P w _ h1,add_plain]
  ·simp only[aB];exact ⟨hd,trivial⟩
def wv(lo:Option AV)(vl:Option Value):Prop:=
 match lo,vl with
 |none,none=>True
 |some x,some v=>∃k i,x= .int k i/\v= .int k i
 |_,_=>False
theorem fh{lo:Option AV}{vl:Option Value}{d u r:Nat}(hb:wv lo vl)(hr:bound lo d u=some r):
  (lo=none/\vl=none/\r=d)\/∃k i,lo=some (.int k i)/\vl=some (.int k i)/\0<=i/\i<=u/\r=i.toNat:=by
 cases lo with
 |none=>
  cases vl with
  |none=>simp[bound] at hr;exact .inl ⟨rfl,rfl,hr.symm⟩
  |some v=>cases hb
 |some x=>
  cases vl with
  |none=>cases hb
  |some v=>
   obtain ⟨k,i,rfl,rfl⟩:=hb;simp only[bound] at hr;split at hr
   ·rename_i hh;cases hr;exact .inr ⟨k,i,rfl,rfl,hh.1,hh.2,rfl⟩
   ·cases hr
theorem oD{P:Program}{w:World}{isSl:Bool}{lo hi:Option AV}{vl vh:Option Value}{len cap h l:Nat}(bl:wv lo vl)(bh:wv hi vh)(hh:bound hi len len=some h)(hl:bound lo 0 h=some l)(hc:len<=cap):
  (Instr.sliceBounds isSl len cap vl vh none).run P w= .ok (l,h,cap) w/\l<=h/\h<=len:=by
 have hhl:h<=len:=by
  rcases fh bh hh with ⟨_,_,rfl⟩|⟨k,i,_,_,h0,h1,rfl⟩ <;>omega
 have hlh:l<=h:=by
  rcases fh bl hl with ⟨_,_,rfl⟩|⟨k,i,_,_,h0,h1,rfl⟩ <;>omega
 refine ⟨?_,hlh,hhl⟩;unfold Instr.sliceBounds;rcases fh bh hh with ⟨_,rfl,rfl⟩|⟨k,i,_,rfl,h0,h1,rfl⟩ <;>
  rcases fh bl hl with ⟨_,rfl,rfl⟩|⟨k',i',_,rfl,h0',h1',rfl⟩
 ·simp
 ·simp[fx P w h0' h1']
 ·have h1c:i<=(cap:Int):=by omega
  simp[fx P w h0 h1c]
 ·have h1c:i<=(cap:Int):=by omega
  simp[fx P w h0 h1c,fx P w h0' h1']
theorem Ba{P:Program}{w:World}{lo hi:Option AV}{vl vh:Option Value}{vm:Value}{k:IntKind}{j:Int}{len cap h l:Nat}(bl:wv lo vl)(bh:wv hi vh)(hvm:vm= .int k j)(hj:0<=j/\j<=len)(hsome:hi≠none)
  (hh:bound hi len j.toNat=some h) (hl:bound lo 0 h=some l) (hc:len<=cap):
  (Instr.sliceBounds true len cap vl vh (some vm)).run P w= .ok (l,h,j.toNat) w/\l<=h/\h<=j.toNat:=by
 have hhl:h<=j.toNat:=by
  rcases fh bh hh with ⟨e,_⟩|⟨k,i,_,_,h0,h1,rfl⟩
  ·exact absurd e hsome
  ·omega
 have hlh:l<=h:=by
  rcases fh bl hl with ⟨_,_,rfl⟩|⟨k,i,_,_,h0,h1,rfl⟩ <;>omega
 refine ⟨?_,hlh,hhl⟩;subst hvm;have hjc:j<=(cap:Int):=by omega
 unfold Instr.sliceBounds;rcases fh bh hh with ⟨e,_⟩|⟨k,i,_,rfl,h0,h1,rfl⟩
 ·exact absurd e hsome
 ·rcases fh bl hl with ⟨_,rfl,rfl⟩|⟨k',i',_,rfl,h0',h1',rfl⟩
  ·simp[fx P w hj.1 hjc,fx P w h0 h1]
  ·simp[fx P w hj.1 hjc,fx P w h0 h1,fx P w h0' h1']
theorem Cz{ty:TypeId}{vl vh:Option Value}{lo hi:Option AV}{l:List UInt8}{hh ll:Nat}(hu:P.underlying ty=some .string)(bl:wv lo vl)(bh:wv hi vh)
  (h1:bound hi l.length l.length=some hh) (h2:bound lo 0 hh=some ll):
  (Instr.sliceAt ty (.string ⟨l.toArray⟩) vl vh none).run P w= .ok (.string ⟨((l.take hh).drop ll).toArray⟩) w:=by
 have hs:(ByteArray.mk l.toArray).size=l.length:=by simp[ByteArray.size]
 obtain ⟨hb,hlh,hhl⟩:=oD (P:=P) (w:=w) (isSl:=false) bl bh h1 h2 (NY _);have e:(ByteArray.mk l.toArray).extract ll hh=⟨((l.take hh).drop ll).toArray⟩:=by
  apply ByteArray.ext;simp[ByteArray.data_extract];rw[List.drop_take]
 simp[Instr.sliceAt,run_underlying hu,Instr.slice,hs,hb,e]
theorem tF{s sz:Nat}{xs:List AV}{c':Cap}{B off C ll hh m:Nat}{vs:List Value}(hs:s=sz\/xs=[])(hC:xs.length<=C)(hl:vs.length=xs.length*s)(he:aK G w s xs vs)(hi:Imm G w B off vs)
  (hlh:ll<=hh) (hhx:hh<=xs.length) (hhm:hh<=m)
  (hcap:di G w c' B (off+ll*s) (hh - ll) (m - ll) s):
  aB G w (.sl s ((xs.take hh).drop ll) c') (.slice (some ⟨B,off+ll*s,none⟩) (hh - ll) (m - ll)):=by
 simp only[aB];have hlen:((xs.take hh).drop ll).length=hh - ll:=by simp[Pv hhx]
 refine .inr ⟨B,off+ll*s,m - ll,(vs.take (hh*s)).drop (ll*s),by rw[hlen],by rw[hlen];omega,?_,?_,(hi.take _).drop _,by rw[hlen];exact hcap⟩
 ·rw[hlen,OC,OJ,hl,Pv (PB s hhx),Nat.sub_mul]
 ·exact (he.take hh).drop ll
theorem tG{ty e:TypeId}{z:Operand}{y:Opd}{lo hi mx:Option Operand}{ylo yhi ymx:Option Opd}{str:Bool}{sz:Nat}
  (hop:o.op= .slice ty z lo hi mx) (hT:(str=true/\P.underlying ty=some .string/\mx=none/\ymx=none)\/(str=false/\P.underlying ty=some (.slice e)/\(P.info? e).isSome=true/\sz=P.cellsOf e))
  (hy:opd P ty z=some y) (hlo:lY P lo=some ylo) (hhi:lY P hi=some yhi) (hmx:lY P mx=some ymx) (ht:cG G w t a)
  (hmh:ymx≠none->yhi≠none)
  (hx:slice str sz (ev t y) (ylo.map (ev t)) (yhi.map (ev t)) (ymx.map λm=>some (ev t m))=some x):Plain P G w a o x:=by
 have r:=aJ hy ht;have hB:∀{l:Option Operand}{yl:Option Opd}(h:lY P l=some yl){d u r:Nat},bound (yl.map (ev t)) d u=some r->wv (yl.map (ev t)) (l.map a.eval):=by
  intro l yl h d u r hr;cases l with
  |none=>simp[lY] at h;subst h;trivial
  |some q=>
   simp only[lY,N8] at h;obtain ⟨b,hb,rfl⟩:=h;have rr:=aJ hb ht;simp only[Option.map_some] at hr |-;unfold bound at hr;split at hr
   ·rename_i e;cases e
   ·rename_i k i e;simp only[Oi] at e;rw[e] at rr;simp only[aB] at rr;exact ⟨k,i,e,rr⟩
   ·cases hr
 unfold slice at hx;split at hx
 ·
  rename_i l hl;rw[hl] at r;simp only[aB] at r;split at hx
  ·rename_i hs;rcases hT with ⟨-,hu,hm1,hm2⟩|⟨h,_⟩
   ·subst hm1 hm2;simp only[Option.map_none,OZ,N8] at hx;obtain ⟨hh,e1,ll,e2,rfl⟩:=hx;refine ⟨.string ⟨((l.take hh).drop ll).toArray⟩,?_,by simp only[aB]⟩;simp[execOp,hop,r,Cz hu (hB hlo e2) (hB hhi e1) e1 e2]
   ·simp[hs] at h
  ·cases hx
 ·rename_i s xs c hl;rw[hl] at r;split at hx
  ·rename_i hs;obtain ⟨hs1,hs⟩:=hs;rcases hT with ⟨h,_⟩|⟨-,hu,hinf,rfl⟩
   ·simp[hs1] at h
   ·simp only[aB] at r;have hrun:∀(vmx:Option Value)(l h m n C:Nat)(ad:Option Addr),(Instr.sliceBounds true n C (lo.map a.eval) (hi.map a.eval) vmx).run P w= .ok (l,h,m) w->
      (Instr.sliceAt ty (.slice ad n C) (lo.map a.eval) (hi.map a.eval) vmx).run P w= .ok (.slice (if m=l then ad else ad.map (·.add (l*P.cellsOf e))) (h - l) (m - l)) w:=by
     intro vmx l h m n C ad hb;simp[Instr.sliceAt,run_underlying hu,Instr.slice,hb,cH P w e hinf]
    have hmul:∀ll,ll<=xs.length->ll*P.cellsOf e=ll*s:=by
     intro ll hle;rcases hs with rfl|rfl
     ·rfl
     ·simp at hle;subst hle;simp
    split at hx
    ·
     rename_i hmn;have hmx0:mx=none:=by
      cases mx with
      |none=>rfl
      |some q=>
       simp only[lY,N8] at hmx;obtain ⟨b,hb,rfl⟩:=hmx;simp at hmn
     subst hmx0;simp only[OZ,N8] at hx;obtain ⟨hh,e1,ll,e2,rfl⟩:=hx;rcases r with ⟨rfl,⟨a0,hv⟩,hcn⟩|⟨B,off,C,vs,hv,hC,hvl,he,him,hcap⟩
     ·obtain ⟨hb,hlh,hhl⟩:=oD (P:=P) (w:=w) (isSl:=true) (hB hlo e2) (hB hhi e1) e1 e2 (NY _);simp only[List.length_nil] at hhl hb;have hh0:hh=0:=by omega
      have ll0:ll=0:=by omega
      subst hh0 ll0;refine ⟨.slice a0 0 0,?_,?_⟩
      ·simp[execOp,hop,hv,hrun _ _ _ _ _ _ _ hb]
      ·unfold aB;refine .inl ⟨by simp,⟨a0,rfl⟩,?_⟩;cases c<;>simp[nO,kP] at hcn |-;exact hcn
     ·obtain ⟨hb,hlh,hhl⟩:=oD (P:=P) (w:=w) (isSl:=true) (hB hlo e2) (hB hhi e1) e1 e2 hC;have hr:=hrun _ _ _ _ _ _ (some ⟨B,off,none⟩) hb;by_cases hCl:C=ll
      ·subst hCl;have:hh=C:=by omega
       subst this;refine ⟨.slice (some ⟨B,off,none⟩) 0 0,?_,?_⟩
       ·simp[execOp,hop,hv,hr]
       ·simp only[aB];have hxs:(xs.take hh).drop hh=[]:=by simp
        rw[hxs];refine .inr ⟨B,off,0,[],by simp,by simp,by simp,by simp[aK],Imm.nil,?_⟩;have hlx:hh=xs.length:=by omega
        subst hlx;cases c with
        |any=>simp[nO,di]
        |exact k=>simp[nO,di] at hcap |-;omega
        |own tk=>simp[nO,di]
      ·refine ⟨.slice (some ⟨B,off+ll*s,none⟩) (hh - ll) (C - ll),?_,?_⟩
       ·simp[execOp,hop,hv,hr,hCl,add_plain,hmul ll aa]
       ·refine tF hs hC hvl he him hlh hhl aa ?_;unfold nO;split
        ·rename_i hhe;subst hhe;cases c with
         |any=>simp[di]
         |exact k=>simp[di] at hcap |-;omega
         |own tk=>
          simp only[di] at hcap |-;rcases hcap with hcap|⟨k1,k2,k3⟩
          ·exact .inl aa
          ·refine .inr ⟨k1,?_,?_⟩
           ·rw[k2,PH,<-Px];congr 4;omega
           ·have:off+ll*s+(C - ll)*s=off+C*s:=by
             rw[PH,<-Px];congr 2;omega
            rw[this];exact k3
        ·simp[di]
    ·rename_i m hmn;have:∃q b,mx=some q/\ymx=some b/\opd P 0 q=some b/\m=some (ev t b):=by
      cases mx with
      |none=>simp[lY] at hmx;subst hmx;simp at hmn
      |some q=>
       simp only[lY,N8] at hmx;obtain ⟨b,hb,rfl⟩:=hmx;simp at hmn;exact ⟨q,b,rfl,rfl,hb,hmn.symm⟩
     obtain ⟨q,b,rfl,rfl,hqb,rfl⟩:=this;simp only[OZ,N8] at hx;obtain ⟨mm,e0,hh,e1,ll,e2,rfl⟩:=hx;have rq:=aJ hqb ht;have:∃k j,ev t b= .int k j/\0<=j/\j<=xs.length/\mm=j.toNat:=by
      unfold bound at e0;split at e0
      ·rename_i e;cases e
      ·rename_i k i e;simp only[Oi] at e;split at e0
       ·rename_i hh0;cases e0;exact ⟨k,i,e,hh0.1,hh0.2,rfl⟩
       ·cases e0
      ·cases e0
     obtain ⟨k,j,hj,hj0,hj1,rfl⟩:=this;rw[hj] at rq;simp only[aB] at rq;have hne:yhi.map (ev t)≠none:=by
      have:=hmh af;cases yhi<;>simp_all
     rcases r with ⟨rfl,⟨a0,hv⟩,hcn⟩|⟨B,off,C,vs,hv,hC,hvl,he,him,hcap⟩
     ·obtain ⟨hb,hlh,hhl⟩:=Ba (P:=P) (w:=w) (cap:=0) (hB hlo e2) (hB hhi e1) rq ⟨hj0,hj1⟩ hne e1 e2 (NY _);simp only[List.length_nil] at hhl hb hj1;have hj00:j=0:=by simp at hj1;omega
      subst hj00;have hh0:hh=0:=by omega
      have ll0:ll=0:=by omega
      subst hh0 ll0;refine ⟨.slice a0 0 0,?_,?_⟩
      ·simp[execOp,hop,hv,hrun _ _ _ _ _ _ _ hb]
      ·simp only[aB];exact .inl ⟨by simp,⟨a0,rfl⟩,by simp[kP]⟩
     ·obtain ⟨hb,hlh,hhl⟩:=Ba (P:=P) (w:=w) (hB hlo e2) (hB hhi e1) rq ⟨hj0,hj1⟩ hne e1 e2 hC;have hr:=hrun _ _ _ _ _ _ (some ⟨B,off,none⟩) hb;by_cases hCl:j.toNat=ll
      ·have:hh=ll:=by omega
       subst this;refine ⟨.slice (some ⟨B,off,none⟩) 0 0,?_,?_⟩
       ·simp[execOp,hop,hv,hr,hCl]
       ·simp only[aB];have hxs:(xs.take hh).drop hh=[]:=by simp
        rw[hxs];refine .inr ⟨B,off,0,[],by simp,by simp,by simp,by simp[aK],Imm.nil,by simp[di];omega⟩
      ·refine ⟨.slice (some ⟨B,off+ll*s,none⟩) (hh - ll) (j.toNat - ll),?_,?_⟩
       ·simp[execOp,hop,hv,hr,hCl,add_plain,hmul ll aa]
       ·exact tF hs hC hvl he him hlh aa aa (by simp[di])
  ·cases hx
 ·
  rename_i s id off len c hl;rw[hl] at r;split at hx
  ·rename_i hs;obtain ⟨hs1,rfl⟩:=hs;rcases hT with ⟨h,_⟩|⟨-,hu,hinf,rfl⟩
   ·simp[hs1] at h
   ·simp only[aB] at r;have hrun:∀(vmx:Option Value)(l h m n C:Nat)(ad:Option Addr),(Instr.sliceBounds true n C (lo.map a.eval) (hi.map a.eval) vmx).run P w= .ok (l,h,m) w->
      (Instr.sliceAt ty (.slice ad n C) (lo.map a.eval) (hi.map a.eval) vmx).run P w= .ok (.slice (if m=l then ad else ad.map (·.add (l*P.cellsOf e))) (h - l) (m - l)) w:=by
     intro vmx l h m n C ad hb;simp[Instr.sliceAt,run_underlying hu,Instr.slice,hb,cH P w e hinf]
    split at hx
    ·rename_i hmn;have hmx0:mx=none:=by
      cases mx with
      |none=>rfl
      |some q=>
       simp only[lY,N8] at hmx;obtain ⟨b,hb,rfl⟩:=hmx;simp at hmn
     subst hmx0;simp only[OZ,N8] at hx;obtain ⟨hh,e1,ll,e2,rfl⟩:=hx;obtain ⟨hd,hv⟩:=r;have hcap:∀(C k:Nat),(∀q,c=some q->C=q)->(c.map λk=>k - ll)=some k->C - ll=k:=by
      intro C k h1 h2;cases c with
      |none=>cases h2
      |some q=>cases h2;rw[h1 q rfl]
     rcases hv with ⟨C,cc,T,fr,hv,⟨hC,hC63⟩,hk,hg,hroom⟩|⟨h0,⟨a0,hv⟩,hk⟩
     ·obtain ⟨hb,hlh,hhl⟩:=oD (P:=P) (w:=w) (isSl:=true) (hB hlo e2) (hB hhi e1) e1 e2 hC;have hr:=hrun _ _ _ _ _ _ (some ⟨G.ι id,off,none⟩) hb;by_cases hCl:C=ll
      ·subst hCl;refine ⟨.slice (some ⟨G.ι id,off,none⟩) 0 0,?_,?_⟩
       ·have:hh - C=0:=by omega
        simp[execOp,hop,hv,hr,this]
       ·unfold aB;exact ⟨hd,.inr ⟨aa,⟨_,rfl⟩,λk hk'=>by have:=hcap C k hk hk';omega⟩⟩
      ·refine ⟨.slice (some ⟨G.ι id,off+ll*P.cellsOf e,none⟩) (hh - ll) (C - ll),?_,?_⟩
       ·simp[execOp,hop,hv,hr,hCl,add_plain]
       ·unfold aB;refine ⟨hd,.inl ⟨C - ll,cc,T,fr,rfl,⟨aa,aa⟩,λk hk'=>hcap C k hk hk',hg,?_⟩⟩;have:(C - ll)*P.cellsOf e+ll*P.cellsOf e=C*P.cellsOf e:=by rw[<-Px];congr 1;omega
        omega
     ·subst h0;obtain ⟨hb,hlh,hhl⟩:=oD (P:=P) (w:=w) (isSl:=true) (hB hlo e2) (hB hhi e1) e1 e2 (NY _);have hh0:hh=0:=by omega
      have ll0:ll=0:=by omega
      subst hh0 ll0;refine ⟨.slice (some a0) 0 0,?_,?_⟩
      ·simp[execOp,hop,hv,hrun _ _ _ _ _ _ _ hb]
      ·unfold aB;refine ⟨hd,.inr ⟨rfl,⟨a0,rfl⟩,λk hk'=>?_⟩⟩;have:=hcap 0 k (λq hq=>(hk q hq).symm) hk';omega
    ·cases hx
  ·cases hx
 ·cases hx
end
section
variable{P:Program}{G:aQ}{w:World}
def H.only(objs:Nat->Option Obj)(toks:List Nat)(n m:Nat):H:=⟨objs,n,toks,m⟩
def aA:Nat->Option Obj:=λ_=>none
def dy(w w':World)(o:Go.Obj):Prop:=w'.heap=w.heap.push o/\w'.os=w.os/\w'.output=w.output
theorem dy.old{w':World}{o:Go.Obj}(h:dy w w' o){B:Nat}(hB:B<w.heap.size):w'.heap[B]? =w.heap[B]? :=by
 rw[h.1,P3];split
 ·omega
 ·rfl
theorem dy.new{w':World}{o:Go.Obj}(h:dy w w' o):w'.heap[w.heap.size]? =some o:=by
 rw[h.1];simp
theorem dy.size{w':World}{o:Go.Obj}(h:dy w w' o):w'.heap.size=w.heap.size+1:=by
 rw[h.1];simp
theorem jb{w':World}{o:Go.Obj}(hp:dy w w' o){h h':H}{G':aQ}(hO:∀B,¬h.O G B)(hT:∀B,h.T G B->G.lim B=G'.lim B)
  (d1:∀id,G.dom id->G'.dom id) (d2:∀id,G'.dom id->G.dom id\/(h.n<=id/\id<h'.n)) (d3:∀id,G.dom id->G'.ι id=G.ι id)
  (t1:∀id,G.tdom id->G'.tdom id) (t2:∀id,G'.tdom id->G.tdom id\/(h.m<=id/\id<h'.m)) (t3:∀id,G.tdom id->G'.τ id=G.τ id)
  (hn:h.n<=h'.n) (hm:h.m<=h'.m) (ho:∀B,B<w.heap.size->(G'.own B↔G.own B)) (hl:∀B,B<w.heap.size->G'.lim B=G.lim B)
  (hO':∀B,B<w.heap.size->¬h'.O G' B) (hT':∀B,B<w.heap.size->h'.T G' B->h.T G B)
  (on:∀j o,h'.objs j=some o->(∃o',h.objs j=some o')\/(h.n<=j/\j<h'.n)) (tn:∀t,t∈h'.toks->t∈h.toks\/(h.m<=t/\t<h'.m)):Trans G w h G' w' h' where
 dom_le:=d1
 dom_new:=d2
 ι_eq:=d3
 tdom_le:=t1
 tdom_new:=t2
 τ_eq:=t3
 n_le:=hn
 m_le:=hm
 size_le:=by rw[hp.size];omega
 os:=hp.2.1
 output:=hp.2.2
 form B hB:=by rw[hp.old hB];exact bJ.refl _
 keep B hB _ _:=hp.old hB
 own_keep B hB _:=ho B hB
 lim_keep B hB _ _:=hl B hB
 tok_keep B hB ht _ e he:=⟨λj _=>by unfold World.cell?;simp only[hp.old hB],λe' he'=>by rw[<-hT B ht,he] at he';cases he';exact NY _⟩
 O_new B hB x:=absurd x (hO' B hB)
 T_new B hB x:=hT' B hB x
 objs_new:=on
 toks_new:=tn
theorem rJ{w':World}{cs:List AV}{vs rest:List Value}{T:TypeId}{n m:Nat}(hp:dy w w' (.cells (vs++rest).toArray T (0,0)))(hr:aC G w cs vs)(h1:∀v∈vs,One v)(hf:¬G.dom n):
  ∃G',Trans G w (.only aA [] n m) G' w' (.only (upd aA n (some (.cells cs))) [] (n+1) m)/\bf G' (.only (upd aA n (some (.cells cs))) [] (n+1) m) w'/\aB G' w' (.ptr n 0) (.pointer (some ⟨w.heap.size,0,none⟩)):=by
 let G':aQ:={G with dom:=λid=>G.dom id\/id=n,ι:=upd G.ι n w.heap.size,own:=λB=>if B=w.heap.size then True else G.own B}
 have hi:G'.ι n=w.heap.size:=by simp[G',upd]
 have hO:∀B,¬(H.only aA [] n m).O G B:=λB ⟨id,o,ho,_⟩=>by simp[H.only,aA] at ho
 have hT:∀B,¬(H.only aA [] n m).T G B:=λB ⟨t,ht,_⟩=>by simp[H.only] at ht
 have hobj:∀{id o},(H.only (upd aA n (some (.cells cs))) [] (n+1) m).objs id=some o->id=n/\o= .cells cs:=by
  intro id o ho;simp only[H.only,upd,aA] at ho;split at ho
  ·cases ho;exact ⟨‹_›,rfl⟩
  ·cases ho
 have T:Trans G w (.only aA [] n m) G' w' (.only (upd aA n (some (.cells cs))) [] (n+1) m):=by
  refine jb hp hO (λB ht=>absurd ht (hT B)) (λ_=> .inl) ?_ ?_ (λ_ x=>x) (λ_=> .inl) (λ_ _=>rfl) (by simp[H.only]) (by simp[H.only]) ?_ (λ_ _=>rfl) ?_ ?_ ?_ ?_
  ·rintro id (x|rfl)
   ·exact .inl x
   ·exact .inr ⟨by simp[H.only],by simp[H.only]⟩
  ·intro id hd;simp only[G',upd];split
   ·rename_i e;subst e;exact absurd hd hf
   ·rfl
  ·intro B hB;simp only[G'];rw[N7 aa]
  ·rintro B hB ⟨id,o,ho,e⟩;obtain ⟨rfl,rfl⟩:=hobj ho;rw[hi] at e;omega
  ·rintro B hB ⟨t,ht,_⟩;simp[H.only] at ht
  ·intro j o ho;obtain ⟨rfl,rfl⟩:=hobj ho;exact .inr ⟨by simp[H.only],by simp[H.only]⟩
  ·intro t ht;simp[H.only] at ht
 have R0:bf G (.only aA [] n m) w:=⟨λid o ho=>by simp[H.only,aA] at ho,λid _ o _ ho=>by simp[H.only,aA] at ho,λt ht=>by simp[H.only] at ht,λt ht=>by simp[H.only] at ht⟩;refine ⟨G',T,⟨?_,?_,?_,?_⟩,?_⟩
 ·intro id o ho;obtain ⟨rfl,rfl⟩:=hobj ho;refine ⟨.inr rfl,by rw[hi];simp[G'],by rw[hi,hp.size];omega,?_⟩;rw[hi,hp.new];refine ⟨vs,rest,_,(0,0),rfl,aC.mono R0 T _ _ hr,rfl,h1⟩
 ·intro id id' o o' ho ho' _;rw[(hobj ho).1,(hobj ho').1]
 ·intro t ht;simp[H.only] at ht
 ·intro t ht;simp[H.only] at ht
 ·simp only[aB];exact ⟨.inr rfl,by rw[hi]⟩
theorem wy{w':World}{cs:Array Value}{T:TypeId}{fr:Nat × Nat}(hp:dy w w' (.cells cs T fr))(j:Nat):w'.cell? ⟨w.heap.size,j,none⟩=cs[j]? :=by
 unfold World.cell?;simp only[hp.new];simp
theorem fX{toks:List Nat}{n m:Nat}(B:Nat):¬(H.only aA toks n m).O G B:=λ⟨id,o,ho,_⟩=>by simp[H.only,aA] at ho
theorem Bb{w':World}{cs:List AV}{vs:List Value}{T:TypeId}{n m:Nat}(hp:dy w w' (.cells vs.toArray T (0,0)))(hr:aC G w cs vs)(h1:∀v∈vs,One v)(hf:¬G.dom n):
  ∃G',Trans G w (.only aA [] n m) G' w' (.only (upd aA n (some (.cells cs))) [] (n+1) m)/\bf G' (.only (upd aA n (some (.cells cs))) [] (n+1) m) w'/\aB G' w' (.ptr n 0) (.pointer (some ⟨w.heap.size,0,none⟩)):=
 rJ (rest:=[]) (by rw[ON];exact hp) hr h1 hf
theorem qQ{w':World}{cs:List AV}{vs rest:List Value}{T:TypeId}{n m sz len C:Nat}(hp:dy w w' (.cells (vs++rest).toArray T (0,0)))(hr:aC G w cs vs)(h1:∀v∈vs,One v)(hf:¬G.dom n)(hC:len<=C/\C<=9223372036854775807)(hroom:C*sz<=vs.length+rest.length):
  ∃G',Trans G w (.only aA [] n m) G' w' (.only (upd aA n (some (.cells cs))) [] (n+1) m)/\bf G' (.only (upd aA n (some (.cells cs))) [] (n+1) m) w'/\aB G' w' (.tsl sz n 0 len none) (.slice (some ⟨w.heap.size,0,none⟩) len C):=by
 obtain ⟨G',T1,R1,V⟩:=rJ (n:=n) (m:=m) hp hr h1 hf;refine ⟨G',T1,R1,?_⟩;simp only[aB] at V;obtain ⟨hd,hv⟩:=V;simp only[Value.pointer.injEq,Oi,Addr.mk.injEq,P5] at hv;unfold aB;refine ⟨hd,.inl ⟨C,(vs++rest).toArray,T,(0,0),by rw[hv],hC,(λ_ h=>by cases h),?_,by simpa using hroom⟩⟩;rw[<-hv];exact hp.new
theorem Hw{w':World}{xs:List AV}{vs:List Value}{T:TypeId}{sz n m:Nat}(hp:dy w w' (.cells vs.toArray T (0,0)))(he:aK G w sz xs vs)(hone:∀v∈vs,One v):
  ∃G',Trans G w (.only aA [] n m) G' w' (.only aA [] n m)/\bf G' (.only aA [] n m) w'/\aB G' w' (.sl sz xs (.exact xs.length)) (.slice (some ⟨w.heap.size,0,none⟩) xs.length xs.length):=by
 let G':aQ:={G with own:=λB=>if B=w.heap.size then False else G.own B,lim:=upd G.lim w.heap.size none}
 have hT:∀{G:aQ} B,¬(H.only aA [] n m).T G B:=λB ⟨t,ht,_⟩=>by simp[H.only] at ht
 have T:Trans G w (.only aA [] n m) G' w' (.only aA [] n m):=by
  refine jb hp (λB=>fX B) (λB ht=>absurd ht (hT B)) (λ_ x=>x) (λ_=> .inl) (λ_ _=>rfl) (λ_ x=>x) (λ_=> .inl) (λ_ _=>rfl) (NY _) (NY _) ?_ ?_ ?_ ?_ ?_ ?_
  ·intro B hB;simp only[G'];rw[N7 aa]
  ·intro B hB;simp only[G',upd];rw[N7 aa]
  ·exact λB _ x=>fX B x
  ·exact λB _ x=>absurd x (hT B)
  ·exact λj o x=> .inl ⟨o,x⟩
  ·exact λt x=> .inl x
 have R0:∀{G:aQ}{w:World},bf G (.only aA [] n m) w:=⟨λid o ho=>by simp[H.only,aA] at ho,λid _ o _ ho=>by simp[H.only,aA] at ho,λt ht=>by simp[H.only] at ht,λt ht=>by simp[H.only] at ht⟩;refine ⟨G',T,R0,?_⟩;simp only[aB];refine .inr ⟨_,0,_,vs,rfl,NY _,he.length,aK.mono R0 T _ _ _ he,λi v hv=>⟨?_,hone v (PT hv),by simp[G'],λe h=>by simp[G',upd] at h⟩,by simp[di]⟩;rw[wy hp];simpa using hv
theorem qR{w':World}{xs:List AV}{vs rest:List Value}{T:TypeId}{fr:Nat × Nat}{sz n m C:Nat}{toks:List Nat}(hp:dy w w' (.cells (vs++rest).toArray T fr))(he:aK G w sz xs vs)
  (R:bf G (.only aA toks n m) w) (hC:xs.length<=C) (hroom:C*sz<=vs.length+rest.length) (hfr:∀j,j<vs.length+rest.length->¬(fr.1<=j/\j<fr.2)) (hm:¬G.tdom m) (hone:∀v∈vs,One v):
  ∃G',Trans G w (.only aA toks n m) G' w' (.only aA [m] n (m+1))/\bf G' (.only aA [m] n (m+1)) w'/\aB G' w' (.sl sz xs (.own m)) (.slice (some ⟨w.heap.size,0,none⟩) xs.length C):=by
 have hl:=he.length;let G':aQ:={G with tdom:=λt=>G.tdom t\/t=m,τ:=upd G.τ m (some (w.heap.size,xs.length*sz)),own:=λB=>if B=w.heap.size then False else G.own B,lim:=upd G.lim w.heap.size (some (xs.length*sz))}
 have hτ:G'.τ m=some (w.heap.size,xs.length*sz):=by simp[G',upd]
 have T:Trans G w (.only aA toks n m) G' w' (.only aA [m] n (m+1)):=by
  refine jb hp (λB=>fX B) ?_ (λ_ x=>x) (λ_=> .inl) (λ_ _=>rfl) (λ_ x=> .inl x) ?_ ?_ (NY _) (by simp[H.only]) ?_ ?_ ?_ ?_ ?_ ?_
  ·rintro B ⟨t,ht,e,hte⟩;have:=((R.tok t ht).2 B e hte).2.2;simp only[G',upd];rw[N7 aa]
  ·rintro t (x|rfl)
   ·exact .inl x
   ·exact .inr ⟨by simp[H.only],by simp[H.only]⟩
  ·intro t x;simp only[G',upd];split
   ·rename_i e;subst e;exact absurd x hm
   ·rfl
  ·intro B hB;simp only[G'];rw[N7 aa]
  ·intro B hB;simp only[G',upd];rw[N7 aa]
  ·exact λB _ x=>fX B x
  ·rintro B hB ⟨t,ht,e,hte⟩;simp only[H.only,Oc] at ht;subst ht;rw[hτ] at hte;simp at hte;omega
  ·exact λj o x=>by simp[H.only,aA] at x
  ·intro t ht;simp only[H.only,Oc] at ht;subst ht;exact .inr ⟨by simp[H.only],by simp[H.only]⟩
 refine ⟨G',T,⟨λid o ho=>by simp[H.only,aA] at ho,λid _ o _ ho=>by simp[H.only,aA] at ho,?_,?_⟩,?_⟩
 ·intro t ht;simp only[H.only,Oc] at ht;subst ht;refine ⟨.inr rfl,λB e hte=>?_⟩;rw[hτ] at hte;cases hte;exact ⟨by simp[G',upd],by simp[G'],by rw[hp.size];omega⟩
 ·intro t ht t' ht' _ _ _ _ _;simp only[H.only,Oc] at ht ht';rw[ht,ht']
 ·simp only[aB];refine .inr ⟨_,0,C,vs,rfl,hC,hl,aK.mono R T _ _ _ he,λi v hv=>⟨?_,hone v (PT hv),by simp[G'],λe h=>?_⟩,?_⟩
  ·rw[wy hp];have:i<vs.length:=by
    rcases Ps i vs.length with h|h
    ·exact h
    ·rw[Pp h] at hv;cases hv
   simp[OI this,hv]
  ·simp only[G',upd,N9] at h;cases h;have:i<vs.length:=by
    rcases Ps i vs.length with h|h
    ·exact h
    ·rw[Pp h] at hv;cases hv
   omega
  ·simp only[di];refine .inr ⟨.inr rfl,by rw[hτ];simp,_,_,fr,hp.new,by simp;omega,?_⟩;simpa using hfr
theorem kf{h:H}(R:bf G h w){id:Nat}{cs:List AV}(ho:h.objs id=some (.cells cs)):
  ∃vs rest T fr,w.heap[G.ι id]? =some (.cells (vs++rest).toArray T fr)/\aC G w cs vs/\fr.1=fr.2/\(∀v∈vs,One v):=(R.obj id _ ho).2.2.2
theorem cf(b:Nat)(T:TypeId)(fr:Nat × Nat):∀(vs:List Value)(o:Nat)(cur:List Value)(w:World),w.heap[b]? =some (.cells cur.toArray T fr)->o+vs.length<=cur.length->
  (w.setCells b o vs).heap[b]? =some (.cells (cur.take o++vs++cur.drop (o+vs.length)).toArray T fr)/\(∀k,k≠b->(w.setCells b o vs).heap[k]? =w.heap[k]?)/\(w.setCells b o vs).heap.size=w.heap.size/\(w.setCells b o vs).os=w.os/\(w.setCells b o vs).output=w.output
 |[],o,cur,w,hg,hl=>by simp[World.setCells,hg]
 |v::r,o,cur,w,hg,hl=>by
  simp only[List.length_cons] at hl;have hb:b<w.heap.size:=by
   rcases Ps b w.heap.size with h|h
   ·exact h
   ·have:w.heap[b]? =none:=by simp;omega
    rw[this] at hg;cases hg
  have h1:(w.setCell ⟨b,o,none⟩ v).heap[b]? =some (.cells (cur.set o v).toArray T fr):=by
   simp[World.setCell,PV,hg]
  have h2:∀k,k≠b->(w.setCell ⟨b,o,none⟩ v).heap[k]? =w.heap[k]? :=by
   intro k hk;simp[World.setCell,PV,PU hk]
  obtain ⟨a1,a2,a3,a4,a5⟩:=cf b T fr r (o+1) (cur.set o v) (w.setCell ⟨b,o,none⟩ v) h1 aq;refine ⟨?_,λk hk=>(a2 k hk).trans (h2 k hk),a3.trans (by simp[World.setCell]),a4,a5⟩;rw[World.setCells,a1];congr 3;have ho:o<cur.length:=by omega
  have e1:(cur.set o v).take (o+1)=cur.take o++[v]:=by
   rw[Ov (by simpa using ho),List.take_set_of_le (NY _)];simp
  have:o+1+r.length=o+(v::r).length:=by simp;omega
  rw[e1,List.drop_set_of_lt aa,this];simp
theorem tH{id n m off:Nat}{cs xs:List AV}{us:List Value}(R:bf G (.only (upd aA id (some (.cells cs))) [] n m) w)(hr:aC G w xs us)(h1:∀v∈us,One v)(hl:off+xs.length<=cs.length):
  ∃w',(storeCells ⟨G.ι id,off,none⟩ us 0).run P w= .ok () w'/\Trans G w (.only (upd aA id (some (.cells cs))) [] n m) G w' (.only (upd aA id (some (.cells (setAt cs off xs)))) [] n m)/\bf G (.only (upd aA id (some (.cells (setAt cs off xs)))) [] n m) w':=by
 have hobj:∀{c:List AV} {j o},(H.only (upd aA id (some (.cells c))) [] n m).objs j=some o->j=id/\o= .cells c:=by
  intro c j o ho;simp only[H.only,upd,aA] at ho;split at ho
  ·cases ho;exact ⟨‹_›,rfl⟩
  ·cases ho
 have hme:∀{c:List AV},(H.only (upd aA id (some (.cells c))) [] n m).objs id=some (.cells c):=by intro c;simp[H.only,upd]
 obtain ⟨d1,d2,d3,-⟩:=R.obj id _ hme;obtain ⟨vs,rest,T,fr,hg,hvs,hfr,hone⟩:=kf R hme;have hlen:=hvs.length;have hul:=hr.length;have hc:∀j,j<vs.length->w.cell? ⟨G.ι id,j,none⟩=vs[j]? :=by
  intro j hj;unfold World.cell?;simp only[hg];simp[OI hj]
 have hcell:∀j,j<us.length->(w.cell? ⟨G.ι id,off+0+j,none⟩).isSome=true:=λj hj=>by rw[hc _ aa];simp;omega
 have hfrz:∀j,j<us.length->w.frozen? ⟨G.ι id,off+0+j,none⟩=false:=λj hj=>by
  unfold World.frozen?;simp only[hg];have:¬(fr.1<=off+0+j/\off+0+j<fr.2):=λh=>by omega
  simpa using this
 have honec:∀v∈us,v.oneCell'=true:=λv hv=>by
  obtain ⟨k1,k2⟩:=h1 v hv;cases v with
  |agg a=>exact absurd rfl (k1 a)
  |tuple a=>exact absurd rfl (k2 a)
  |_=>rfl
 have hrun:=run_storeCells_cells (P:=P) (G.ι id) off us 0 w hcell hfrz honec;rw[Nat.add_zero] at hrun;obtain ⟨a1,a2,a3,a4,a5⟩:=cf (G.ι id) T fr us off (vs++rest) w hg aq;have ecur:(vs++rest).take off++us++(vs++rest).drop (off+us.length)=(vs.take off++us++vs.drop (off+us.length))++rest:=by
  rw[Qj aa,List.drop_append_of_le_length aa];simp
 rw[ecur] at a1;clear hcell hfrz honec;generalize w.setCells (G.ι id) off us=w1 at*
 refine ⟨w1,hrun,?_⟩;have T1:Trans G w (.only (upd aA id (some (.cells cs))) [] n m) G w1 (.only (upd aA id (some (.cells (setAt cs off xs)))) [] n m):=by
  constructor
  ·exact λ_ x=>x
  ·exact λ_=> .inl
  ·exact λ_ _=>rfl
  ·exact λ_ x=>x
  ·exact λ_=> .inl
  ·exact λ_ _=>rfl
  ·exact NY _
  ·exact NY _
  ·rw[a3];exact NY _
  ·exact a4
  ·exact a5
  ·intro B hB;by_cases hBi:B=G.ι id
   ·subst hBi;rw[a1,hg];exact ⟨_,_,rfl,by simp;omega,λ_ _ h=>h⟩
   ·rw[a2 B hBi];exact bJ.refl _
  ·intro B hB hO _;exact a2 B λe=>hO ⟨id,_,hme,e.symm⟩
  ·exact λ_ _ _=>Qp
  ·exact λ_ _ _ _=>rfl
  ·rintro B hB ⟨t,ht,_⟩;simp[H.only] at ht
  ·rintro B hB ⟨j,o,ho,e⟩;obtain ⟨rfl,rfl⟩:=hobj ho;exact ⟨_,_,hme,e⟩
  ·rintro B hB ⟨t,ht,_⟩;simp[H.only] at ht
  ·intro j o ho;obtain ⟨rfl,rfl⟩:=hobj ho;exact .inl ⟨_,hme⟩
  ·intro t ht;simp[H.only] at ht
 refine ⟨T1,?_,?_,?_,?_⟩
 ·intro j o ho;obtain ⟨rfl,rfl⟩:=hobj ho;refine ⟨d1,d2,by rw[a3];exact d3,?_⟩;rw[a1];refine ⟨_,rest,T,fr,rfl,?_,?_,?_⟩
  ·unfold setAt;rw[<-hul];exact ((aC.mono R T1 _ _ hvs).take off |>.append (aC.mono R T1 _ _ hr)).append ((aC.mono R T1 _ _ hvs).drop _)
  ·exact hfr
  ·intro v hv;simp only[OM] at hv;rcases hv with (hv|hv)|hv
   ·exact hone v (List.mem_of_mem_take hv)
   ·exact h1 v hv
   ·exact hone v (P6 hv)
 ·intro j j' o o' ho ho' _;rw[(hobj ho).1,(hobj ho').1]
 ·intro t ht;simp[H.only] at ht
 ·intro t ht;simp[H.only] at ht
def Src(P:Program)(w:World)(sz:Nat)(x:Value)(n:Nat)(news:List Value):Prop:=
 ((Builtin.lenOf x).run P w= .ok n w)/\∀w':World,w'.heap=w.heap->(Builtin.firstCells sz n x).run P w'= .ok news.toArray w'
theorem cell_of_heap{w w':World}(h:w'.heap=w.heap)(a:Addr):w'.cell? a=w.cell? a:=by unfold World.cell?;rw[h]
theorem oE{sz:Nat}(a0:Option Addr):Src P w sz (.slice a0 0 0) 0 []:=by
 refine ⟨by simp[Builtin.lenOf],λw' hw=>?_⟩;cases a0 with
 |none=>simp[Builtin.firstCells]
 |some a=>
  have:=run_loadCells_list (P:=P) w' a [] (λj u hu=>by simp at hu);simpa [Builtin.firstCells] using this
theorem kh{sz:Nat}{xs:List AV}{v:Value}{s:Nat}{c:Cap}(hs:s=sz\/xs=[])(hv:aB G w (.sl s xs c) v):
  ∃news,Src P w sz v xs.length news/\aK G w sz xs news/\(∀u∈news,One u):=by
 simp only[aB] at hv;rcases hv with ⟨rfl,⟨a0,rfl⟩,-⟩|⟨B,off,C,vs,rfl,hC,hl,he,him,-⟩
 ·exact ⟨[],oE a0,by simp[aK],by simp⟩
 ·rcases hs with rfl|rfl
  ·refine ⟨vs,⟨by simp[Builtin.lenOf],λw' hw=>?_⟩,he,λu hu=>?_⟩
   ·have:=run_loadCells_list (P:=P) w' ⟨B,off,none⟩ vs (λj u hu=>by rw[add_plain,cell_of_heap hw];exact (him j u hu).1);simp only[Builtin.firstCells];rw[<-hl];exact this
   ·obtain ⟨j,hj⟩:=List.getElem?_of_mem hu;exact (him j u hj).2.1
  ·refine ⟨[],⟨by simp[Builtin.lenOf],λw' hw=>?_⟩,by simp[aK],by simp⟩;have:=run_loadCells_list (P:=P) w' ⟨B,off,none⟩ [] (λj u hu=>by simp at hu);simpa [Builtin.firstCells] using this
theorem lZ(l:List UInt8):aK G w 1 (aD l) (l.map λb=> .int .u8 b.toNat):=by
 induction l with
 |nil=>simp[aD,aK]
 |cons b l ih=>
  simp only[aD,Oy,aK];exact ⟨.int .u8 b.toNat,_,rfl,rfl,by simp[byte,aB],ih⟩
theorem Hy(l:List UInt8)(sz:Nat):Src P w sz (.string ⟨l.toArray⟩) (aD l).length (l.map λb=> .int .u8 b.toNat):=by
 have hs:(ByteArray.mk l.toArray).size=l.length:=by simp[ByteArray.size]
 refine ⟨by simp[Builtin.lenOf,hs,aD],λw' _=>?_⟩;have:(ByteArray.mk l.toArray).extract 0 (aD l).length=⟨l.toArray⟩:=by
  apply ByteArray.ext;simp[ByteArray.data_extract,aD]
 simp[Builtin.firstCells,this]
theorem run_append_fits{t u ty e:TypeId}{d:TypeDesc}{i:TypeInfo}{x:Value}{n:Nat}{news:List Value}{base:Option Addr}{sLen sCap:Nat}{w':World}
  (ht:P.underlying t=some (.slice e)) (hu:P.underlying u=some d) (hd:(∃e',d= .slice e')\/d= .string) (hi:P.info? e=some i) (hx:Src P w i.size x n news)
  (hfit:sLen+n<=sCap) (hst:(match base with|some a=>(storeCells (a.add (sLen*i.size)) news).run P w|none=> .ok () w)= .ok () w'):
  (Builtin.append_ #[t,u] ty #[.slice base sLen sCap,x]).run P w= .ok (.slice base (sLen+n) sCap) w':=by
 obtain ⟨h1,h2⟩:=hx;have h2':=h2 w rfl;rcases hd with ⟨e',rfl⟩|rfl<;>
 ·simp[Builtin.append_,run_underlying ht,run_underlying hu,sizeOf,typeInfo,hi,h1,hfit,h2'];cases base with
  |none=>simp at hst |-;exact hst
  |some a=>simp only[] at hst;simp[hst]
theorem fy{t u ty e:TypeId}{d:TypeDesc}{i:TypeInfo}{z:Value}{x:Value}{n:Nat}{news vs:List Value}{base:Option Addr}{sLen sCap:Nat}
  (ht:P.underlying t=some (.slice e)) (hu:P.underlying u=some d) (hd:(∃e',d= .slice e')\/d= .string) (hi:P.info? e=some i) (hz:i.zero=some z) (hzs:z.cells.size=i.size) (hsz:0<i.size) (hx:Src P w i.size x n news)
  (hvs:Src P w i.size (.slice base sLen sCap) sLen vs) (hfit:¬sLen+n<=sCap) (hle:sLen<=sCap) (hb:(sLen+n)*i.bytes<=140737488355328) (hn:sLen+n<4611686018427387904):
  ∃w' C rest,(Builtin.append_ #[t,u] ty #[.slice base sLen sCap,x]).run P w= .ok (.slice (some ⟨w.heap.size,0,none⟩) (sLen+n) C) w'/\dy w w' (.cells (vs++news++rest).toArray e (0,0))/\(sLen+n<=C/\C<=9223372036854775807)/\C*i.size=(sLen+n)*i.size+rest.length:=by
 obtain ⟨h1,h2⟩:=hx;obtain ⟨-,k2⟩:=hvs;have hlt:sCap<sLen+n:=by omega
 have hg:=growslice_fits hlt hb;have hg':¬(281474976710656<Builtin.nextslicecap (sLen+n) sCap*i.bytes):=by omega
 have h63:¬((sLen:Int)+(n:Int)>9223372036854775807):=by omega
 let w1:World:=w.drew
 let C:=(Question.appendCap (sLen+n) sCap e).cut (w.tape w.drawn (.appendCap (sLen+n) sCap e))
 have hC:sLen+n<=C:=by simp[C,Question.cut]
 have hC63:C<=9223372036854775807:=by
  have:=QX (w.tape w.drawn (.appendCap (sLen+n) sCap e)) (show 0<2^63 - (sLen+n) by omega);simp only[C,Question.cut];omega
 have e1:=h2 w1 rfl;have e2:=k2 w1 rfl;refine ⟨{w1 with heap:=w1.heap.push (.cells (vs++news++(Builtin.zeroCells z.cells (C - (sLen+n))).toList).toArray e)},C,(Builtin.zeroCells z.cells (C - (sLen+n))).toList,?_,⟨rfl,rfl,rfl⟩,⟨hC,hC63⟩,?_⟩
 ·rcases hd with ⟨e',rfl⟩|rfl<;>
  ·simp[Builtin.append_,run_underlying ht,run_underlying hu,sizeOf,typeInfo,hi,h1,hfit,IntKind.max,IntKind.signed,IntKind.bits,h63,hg',Question.forced,zeroValue,hz,newRow];rw[e2,Result.andThen_ok,e1,Result.andThen_ok];simp[C,w1];congr 2;apply Array.ext';simp
 ·simp[Builtin.zeroCells,hzs];rw[<-Px];congr 1;omega
theorem iz{n m:Nat}:bf G (.only aA [] n m) w:=⟨λid o ho=>by simp[H.only,aA] at ho,λid _ o _ ho=>by simp[H.only,aA] at ho,λt ht=>by simp[H.only] at ht,λt ht=>by simp[H.only] at ht⟩
theorem Bc{n m:Nat}{toks:List Nat}{q:Option (Nat × Nat)}(R:bf G (.only aA toks n m) w)(hm:¬G.tdom m)(hq:q=none\/∃tk,toks=[tk]/\G.τ tk=q):
  ∃G',Trans G w (.only aA toks n m) G' w (.only aA [m] n (m+1))/\bf G' (.only aA [m] n (m+1)) w/\G'.tdom m/\G'.τ m=q/\G'.own=G.own/\G'.lim=G.lim:=by
 let G':aQ:={G with tdom:=λt=>G.tdom t\/t=m,τ:=upd G.τ m q}
 have hτ:G'.τ m=q:=by simp[G',upd]
 have hT:∀B,(H.only aA [m] n (m+1)).T G' B->(H.only aA toks n m).T G B:=by
  rintro B ⟨t,ht,e,hte⟩;simp only[H.only,Oc] at ht;subst ht;rw[hτ] at hte;rcases hq with rfl|⟨tk,rfl,hk⟩
  ·cases hte
  ·exact ⟨tk,by simp[H.only],e,hk.trans hte⟩
 refine ⟨G',?_,⟨λid o ho=>by simp[H.only,aA] at ho,λid _ o _ ho=>by simp[H.only,aA] at ho,?_,?_⟩,.inr rfl,hτ,rfl,rfl⟩
 ·constructor
  ·exact λ_ x=>x
  ·exact λ_=> .inl
  ·exact λ_ _=>rfl
  ·exact λ_=> .inl
  ·rintro t (x|rfl)
   ·exact .inl x
   ·exact .inr ⟨by simp[H.only],by simp[H.only]⟩
  ·intro t x;simp only[G',upd];split
   ·rename_i e;subst e;exact absurd x hm
   ·rfl
  ·exact NY _
  ·simp[H.only]
  ·exact NY _
  ·rfl
  ·rfl
  ·exact λB _=>bJ.refl _
  ·exact λ_ _ _ _=>rfl
  ·exact λ_ _ _=>Qp
  ·exact λ_ _ _ _=>rfl
  ·exact λB _ _ _ e he=>⟨λ_ _=>rfl,λe' he'=>by
    have:some e=some e':=he.symm.trans he';cases this;exact NY _⟩
  ·exact λB _ x=>absurd x (fX B)
  ·exact λB _ x=>hT B x
  ·exact λj o x=>by simp[H.only,aA] at x
  ·intro t ht;simp only[H.only,Oc] at ht;subst ht;exact .inr ⟨by simp[H.only],by simp[H.only]⟩
 ·intro t ht;simp only[H.only,Oc] at ht;subst ht;refine ⟨.inr rfl,λB e hte=>?_⟩;rw[hτ] at hte;rcases hq with rfl|⟨tk,rfl,hk⟩
  ·cases hte
  ·exact (R.tok tk (by simp[H.only])).2 B e (hk.trans hte)
 ·intro t ht t' ht' _ _ _ _ _;simp only[H.only,Oc] at ht ht';rw[ht,ht']
theorem rK{s n m B off C:Nat}{tk:Nat}{xs ys:List AV}{vs news:List Value}(R:bf G (.only aA [tk] n m) w)(hm:¬G.tdom m)
  (hl:vs.length=xs.length*s) (he:aK G w s xs vs) (him:Imm G w B off vs) (hk:G.τ tk=some (B,off+xs.length*s)) (hroom:Room w B (off+C*s)) (hfit:xs.length+ys.length<=C)
  (hn:aK G w s ys news) (hone:∀u∈news,One u):
  ∃w' G',(storeCells ((⟨B,off,none⟩:Addr).add (xs.length*s)) news).run P w= .ok () w'/\Trans G w (.only aA [tk] n m) G' w' (.only aA [m] n (m+1))/\bf G' (.only aA [m] n (m+1)) w'/\
   aB G' w' (.sl s (xs++ys) (.own m)) (.slice (some ⟨B,off,none⟩) (xs.length+ys.length) C):=by
 obtain ⟨cs,T,fr,hg,hu,hfr⟩:=hroom;obtain ⟨htd,htk⟩:=R.tok tk (by simp[H.only]);obtain ⟨hlim,hown,hB⟩:=htk B _ hk;have hnl:=hn.length;have hCs:(xs.length+ys.length)*s<=C*s:=PB s hfit;rw[Px] at hCs;generalize hE:off+xs.length*s=E at*
 have hEle:E+news.length<=cs.size:=by omega
 have hadd:(⟨B,off,none⟩:Addr).add (xs.length*s)=⟨B,E,none⟩:=by rw[add_plain,hE]
 have hc:∀j,w.cell? ⟨B,j,none⟩=cs[j]? :=by intro j;unfold World.cell?;simp only[hg];simp
 have hcell:∀j,j<news.length->(w.cell? ⟨B,E+0+j,none⟩).isSome=true:=λj hj=>by rw[hc];simp;omega
 have hfrz:∀j,j<news.length->w.frozen? ⟨B,E+0+j,none⟩=false:=λj hj=>by
  unfold World.frozen?;simp only[hg];have:=hfr (E+0+j) aa;simpa using this
 have honec:∀v∈news,v.oneCell'=true:=λv hv=>by
  obtain ⟨k1,k2⟩:=hone v hv;cases v with
  |agg a=>exact absurd rfl (k1 a)
  |tuple a=>exact absurd rfl (k2 a)
  |_=>rfl
 have hrun:=run_storeCells_cells (P:=P) B E news 0 w hcell hfrz honec;rw[Nat.add_zero] at hrun;have hg':w.heap[B]? =some (.cells cs.toList.toArray T fr):=by rw[hg]
 obtain ⟨a1,a2,a3,a4,a5⟩:=cf B T fr news E cs.toList w hg' (by simpa using hEle);clear hcell hfrz honec;generalize w.setCells B E news=w1 at*
 have hc1:∀j,w1.cell? ⟨B,j,none⟩=(cs.toList.take E++news++cs.toList.drop (E+news.length))[j]? :=by
  intro j;unfold World.cell?;simp only[a1];simp
 have hbelow:∀j,j<E->w1.cell? ⟨B,j,none⟩=w.cell? ⟨B,j,none⟩:=by
  intro j hj;rw[hc1,hc,Pn,OI aq,List.getElem?_take];simp[hj]
 let G':aQ:={G with tdom:=λt=>G.tdom t\/t=m,τ:=upd G.τ m (some (B,E+news.length)),lim:=upd G.lim B (some (E+news.length))}
 have hτ:G'.τ m=some (B,E+news.length):=by simp[G',upd]
 have hTB:∀B',(H.only aA [tk] n m).T G B'->B'=B:=by
  rintro B' ⟨t,ht,e,hte⟩;simp only[H.only,Oc] at ht;subst ht;rw[hk] at hte;cases hte;rfl
 have T1:Trans G w (.only aA [tk] n m) G' w1 (.only aA [m] n (m+1)):=by
  constructor
  ·exact λ_ x=>x
  ·exact λ_=> .inl
  ·exact λ_ _=>rfl
  ·exact λ_=> .inl
  ·rintro t (x|rfl)
   ·exact .inl x
   ·exact .inr ⟨by simp[H.only],by simp[H.only]⟩
  ·intro t x;simp only[G',upd];split
   ·rename_i e;subst e;exact absurd x hm
   ·rfl
  ·exact NY _
  ·simp[H.only]
  ·rw[a3];exact NY _
  ·exact a4
  ·exact a5
  ·intro B' hB';by_cases e:B'=B
   ·subst e;rw[a1,hg];exact ⟨_,_,rfl,by simp;omega,λ_ _ h=>h⟩
   ·rw[a2 B' e];exact bJ.refl _
  ·intro B' hB' _ hT;exact a2 B' λe=>hT ⟨tk,by simp[H.only],_,e▸hk⟩
  ·exact λ_ _ _=>Qp
  ·intro B' hB' _ hT;simp only[G',upd];rw[N7 λe=>hT ⟨tk,by simp[H.only],_,e▸hk⟩]
  ·intro B' hB' hT _ e he;obtain rfl:=hTB B' hT;rw[hlim] at he;cases he;refine ⟨hbelow,λe' he'=>?_⟩;simp only[G',upd,N9] at he';cases he';omega
  ·exact λB' _ x=>absurd x (fX B')
  ·rintro B' hB' ⟨t,ht,e,hte⟩;simp only[H.only,Oc] at ht;subst ht;rw[hτ] at hte;cases hte;exact ⟨tk,by simp[H.only],_,hk⟩
  ·exact λj o x=>by simp[H.only,aA] at x
  ·intro t ht;simp only[H.only,Oc] at ht;subst ht;exact .inr ⟨by simp[H.only],by simp[H.only]⟩
 refine ⟨w1,G',by rw[hadd];exact hrun,T1,⟨λid o ho=>by simp[H.only,aA] at ho,λid _ o _ ho=>by simp[H.only,aA] at ho,?_,?_⟩,?_⟩
 ·intro t ht;simp only[H.only,Oc] at ht;subst ht;refine ⟨.inr rfl,λB' e hte=>?_⟩;rw[hτ] at hte;cases hte;exact ⟨by simp[G',upd],hown,by rw[a3];exact hB⟩
 ·intro t ht t' ht' _ _ _ _ _;simp only[H.only,Oc] at ht ht';rw[ht,ht']
 ·simp only[aB];refine .inr ⟨B,off,C,vs++news,by simp,by simpa using hfit,by simp[hl,hnl,Px],(aK.mono R T1 _ _ _ he).append (aK.mono R T1 _ _ _ hn),?_,?_⟩
  ·intro i v hv;rcases Ps i vs.length with hi|hi
   ·rw[OI hi] at hv;obtain ⟨b1,b2,b3,b4⟩:=him i v hv;refine ⟨(hbelow _ aa).trans b1,b2,b3,λe he'=>?_⟩;simp only[G',upd,N9] at he';cases he';omega
   ·rw[PD hi] at hv;have hi2:i - vs.length<news.length:=by
     rcases Ps (i - vs.length) news.length with h|h
     ·exact h
     ·rw[Pp h] at hv;cases hv
    refine ⟨?_,hone v (PT hv),hown,λe he'=>?_⟩
    ·rw[hc1,OI aq,PD aq];rw[<-hv];congr 1;simp;omega
    ·simp only[G',upd,N9] at he';cases he';omega
  ·simp only[di];refine .inr ⟨.inr rfl,?_,_,T,fr,a1,?_,?_⟩
   ·rw[hτ,N6,Px,hnl,<-hE,PH]
   ·simp;omega
   ·intro j hj;exact hfr j (by simp at hj;omega)
theorem qA{t u ty e:TypeId}{i:TypeInfo}{x v:Value}{ys xs:List AV}{news:List Value}{c:Cap}{toks:List Nat}{n m:Nat}
  (hfits:∀(base:Option Addr)(sLen sCap:Nat)(w':World),sLen+ys.length<=sCap->(match base with|some a=>(storeCells (a.add (sLen*i.size)) news).run P w|none=> .ok () w)= .ok () w'->(Builtin.append_ #[t,u] ty #[.slice base sLen sCap,x]).run P w= .ok (.slice base (sLen+ys.length) sCap) w')
  (hgrows:∀(base:Option Addr)(sLen sCap:Nat)(vs:List Value),Src P w i.size (.slice base sLen sCap) sLen vs->¬sLen+ys.length<=sCap->sLen<=sCap->(sLen+ys.length)*i.bytes<=140737488355328->sLen+ys.length<4611686018427387904->
   ∃w' C rest,(Builtin.append_ #[t,u] ty #[.slice base sLen sCap,x]).run P w= .ok (.slice (some ⟨w.heap.size,0,none⟩) (sLen+ys.length) C) w'/\dy w w' (.cells (vs++news++rest).toArray e (0,0))/\sLen+ys.length<=C/\C*i.size=(sLen+ys.length)*i.size+rest.length)
  (hn:aK G w i.size ys news) (hone:∀u∈news,One u) (hv:aB G w (.sl i.size xs c) v) (hb:(xs.length+ys.length)*i.bytes<=140737488355328) (hlen:xs.length+ys.length<4611686018427387904)
  (R:bf G (.only aA toks n m) w) (hm:¬G.tdom m) (hc:(c= .exact xs.length/\toks=[])\/∃tk,c= .own tk/\toks=[tk]):
  ∃v' w' G',(Builtin.append_ #[t,u] ty #[v,x]).run P w= .ok v' w'/\Trans G w (.only aA toks n m) G' w' (.only aA [m] n (m+1))/\bf G' (.only aA [m] n (m+1)) w'/\aB G' w' (.sl i.size (xs++ys) (.own m)) v':=by
 have hv0:=hv;simp only[aB] at hv;rcases hv with ⟨rfl,⟨a0,rfl⟩,-⟩|⟨B,off,C,vs,rfl,hC,hl,he,him,hcap⟩
 ·by_cases hy:ys=[]
  ·subst hy;have hnn:news=[]:=by simpa [aK] using hn
   subst hnn;obtain ⟨G',T1,R1,k1,k2,k3,k4⟩:=Bc (q:=none) R hm (.inl rfl);refine ⟨.slice a0 0 0,w,G',?_,T1,R1,?_⟩
   ·exact hfits a0 0 0 w (NY _) (by cases a0<;>rfl)
   ·simp only[aB];exact .inl ⟨rfl,⟨a0,rfl⟩,by simp[kP]⟩
  ·have hpos:0<ys.length:=Qb.2 hy;obtain ⟨w',C,rest,h1,h2,h3,h4⟩:=hgrows a0 0 0 []
    (oE a0) aa (NY _) (by simpa using hb) (by simpa using hlen)
   have hnl:=hn.length;simp only[List.nil_append] at h2 |-;obtain ⟨G',T1,R1,V⟩:=qR (n:=n) (m:=m) (C:=C) h2 hn R aa (by rw[Od] at h4;omega) (λj _=>by simp) hm hone;refine ⟨_,w',G',h1,T1,R1,?_⟩;simpa using V
 ·by_cases hfit:xs.length+ys.length<=C
  ·
   by_cases hy:ys=[]
   ·subst hy;have hnn:news=[]:=by simpa [aK] using hn
    subst hnn;have hq:∃q,(q=none\/∃tk,toks=[tk]/\G.τ tk=q)/\(C=xs.length\/(q=some (B,off+xs.length*i.size)/\Room w B (off+C*i.size))):=by
     rcases hc with ⟨rfl,rfl⟩|⟨tk,rfl,rfl⟩
     ·exact ⟨none,.inl rfl,.inl (by simpa [di] using hcap)⟩
     ·simp only[di] at hcap;rcases hcap with hcap|⟨k1,k2,k3⟩
      ·exact ⟨none,.inl rfl,.inl hcap⟩
      ·exact ⟨_,.inr ⟨tk,rfl,rfl⟩,.inr ⟨k2,k3⟩⟩
    obtain ⟨q,hq1,hq2⟩:=hq;obtain ⟨G',T1,R1,k1,k2,k3,k4⟩:=Bc (q:=q) R hm hq1;refine ⟨_,w,G',hfits _ _ _ w hfit (by simp[storeCells]),T1,R1,?_⟩;simp only[aB];refine .inr ⟨B,off,C,vs,by simp,by simpa using hC,by simpa using hl,by simpa using aK.mono R T1 _ _ _ he,him.mono R T1,?_⟩;simp only[di,ON];rcases hq2 with hq2|⟨hq2,hr⟩
    ·exact .inl hq2
    ·exact .inr ⟨k1,k2.trans hq2,hr⟩
   ·have hpos:0<ys.length:=Qb.2 hy;rcases hc with ⟨rfl,rfl⟩|⟨tk,rfl,rfl⟩
    ·simp only[di] at hcap;omega
    ·simp only[di] at hcap;rcases hcap with hcap|⟨k1,k2,k3⟩
     ·omega
     ·obtain ⟨w',G',r1,T1,R1,V⟩:=rK (P:=P) R hm hl he him k2 k3 hfit hn hone;exact ⟨_,w',G',hfits _ _ _ w' hfit (by simpa using r1),T1,R1,V⟩
  ·have hsrc:=(kh (P:=P) (w:=w) (.inl rfl) hv0);obtain ⟨vs',hs1,hs2,hs3⟩:=hsrc;obtain ⟨w',C',rest,h1,h2,h3,h4⟩:=hgrows _ _ _ _ hs1 hfit hC hb hlen;have hnl:=hn.length;have hl':=hs2.length;have hall:=hs2.append hn;have hlen':(vs'++news).length=(xs.length+ys.length)*i.size:=by simp[hl',hnl,Px]
   obtain ⟨G',T1,R1,V⟩:=qR (n:=n) (m:=m) (C:=C') h2 hall R (by simpa using h3) aa (λj _=>by simp) hm (by
    intro u hu;rcases OM.1 hu with h|h
    ·exact hs3 u h
    ·exact hone u h)
   refine ⟨_,w',G',h1,T1,R1,?_⟩;simpa using V
theorem yO{t u ty e:TypeId}{d:TypeDesc}{i:TypeInfo}{z:Value}{x v:Value}{ys xs:List AV}{news:List Value}{c:Cap}{toks:List Nat}{n m:Nat}
  (ht:P.underlying t=some (.slice e)) (hu:P.underlying u=some d) (hd:(∃e',d= .slice e')\/d= .string) (hi:P.info? e=some i) (hz:i.zero=some z) (hzs:z.cells.size=i.size) (hsz:0<i.size) (hx:Src P w i.size x ys.length news)
  (hn:aK G w i.size ys news) (hone:∀u∈news,One u) (hv:aB G w (.sl i.size xs c) v) (hb:(xs.length+ys.length)*i.bytes<=140737488355328) (hlen:xs.length+ys.length<4611686018427387904)
  (R:bf G (.only aA toks n m) w) (hm:¬G.tdom m) (hc:(c= .exact xs.length/\toks=[])\/∃tk,c= .own tk/\toks=[tk]):
  ∃v' w' G',(Builtin.append_ #[t,u] ty #[v,x]).run P w= .ok v' w'/\Trans G w (.only aA toks n m) G' w' (.only aA [m] n (m+1))/\bf G' (.only aA [m] n (m+1)) w'/\aB G' w' (.sl i.size (xs++ys) (.own m)) v':=
 qA (e:=e) (λbase sLen sCap w' h1 h2=>run_append_fits ht hu hd hi hx h1 h2) (λbase sLen sCap vs h1 h2 h3 h4 h5=>let ⟨w',C,rest,a,b,c,d⟩:=fy ht hu hd hi hz hzs hsz hx h1 h2 h3 h4 h5;⟨w',C,rest,a,b,c.1,d⟩) hn hone hv hb hlen R hm hc
theorem pJ{t u ty e:TypeId}{i:TypeInfo}{z:Value}{n:Nat}{base:Option Addr}{sLen sCap:Nat}{w':World}
  (ht:P.underlying t=some (.slice e)) (hu:P.underlying u=some (.int .i64)) (hi:P.info? e=some i) (hz:i.zero=some z) (hzs:z.cells.size=i.size) (hsz:0<i.size) (hn:n<4611686018427387904) (hb:n*i.bytes<=140737488355328)
  (hfit:sLen+n<=sCap) (hst:(match base with|some a=>(storeCells (a.add (sLen*i.size)) (Builtin.zeroCells z.cells n).toList).run P w|none=> .ok () w)= .ok () w'):
  (Builtin.append_ #[t,u] ty #[.slice base sLen sCap,.int .i64 n]).run P w= .ok (.slice base (sLen+n) sCap) w':=by
 have hw:IntKind.i64.wrap (n:Int)=n:=IntWalk.i64_in _ aa;have h0:¬((n:Int)<0):=by omega
 have hb':¬(281474976710656<(n:Int)*i.bytes):=by
  have:=Int.ofNat_le.2 hb;rw[Int.natCast_mul] at this;omega
 by_cases hz0:n*i.size=0
 ·have hn0:n=0:=by rcases Nat.mul_eq_zero.1 hz0 with h|h<;>omega
  subst hn0;have hw0:IntKind.i64.wrap 0=0:=by decide
  simp[Builtin.zeroCells] at hst;simp at hfit;simp[Builtin.append_,run_underlying ht,run_underlying hu,sizeOf,typeInfo,hi,asInt,asIntOf,hw0,hfit];cases base with
  |none=>simp at hst |-;exact hst
  |some a=>simp only[] at hst;simp[hst]
 ·simp[Builtin.append_,run_underlying ht,run_underlying hu,sizeOf,typeInfo,hi,asInt,asIntOf,hw,h0,hb',hfit,hz0,zeroValue,hz];cases base with
  |none=>simp at hst |-;exact hst
  |some a=>simp only[] at hst;simp[hst]
theorem oF{t u ty e:TypeId}{i:TypeInfo}{z:Value}{n:Nat}{vs:List Value}{base:Option Addr}{sLen sCap:Nat}
  (ht:P.underlying t=some (.slice e)) (hu:P.underlying u=some (.int .i64)) (hi:P.info? e=some i) (hz:i.zero=some z) (hzs:z.cells.size=i.size) (hsz:0<i.size)
  (hvs:Src P w i.size (.slice base sLen sCap) sLen vs) (hfit:¬sLen+n<=sCap) (hle:sLen<=sCap) (hb:(sLen+n)*i.bytes<=140737488355328) (hn:sLen+n<4611686018427387904):
  ∃w' C rest,(Builtin.append_ #[t,u] ty #[.slice base sLen sCap,.int .i64 n]).run P w= .ok (.slice (some ⟨w.heap.size,0,none⟩) (sLen+n) C) w'/\dy w w' (.cells (vs++(Builtin.zeroCells z.cells n).toList++rest).toArray e (0,0))/\(sLen+n<=C/\C<=9223372036854775807)/\C*i.size=(sLen+n)*i.size+rest.length:=by
 obtain ⟨-,k2⟩:=hvs;have hlt:sCap<sLen+n:=by omega
 have hg:=growslice_fits hlt hb;have hg':¬(281474976710656<Builtin.nextslicecap (sLen+n) sCap*i.bytes):=by omega
 have h63:¬((sLen:Int)+(n:Int)>9223372036854775807):=by omega
 have h63':¬(9223372036854775807<(sLen:Int)+(n:Int)):=by omega
 have hw:IntKind.i64.wrap (n:Int)=n:=IntWalk.i64_in _ aa;have h0:¬((n:Int)<0):=by omega
 have hb':¬(281474976710656<(n:Int)*i.bytes):=by
  have h1:n*i.bytes<=(sLen+n)*i.bytes:=PB _ aa;have:=Int.ofNat_le.2 (Oz h1 hb);rw[Int.natCast_mul] at this;omega
 have hz0:¬(n*i.size=0):=by
  intro h;rcases Nat.mul_eq_zero.1 h with h|h<;>omega
 let w1:World:=w.drew
 let C:=(Question.appendCap (sLen+n) sCap e).cut (w.tape w.drawn (.appendCap (sLen+n) sCap e))
 have hC:sLen+n<=C:=by simp[C,Question.cut]
 have hC63:C<=9223372036854775807:=by
  have:=QX (w.tape w.drawn (.appendCap (sLen+n) sCap e)) (show 0<2^63 - (sLen+n) by omega);simp only[C,Question.cut];omega
 have e2:=k2 w1 rfl;refine ⟨{w1 with heap:=w1.heap.push (.cells (vs++(Builtin.zeroCells z.cells n).toList++(Builtin.zeroCells z.cells (C - (sLen+n))).toList).toArray e)},C,(Builtin.zeroCells z.cells (C - (sLen+n))).toList,?_,⟨rfl,rfl,rfl⟩,⟨hC,hC63⟩,?_⟩
 ·simp[Builtin.append_,run_underlying ht,run_underlying hu,sizeOf,typeInfo,hi,asInt,asIntOf,hw,h0,hb',hfit,hz0,IntKind.max,IntKind.signed,IntKind.bits,h63,h63',hg',Question.forced,zeroValue,hz,newRow];rw[e2,Result.andThen_ok];simp[C,w1];congr 2;apply Array.ext';simp
 ·simp[Builtin.zeroCells,hzs];rw[<-Px];congr 1;omega
end
end Go.Av
end
section
namespace Go.Av
section
variable{P:Program}
def Local(P:Program)(o:Oper)(t:Tm)(h1:H)(x:AV)(h1':H):Prop:=
 ∀G w a,cG G w t a->bf G h1 w->cF G h1 h1'->∃nx v w' G',(execOp a.eval o).run P w= .ok nx w'/\(nx= .value v\/nx= .skip/\v=undef)/\Trans G w h1 G' w' h1'/\bf G' h1' w'/\aB G' w' x v
structure Touch(h h1 h1':H)(h':H)(en:Ent):Prop where
 sub:h1.sub h
 n:h1.n=h.n
 m:h1.m=h.m
 eq:h'=h.patch h1 h1'
 rd:∀id,(h1.objs id).isSome->id∈en.rd\/id∈en.wr
 wr:∀id,h1.n<=id->id<h1'.n->id∈en.wr
 chg:∀id,(h1.objs id).isSome->id∉en.wr->h1'.objs id=h1.objs id
 tk:∀t,t∈h1.toks->t∈en.tk
 tn:∀t,t∈h1'.toks->t∈en.tk
 le:h1.n<=h1'.n
 lem:h1.m<=h1'.m
def Loc(P:Program)(o:Oper)(t:Tm)(h:H)(x:AV)(h':H)(en:Ent):Prop:=
 ∃h1 h1',Touch h h1 h1' h' en/\Local P o t h1 x h1'
theorem H.ext{h h':H}(a:∀j,h.objs j=h'.objs j)(b:h.n=h'.n)(c:h.toks=h'.toks)(d:h.m=h'.m):h=h':=by
 cases h;cases h';simp_all;exact funext a
theorem gR{l:List Nat}:l.filter (λ_=>true)=l:=by
 induction l with
 |nil=>rfl
 |cons a l ih=>simp[ih]
theorem bM(h:H):Touch h (.only aA [] h.n h.m) (.only aA [] h.n h.m) h aZ where
 sub:=⟨λj o x=>by simp[H.only,aA] at x,λt x=>by simp[H.only] at x⟩
 n:=rfl
 m:=rfl
 eq:=H.ext (λj=>by simp[H.patch,H.only,aA];omega) rfl (by simp[H.patch,H.only,gR]) rfl
 rd id x:=by simp[H.only,aA] at x
 wr id a b:=by simp only[H.only] at a b;omega
 chg id x:=by simp[H.only,aA] at x
 tk t x:=by simp[H.only] at x
 tn t x:=by simp[H.only] at x
 le:=NY _
 lem:=NY _
variable{t:Tm}{o:Oper}{h h':H}{x:AV}{en:Ent}
theorem Loc.plain(hp:∀G w a,cG G w t a->Plain P G w a o x):Loc P o t h x h aZ:=
 ⟨_,_,bM h,λG w a ht _ _=>by
  obtain ⟨v,h1,h2⟩:=hp G w a ht;exact ⟨_,v,w,G,h1,.inl rfl,Trans.refl _ _ _,iz,h2⟩⟩
theorem ez(h:H){id:Nat}{ob:Obj}(ho:h.objs id=some ob):Touch h (.only (upd aA id (some ob)) [] h.n h.m) (.only (upd aA id (some ob)) [] h.n h.m) h ⟨[id],[],[]⟩ where
 sub:=⟨(λj o x=>by
  simp only[H.only,upd,aA] at x;split at x
  ·rename_i e;subst e;rw[ho];exact x
  ·cases x),λt x=>by simp[H.only] at x⟩
 n:=rfl
 m:=rfl
 eq:=H.ext (λj=>by
  simp only[H.patch,H.only,upd,aA];by_cases e:j=id
  ·subst e;simp[ho]
  ·simp[e];omega) rfl (by simp[H.patch,H.only,gR]) rfl
 rd j x:=by
  simp only[H.only,upd,aA] at x;split at x
  ·rename_i e;subst e;simp
  ·cases x
 wr id a b:=by simp only[H.only] at a b;omega
 chg _ _ _:=rfl
 tk t x:=by simp[H.only] at x
 tn t x:=by simp[H.only] at x
 le:=NY _
 lem:=NY _
theorem fj(h:H){id:Nat}{ob ob':Obj}(ho:h.objs id=some ob):Touch h (.only (upd aA id (some ob)) [] h.n h.m) (.only (upd aA id (some ob')) [] h.n h.m) {h with objs:=upd h.objs id (some ob')} ⟨[],[id],[]⟩ where
 sub:=(ez h ho).sub
 n:=rfl
 m:=rfl
 eq:=H.ext (λj=>by
  simp only[H.patch,H.only,upd,aA];by_cases e:j=id
  ·subst e;simp
  ·simp[e];omega) rfl (by simp[H.patch,H.only,gR]) rfl
 rd j x:=by
  simp only[H.only,upd,aA] at x;split at x
  ·rename_i e;subst e;simp
  ·cases x
 wr id a b:=by simp only[H.only] at a b;omega
 chg j x hj:=by
  simp only[H.only,upd,aA] at x;split at x
  ·rename_i e;subst e;simp at hj
  ·cases x
 tk t x:=by simp[H.only] at x
 tn t x:=by simp[H.only] at x
 le:=NY _
 lem:=NY _
theorem gS(h:H)(ob:Obj):Touch h (.only aA [] h.n h.m) (.only (upd aA h.n (some ob)) [] (h.n+1) h.m) {h with objs:=upd h.objs h.n (some ob),n:=h.n+1} ⟨[],[h.n],[]⟩ where
 sub:=(bM h).sub
 n:=rfl
 m:=rfl
 eq:=H.ext (λj=>by
  simp only[H.patch,H.only,upd,aA];by_cases e:j=h.n
  ·subst e;simp
  ·simp[e];intro a b;omega) rfl (by simp[H.patch,H.only,gR]) rfl
 rd j x:=by simp[H.only,aA] at x
 wr id a b:=by simp only[H.only] at a b;simp;omega
 chg j x hj:=by simp[H.only,aA] at x
 tk t x:=by simp[H.only] at x
 tn t x:=by simp[H.only] at x
 le:=by simp[H.only]
 lem:=NY _
theorem kj(h:H):Touch h (.only aA [] h.n h.m) (.only aA [h.m] h.n (h.m+1)) {h with toks:=h.m::h.toks,m:=h.m+1} ⟨[],[],[h.m]⟩ where
 sub:=(bM h).sub
 n:=rfl
 m:=rfl
 eq:=H.ext (λj=>by simp[H.patch,H.only,aA];omega) rfl (by simp[H.patch,H.only,gR]) rfl
 rd j x:=by simp[H.only,aA] at x
 wr id a b:=by simp only[H.only] at a b;omega
 chg j x hj:=by simp[H.only,aA] at x
 tk t x:=by simp[H.only] at x
 tn t x:=by simpa [H.only] using x
 le:=NY _
 lem:=by simp[H.only]
theorem qB(h:H){tk:Nat}(htk:tk∈h.toks):Touch h (.only aA [tk] h.n h.m) (.only aA [h.m] h.n (h.m+1)) {h with toks:=h.m::h.toks.filter (· ≠tk),m:=h.m+1} ⟨[],[],[tk,h.m]⟩ where
 sub:=⟨λj o x=>by simp[H.only,aA] at x,λt x=>by simp only[H.only,Oc] at x;subst x;exact htk⟩
 n:=rfl
 m:=rfl
 eq:=H.ext (λj=>by simp[H.patch,H.only,aA];omega) rfl (by
  simp only[H.patch,H.only,List.singleton_append,Pf,Pz];apply List.filter_congr;intro y _;simp) rfl
 rd j x:=by simp[H.only,aA] at x
 wr id a b:=by simp only[H.only] at a b;omega
 chg j x hj:=by simp[H.only,aA] at x
 tk t x:=by simp only[H.only,Oc] at x;subst x;simp
 tn t x:=by simp only[H.only,Oc] at x;subst x;simp
 le:=NY _
 lem:=by simp[H.only]
theorem kT{G:aQ}{h1 h1':H}(F:cF G h1 h1')(hlt:h1.n<h1'.n):¬G.dom h1.n:=F.1 _ (NY _) hlt
theorem mU{G:aQ}{h1 h1':H}(F:cF G h1 h1')(hlt:h1.m<h1'.m):¬G.tdom h1.m:=F.2 _ (NY _) hlt
theorem cells_one{G:aQ}{w:World}:∀{cs:List AV}{vs:List Value},aC G w cs vs->cs.all cM=true->∀v∈vs,One v
 |[],vs,h,_=>by simp only[aC] at h;subst h;simp
 |c::cs,vs,h,ha=>by
  simp only[aC] at h;obtain ⟨v,us,rfl,h1,h2⟩:=h;simp only[List.all_cons,Ob] at ha;intro u hu;rcases Om.1 hu with rfl|hu
  ·exact yN h1 ha.1
  ·exact cells_one h2 ha.2 u hu
theorem eC(w:World)(o:Go.Obj):dy w {w with heap:=w.heap.push o} o:=⟨rfl,rfl,rfl⟩
theorem Bd{e:TypeId}{z:Operand}{y:Opd}{cs:List AV}(hop:o.op= .box e z)(hy:opd P e z=some y)(hc:(ev t y= .agg cs)\/(cM (ev t y)=true/\cs=[ev t y]))(hall:cs.all cM=true):
  Loc P o t h (.ptr h.n 0) {h with objs:=upd h.objs h.n (some (.cells cs)),n:=h.n+1} ⟨[],[h.n],[]⟩:=by
 refine ⟨_,_,gS h _,λG w a ht R F=>?_⟩;have r:=aJ hy ht;have rc:aC G w cs (a.eval z).cells.toList:=by
  rcases hc with hc|⟨hc,rfl⟩
  ·have:=dU r (.inr ⟨cs,hc⟩)
   rwa [hc] at this
  ·have:=dU r (.inl hc);have e:cellsOf (ev t y)=[ev t y]:=by
    revert hc;generalize ev t y=X;intro hc;cases X<;>simp[cM] at hc<;>rfl
   rwa [e] at this
 obtain ⟨G',T1,R1,V⟩:=Bb (m:=h.m) (eC w (.cells (a.eval z).cells.toList.toArray e (0,0))) rc (cells_one rc hall) (kT F (by simp[H.only]));refine ⟨.value (.pointer (some ⟨w.heap.size,0,none⟩)),_,_,G',?_,.inl rfl,T1,R1,V⟩;simp[execOp,hop,Instr.box,newVar,newRow]
theorem CA{e:TypeId}{z:Value}{b:AV}(hop:o.op= .alloc e)(hz:(P.info? e).bind (·.zero)=some z)(hb:dm P e z=some b)(hall:(cellsOf b).all cM=true):
  Loc P o t h (.ptr h.n 0) {h with objs:=upd h.objs h.n (some (.cells (cellsOf b))),n:=h.n+1} ⟨[],[h.n],[]⟩:=by
 refine ⟨_,_,gS h _,λG w a ht R F=>?_⟩;have r:aB G w b z:=eR hb;have rc:aC G w (cellsOf b) z.cells.toList:=by
  by_cases hc:∃cs,b= .agg cs
  ·exact dU r (.inr hc)
  ·have e:cellsOf b=[b]:=by cases b<;>first|rfl|exact absurd ⟨_,rfl⟩ hc
   rw[e] at hall;exact dU r (.inl (by simpa using hall))
 obtain ⟨G',T1,R1,V⟩:=Bb (m:=h.m) (eC w (.cells z.cells.toList.toArray e (0,0))) rc (cells_one rc hall) (kT F (by simp[H.only]));refine ⟨.value (.pointer (some ⟨w.heap.size,0,none⟩)),_,_,G',?_,.inl rfl,T1,R1,V⟩;obtain ⟨i,hi,hzi⟩:=OZ.1 hz;simp[execOp,hop,Instr.alloc,newVar,newRow,zeroValue,typeInfo,hi,hzi]
theorem CB{ty:TypeId}{z1 z2:Operand}{y1 y2:Opd}{id off:Nat}{cs:List AV}(hop:o.op= .store ty z1 z2)(h1:(P.info? ty).isSome=true)(hpos:0<P.cellsOf ty)(hy1:opd P 0 z1=some y1)(hy2:opd P ty z2=some y2)
  (hp:ev t y1= .ptr id off) (ho:h.objs id=some (.cells cs)) (hl:(cellsOf (ev t y2)).length=P.cellsOf ty) (hle:off+P.cellsOf ty<=cs.length) (hall:(cellsOf (ev t y2)).all cM=true):
  Loc P o t h .any {h with objs:=upd h.objs id (some (.cells (setAt cs off (cellsOf (ev t y2)))))} ⟨[],[id],[]⟩:=by
 refine ⟨_,_,fj h ho,λG w a ht R F=>?_⟩;have r1:=aJ hy1 ht;have r2:=aJ hy2 ht;rw[hp] at r1;simp only[aB] at r1;have rc:aC G w (cellsOf (ev t y2)) (a.eval z2).cells.toList:=by
  by_cases hc:∃cs,ev t y2= .agg cs
  ·exact dU r2 (.inr hc)
  ·have e:cellsOf (ev t y2)=[ev t y2]:=by
    revert hc;generalize ev t y2=X;intro hc;cases X<;>first|rfl|exact absurd ⟨_,rfl⟩ hc
   rw[e] at hall;exact dU r2 (.inl (by simpa using hall))
 obtain ⟨w',s1,T1,R1⟩:=tH (P:=P) R rc (cells_one rc hall) (by rw[hl];exact hle);refine ⟨.skip,undef,w',G,?_,.inr ⟨rfl,rfl⟩,T1,R1,by simp[aB]⟩;have hsz:(a.eval z2).cells.size=P.cellsOf ty:=by have:=rc.length;simpa [hl] using this
 simp[execOp,hop,Instr.storeAt,r1.2,Instr.sureAddr,storeVar,cH P w ty h1,hsz,s1]
theorem EI{ty:TypeId}{z:Operand}{y:Opd}{id off:Nat}{cs:List AV}(hop:o.op= .load ty z)(h1:(P.info? ty).isSome=true)(h2:(P.underlying ty).isSome=true)(hy:opd P 0 z=some y)
  (hp:ev t y= .ptr id off) (ho:h.objs id=some (.cells cs)) (hx:part off (if bL P ty then some (P.cellsOf ty) else none) cs=some x):
  Loc P o t h x h ⟨[id],[],[]⟩:=by
 refine ⟨_,_,ez h ho,λG w a ht R F=>?_⟩;have r1:=aJ hy ht;rw[hp] at r1;simp only[aB] at r1;obtain ⟨vs,rest,T,fr,hg,hvs,-⟩:=kf R (id:=id) (cs:=cs) (by simp[H.only,upd]);have hc:∀j v,vs[j]? =some v->w.cell? ⟨G.ι id,j,none⟩=some v:=by
  intro j v hj;have hj':j<vs.length:=(O4.1 hj).1;unfold World.cell?;simp only[hg];simpa [OI hj'] using hj
 have hx':part 0 (if bL P ty then some (P.cellsOf ty) else none) (cs.drop off)=some x:=by
  unfold part at hx |-;split at hx
  ·simpa using hx
  ·split at hx
   ·cases hx;rw[Of aq];simp
   ·cases hx
 obtain ⟨v,e1,e2⟩:=nS hop h1 h2 hy ht r1.2 (hvs.drop off) (λj v hj=>hc _ v (by simpa [PM] using hj)) hx';exact ⟨_,v,w,G,e1,.inl rfl,Trans.refl _ _ _,R,e2⟩
theorem qS{c:Call}{zs zx:Operand}{ys yx:Opd}{T U e:TypeId}{d:TypeDesc}{i:TypeInfo}{s:Nat}{xs els:List AV}{cp:Cap}{h':H}(hop:o.op= .call c)(hc:c.callee= .builtin .append)(ha:c.args.toList=[zs,zx])(hta:c.argTypes.toList=[T,U])
  (hT:P.underlying T=some (.slice e)) (hU:P.underlying U=some d) (hd:(∃e',d= .slice e')\/d= .string) (hi:P.info? e=some i) (hz:i.zero.any (λz=>z.cells.size == i.size)=true) (hsz:0<i.size)
  (hys:opd P T zs=some ys) (hyx:opd P U zx=some yx) (hs:ev t ys= .sl s xs cp) (hx:(∃s' c',ev t yx= .sl s' els c'/\(s'=i.size\/els=[]))\/∃l,ev t yx= .str l/\els=aD l/\i.size=1)
  (hb:(xs.length+els.length)*i.bytes<=140737488355328) (hlen:xs.length+els.length<4611686018427387904)
  (hcap:((∃k,cp= .exact k/\k=xs.length)/\(s=i.size\/xs=[])/\h'= {h with toks:=h.m::h.toks,m:=h.m+1}/\en=⟨[],[],[h.m]⟩)\/
   ∃tk,cp= .own tk/\s=i.size/\tk∈h.toks/\h'= {h with toks:=h.m::h.toks.filter (· ≠tk),m:=h.m+1}/\en=⟨[],[],[tk,h.m]⟩):
  Loc P o t h (.sl i.size (xs++els) (.own h.m)) h' en:=by
 have ha':c.args= #[zs,zx]:=by rw[<-Array.toArray_toList (xs:=c.args),ha]
 have hta':c.argTypes= #[T,U]:=by rw[<-Array.toArray_toList (xs:=c.argTypes),hta]
 obtain ⟨z,hz1,hz2⟩:∃z,i.zero=some z/\z.cells.size=i.size:=by
  cases hzz:i.zero with
  |none=>rw[hzz] at hz;simp at hz
  |some z=>rw[hzz] at hz;exact ⟨z,rfl,by simpa using hz⟩
 have key:∀(toks:List Nat) G w a,cG G w t a->bf G (.only aA toks h.n h.m) w->¬G.tdom h.m->(s=i.size\/xs=[])->((cp= .exact xs.length/\toks=[])\/∃tk,cp= .own tk/\toks=[tk]/\s=i.size)->
   ∃nx v w' G',(execOp a.eval o).run P w= .ok nx w'/\(nx= .value v\/nx= .skip/\v=undef)/\Trans G w (.only aA toks h.n h.m) G' w' (.only aA [h.m] h.n (h.m+1))/\bf G' (.only aA [h.m] h.n (h.m+1)) w'/\aB G' w' (.sl i.size (xs++els) (.own h.m)) v:=by
  intro toks G w a ht R hm hsx hcc;have r1:=aJ hys ht;have r2:=aJ hyx ht;rw[hs] at r1;have hsrc:∃news,Src P w i.size (a.eval zx) els.length news/\aK G w i.size els news/\(∀u∈news,One u):=by
   rcases hx with ⟨s',c',hx,hs'⟩|⟨l,hx,rfl,h1⟩
   ·rw[hx] at r2;exact kh hs' r2
   ·rw[hx] at r2;simp only[aB] at r2;rw[r2,h1];exact ⟨_,Hy l 1,lZ l,by
     intro u hu;obtain ⟨b,_,rfl⟩:=Oo.1 hu;exact ⟨(λ_ e=>by cases e),(λ_ e=>by cases e)⟩⟩
  obtain ⟨news,n1,n2,n3⟩:=hsrc;have r1':aB G w (.sl i.size xs cp) (a.eval zs):=by
   rcases hsx with rfl|rfl
   ·exact r1
   ·simp only[aB] at r1 |-;rcases r1 with r1|⟨B,off,C,vs,q1,q2,q3,q4,q5,q6⟩
    ·exact .inl r1
    ·have hvs:vs=[]:=by simpa using q3
     subst hvs;refine .inr ⟨B,off,C,[],q1,q2,by simp,by simp[aK],Imm.nil,?_⟩;rcases hcc with ⟨rfl,_⟩|⟨tk,rfl,_,rfl⟩
     ·exact q6
     ·exact q6
  obtain ⟨v',w',G',e1,T1,R1,V⟩:=yO (ty:=o.type) hT hU hd hi hz1 hz2 hsz n1 n2 n3 r1' hb hlen R hm (hcc.imp (λz=>z) λ⟨tk,a,b,_⟩=>⟨tk,a,b⟩);refine ⟨.value v',v',w',G',?_,.inl rfl,T1,R1,V⟩;simp[execOp,hop,resolve,hc,ha',hta',invoke,builtin,e1]
 rcases hcap with ⟨⟨k,rfl,rfl⟩,hsx,rfl,rfl⟩|⟨tk,rfl,hsx,htk,rfl,rfl⟩
 ·exact ⟨_,_,kj h,λG w a ht R F=>key [] G w a ht R (mU F (by simp[H.only])) hsx (.inl ⟨rfl,rfl⟩)⟩
 ·exact ⟨_,_,qB h htk,λG w a ht R F=>key [tk] G w a ht R (mU F (by simp[H.only])) (.inl hsx) (.inr ⟨tk,rfl,rfl,hsx⟩)⟩
theorem CC{src dst e:TypeId}{z:Operand}{y:Opd}{sz:Nat}{xs:List AV}{cp:Cap}{l:List UInt8}(hop:o.op= .convert src dst z)(hs:P.underlying src=some (.slice e))(he:P.underlying e=some (.int .u8))(hd:P.underlying dst=some .string)
  (hy:opd P src z=some y) (hx:ev t y= .sl sz xs cp) (hsz:sz=1\/xs=[]) (hl:ie xs=some l) {G:aQ} {w:World} {a:Act} (ht:cG G w t a):Plain P G w a o (.str l):=by
 have r:=aJ hy ht;rw[hx] at r;simp only[aB] at r;rcases r with ⟨rfl,⟨a0,hv⟩,-⟩|⟨B,off,C,vs,hv,hC,hvl,hve,him,-⟩
 ·simp[ie] at hl;subst hl;refine ⟨.string ByteArray.empty,?_,by simp[aB];rfl⟩;cases a0 with
  |none=>simp[execOp,hop,hv,run_convert_bytes_nil w src e hs he 0 0 dst hd]
  |some q=>
   have h0:(loadCells q 0).run P w= .ok (([]:List Int).map (Value.int .u8)).toArray w:=by
    have:=run_loadCells_list (P:=P) w q [] (λj u hu=>by simp at hu);simpa using this
   simp[execOp,hop,hv,run_convert_bytes_string w src dst e _ 0 0 hs he hd,run_bytesToString w q 0 0 [] h0]
 ·have hve':aK G w 1 xs vs:=by
   rcases hsz with rfl|rfl
   ·exact hve
   ·simpa [aK] using hve
  have hvl':=hve'.length;have key:∀(xs:List AV)(vs:List Value)(l:List UInt8),aK G w 1 xs vs->ie xs=some l->∃ns:List Int,vs=ns.map (Value.int .u8)/\l=ns.map (λn=>UInt8.ofNat n.toNat):=by
   intro xs;induction xs with
   |nil=>intro vs l h1 h2;simp only[aK] at h1;simp[ie] at h2;exact ⟨[],by simp[h1],by simp[h2]⟩
   |cons x xs ih=>
    intro vs l h1 h2;simp only[aK] at h1;obtain ⟨v,us,rfl,e1,e2,e3⟩:=h1;simp only[ie] at h2;split at h2
    ·rename_i b r hb hr;cases h2;obtain ⟨ns,rfl,rfl⟩:=ih us r e3 hr;cases x<;>simp[yG] at hb;rename_i k n;cases k<;>simp at hb;simp only[aB] at e2;subst e2;exact ⟨n::ns,by simp[Value.cells],by simp[hb]⟩
    ·cases h2
  obtain ⟨ns,rfl,rfl⟩:=key xs vs l hve' hl;have hnl:ns.length=xs.length:=by simpa using hvl'
  refine ⟨.string ⟨(ns.map λn=>UInt8.ofNat n.toNat).toArray⟩,?_,by simp only[aB]⟩;have:=run_convert_bytes_arg w src e hs he B off xs.length C ns hnl (λi hi=>by
   have hi':i<ns.length:=by omega
   have:=(him i (.int .u8 (ns.getD i 0)) (by simp[List.getD,N0 hi'])).1;exact this) dst hd
  simp[execOp,hop,hv,this,strOfNums]
theorem EJ{src dst e:TypeId}{z:Operand}{l:List UInt8}(hop:o.op= .convert src dst z)(hs:P.underlying src=some .string)(hd:P.underlying dst=some (.slice e))(he:P.underlying e=some (.int .u8))
  {G:aQ} {w:World} {a:Act} (r:a.eval z= .string ⟨l.toArray⟩) (R:bf G (.only aA [] h.n h.m) w) (F:cF G (.only aA [] h.n h.m) (.only aA [h.m] h.n (h.m+1))):
  ∃nx v w' G',(execOp a.eval o).run P w= .ok nx w'/\(nx= .value v\/(nx= .skip/\v=undef))/\Trans G w (.only aA [] h.n h.m) G' w' (.only aA [h.m] h.n (h.m+1))/\bf G' (.only aA [h.m] h.n (h.m+1)) w'/\aB G' w' (.sl 1 (aD l) (.own h.m)) v:=by
 have hsz:(ByteArray.mk l.toArray).size=l.length:=by simp[ByteArray.size]
 have hrun:=run_bytes_of_string w src dst e ⟨l.toArray⟩ hs hd he;rw[hsz] at hrun;have hge:=grownCap_ge w l.length 0 e;generalize grownCap w l.length 0 e=C at*
 have hrow:bytesRow ⟨l.toArray⟩ C=(l.map (λ(b:UInt8)=>Value.int .u8 (b.toNat:Int))++List.replicate (C - l.length) (Value.int .u8 0)).toArray:=by
  simp[bytesRow,hsz]
 have hsz2:(l.map (λ(b:UInt8)=>Value.int .u8 (b.toNat:Int))++List.replicate (C - l.length) (Value.int .u8 0)).toArray.size=l.length+(C - l.length):=by simp
 rw[hrow,hsz2] at hrun;have hb:(aD l).length=l.length:=by simp[aD]
 obtain ⟨G',T1,R1,V⟩:=qR (n:=h.n) (m:=h.m) (toks:=[]) (C:=C) (T:=e) (fr:=(l.length+(C - l.length),l.length+(C - l.length)+1)) (w:=w) (w':=w.drew.alloc (.cells (l.map (λ(b:UInt8)=>Value.int .u8 (b.toNat:Int))++List.replicate (C - l.length) (Value.int .u8 0)).toArray e _)) ⟨rfl,rfl,rfl⟩ (lZ l) R (by rw[hb];exact hge) aq
  (by intro j hj;simp[hb] at hj |-;omega) (mU F (by simp[H.only])) (by
   intro u hu;obtain ⟨b,_,rfl⟩:=Oo.1 hu;exact ⟨(λ_ e=>by cases e),(λ_ e=>by cases e)⟩)
 rw[hb] at V;refine ⟨_,_,_,G',?_,.inl rfl,T1,R1,V⟩;simp only[execOp,hop,r,Sem.run_bind,hrun,Result.andThen_ok,Sem.run_pure]
theorem Hz{src dst e:TypeId}{z:Operand}{y:Opd}{l:List UInt8}(hop:o.op= .convert src dst z)(hs:P.underlying src=some .string)(hd:P.underlying dst=some (.slice e))(he:P.underlying e=some (.int .u8))
  (hy:opd P src z=some y) (hx:ev t y= .str l):Loc P o t h (.sl 1 (aD l) (.own h.m)) {h with toks:=h.m::h.toks,m:=h.m+1} ⟨[],[],[h.m]⟩:=by
 refine ⟨_,_,kj h,λG w a ht R F=>?_⟩;have r:=aJ hy ht;rw[hx] at r;simp only[aB] at r;exact EJ hop hs hd he r R F
theorem tI{G:aQ}{w:World}:∀(l:List UInt8)(vs:List Value),aK G w 1 (aD l) vs->vs=l.map λb=> .int .u8 b.toNat
 |[],vs,h=>by simpa [aD,aK] using h
 |b::l,vs,h=>by
  simp only[aD,Oy,aK] at h;obtain ⟨v,us,e,-,h1,h2⟩:=h;simp only[byte,aB] at h1;subst h1;rw[e,tI l us h2];rfl
theorem HA{G:aQ}{w:World}{l:List UInt8}{c:Cap}{B:Nat}{v:Value}(hl:l.length<=B)(h:aB G w (.sl 1 (aD l) c) v):aB G w (.supb B) v:=by
 simp only[aB] at h |-;refine ⟨l,hl,?_⟩;rcases h with ⟨h1,h2,-⟩|⟨D,off,C,vs,h1,h2,h3,h4,h5,-⟩
 ·exact .inl ⟨by simpa [aD] using h1,h2⟩
 ·have hb:(aD l).length=l.length:=by simp[aD]
  rw[hb] at h1 h2;rw[tI l vs h4] at h5;exact .inr ⟨D,off,C,h1,h2,h5⟩
theorem EL{src dst e:TypeId}{z:Operand}{y:Opd}{B:Nat}(hop:o.op= .convert src dst z)(hs:P.underlying src=some .string)(hd:P.underlying dst=some (.slice e))(he:P.underlying e=some (.int .u8))
  (hy:opd P src z=some y) (hx:ev t y= .sup B):Loc P o t h (.supb B) {h with toks:=h.m::h.toks,m:=h.m+1} ⟨[],[],[h.m]⟩:=by
 refine ⟨_,_,kj h,λG w a ht R F=>?_⟩;have r:=aJ hy ht;rw[hx] at r;simp only[aB] at r;obtain ⟨l,r,hl⟩:=r;obtain ⟨nx,v,w',G',h1,h2,h3,h4,h5⟩:=EJ (h:=h) hop hs hd he r R F;exact ⟨nx,v,w',G',h1,h2,h3,h4,HA hl h5⟩
theorem tJ(off:Nat):∀(vs:List Value)(k:Nat)(cs:Array Value),off+k+vs.length<=cs.size->
  ((vs.zipIdx k).foldl (λ(cs:Array Value) (x:Value × Nat)=>cs.setIfInBounds (off+x.2) x.1) cs).toList=cs.toList.take (off+k)++vs++cs.toList.drop (off+k+vs.length)
 |[],k,cs,_=>by simp
 |v::vs,k,cs,h=>by
  simp only[List.length_cons] at h;simp only[List.zipIdx_cons,List.foldl_cons];rw[tJ off vs (k+1) _ aq];have ho:off+k<cs.toList.length:=by simp;omega
  have e1:(cs.toList.set (off+k) v).take (off+(k+1))=cs.toList.take (off+k)++[v]:=by
   rw[<-PH,Ov (by simpa using ho),List.take_set_of_le (NY _)];simp
  rw[Array.toList_setIfInBounds,e1,List.drop_set_of_lt aa];have:off+(k+1)+vs.length=off+k+(v::vs).length:=by simp;omega
  rw[this];simp
theorem rL{place:Nat->Option (Nat × Nat)}{cells:Array Value}{i off size:Nat}{v:Value}{rest:List (Nat × Value)}(hp:place i=some (off,size))(hs:v.cells.size=size)(hl:off+size<=cells.size):
  Instr.fill place cells ((i,v)::rest)=Instr.fill place (cells.toList.take off++v.cells.toList++cells.toList.drop (off+size)).toArray rest:=by
 have e:(v.cells.zipIdx.foldl (λcs (x:Value × Nat)=>cs.setIfInBounds (off+x.2) x.1) cells)=(cells.toList.take off++v.cells.toList++cells.toList.drop (off+size)).toArray:=by
  apply Array.ext';have:=tJ off v.cells.toList 0 cells (by simp[hs];omega);rw[<-Array.foldl_toList];simpa [hs] using this
 have hc:(v.cells.size≠size||off+v.cells.size>cells.size)=false:=by simp[hs];omega
 simp only[Instr.fill,hp,hc,Oa,N5];rw[<-e]
theorem jB{G:aQ}{w:World}{a:Act}(ht:cG G w t a){e:TypeId}:∀{l:List (Nat × Operand)}{k:Nat}{ys:List Opd},iR P e k l=some ys->
  aC G w (ys.map (ev t)) (l.map λp=>a.eval p.2)/\l.map (·.1)=List.range' k l.length/\ys.length=l.length
 |[],k,ys,h=>by simp[iR] at h;subst h;exact ⟨.nil,rfl,rfl⟩
 |(i,x)::l,k,ys,h=>by
  simp only[iR] at h;split at h
  ·rename_i hk;subst hk;split at h
   ·rename_i b r hb hr;cases h;obtain ⟨h1,h2,h3⟩:=jB ht hr;refine ⟨.cons (aJ hb ht) h1,?_,by simp[h3]⟩;simp[h2,Qn]
   ·cases h
  ·cases h
theorem kV{sz:Nat}{cells:Array Value}:∀(vs:List Value)(k:Nat)(done:List Value)(cells:Array Value),done.length=k*sz->cells.toList.take (k*sz)=done->cells.size=(k+vs.length)*sz->(∀v∈vs,v.cells.size=sz)->
  Instr.fill (λi=>some (i*sz,sz)) cells ((List.range' k vs.length).zip vs)=some (done++vs.flatMap (·.cells.toList)).toArray
 |[],k,done,cells,h1,h2,h3,h4=>by
  have:cells.toList=done:=by
   rw[<-h2,OT];simp at h3 |-;omega
  simp[Instr.fill,<-this]
 |v::vs,k,done,cells,h1,h2,h3,h4=>by
  simp only[List.length_cons] at h3;have hv:=h4 v af;have e1:(k+(vs.length+1))*sz=k*sz+sz+vs.length*sz:=by
   rw[Px,Px];omega
  rw[e1] at h3;simp only[List.length_cons,Qn,List.zip_cons_cons];rw[rL (off:=k*sz) (size:=sz) rfl hv aa];have hk:(k+1)*sz=k*sz+sz:=by rw[Px];omega
  rw[h2];rw[kV (sz:=sz) (cells:=cells) vs (k+1) (done++v.cells.toList) _ (by simp[h1,hv,hk]) (by
    have:(done++v.cells.toList).length=(k+1)*sz:=by simp[h1,hv,hk]
    rw[List.toList_toArray,<-this,Qg]) (by
    have:=h3;rw[show (k+1+vs.length)*sz=k*sz+sz+vs.length*sz by rw[Px,Px];omega];simp[h1,hv];omega) (λu hu=>h4 u (by simp[hu]))]
  simp
theorem eS{G:aQ}{w:World}{sz:Nat}:∀{xs:List AV}{vs:List Value},aC G w xs vs->(∀v∈vs,v.cells.size=sz)->aK G w sz xs (vs.flatMap (·.cells.toList))
 |[],vs,h,_=>by simp only[aC] at h;subst h;simp[aK]
 |x::xs,vs,h,hs=>by
  simp only[aC] at h;obtain ⟨v,us,rfl,h1,h2⟩:=h;simp only[Py,aK];exact ⟨v,_,rfl,hs v af,h1,eS h2 λu hu=>hs u (by simp[hu])⟩
theorem eE{G:aQ}{w:World}{x:AV}{v:Value}(h:aB G w x v)(hs:shaped x=true):aC G w (cellsOf x) v.cells.toList/\(cellsOf x).all cM=true:=by
 unfold shaped at hs;cases hc:cM x
 ·rw[hc,Qt] at hs;cases x<;>simp only[Oa] at hs;exact ⟨dU h (.inr ⟨_,rfl⟩),hs⟩
 ·have e:cellsOf x=[x]:=by cases x<;>simp[cM] at hc<;>rfl
  exact ⟨dU h (.inl hc),by rw[e];simpa using hc⟩
theorem wz{ty e:TypeId}{len:Nat}{parts:Array (Nat × Operand)}{ys:List Opd}{z:Value}(hop:o.op= .buildSlice ty len parts)(hu:P.underlying ty=some (.slice e))(hi:(P.info? e).isSome=true)(hn:parts.size=len)(hpos:0<P.cellsOf e)
  (hz:(P.info? e).bind (·.zero)=some z) (hzs:z.cells.size=P.cellsOf e)
  (hys:iR P e 0 parts.toList=some ys) (hs:∀y∈ys,(cellsOf (ev t y)).length=P.cellsOf e/\shaped (ev t y)=true) (hle:ys.length*P.cellsOf e<=16777216):
  Loc P o t h (.sl (P.cellsOf e) (ys.map (ev t)) (.exact ys.length)) h aZ:=by
 refine ⟨_,_,bM h,λG w a ht R F=>?_⟩;obtain ⟨r1,r2,r3⟩:=jB ht hys;simp only[Array.length_toList,hn] at r2 r3;have hsz:∀v∈parts.toList.map (λp=>a.eval p.2),v.cells.size=P.cellsOf e/\∀u∈v.cells.toList,One u:=by
  intro v hv;obtain ⟨k,hk⟩:=List.getElem?_of_mem hv;have hlt:k<(parts.toList.map (λp=>a.eval p.2)).length:=by
   rcases Ps k (parts.toList.map (λp=>a.eval p.2)).length with h|h
   ·exact h
   ·rw[Pp h] at hk;cases hk
  have hlt':k<ys.length:=by simp at hlt;omega
  obtain ⟨u,hu1,hu2⟩:=r1.get (i:=k) (x:=ev t ys[k]) (by simp[N0 hlt']);have e:u=v:=QZ (hu1.symm.trans hk);subst e;obtain ⟨s1,s2⟩:=hs ys[k] (O0 hlt');obtain ⟨c1,c2⟩:=eE hu2 s2;have:=c1.length;exact ⟨by simpa [s1] using this,cells_one c1 c2⟩
 generalize hV:parts.toList.map (λp=>a.eval p.2)=vals at*
 have hvl:vals.length=len:=by rw[<-hV];simp[hn]
 have he:=eS r1 λv hv=>(hsz v hv).1;have hfl:(vals.flatMap (·.cells.toList)).length=len*P.cellsOf e:=by
  have:=he.length;rw[this];simp[r3]
 have hfill:∀cells:Array Value,cells.size=len*P.cellsOf e->Instr.fill (λi=>some (i*P.cellsOf e,P.cellsOf e)) cells ((parts.map λ(i,x)=>(i,a.eval x)).toList)=some (vals.flatMap (·.cells.toList)).toArray:=by
  intro cells hc;have hz:(parts.map λ(i,x)=>(i,a.eval x)).toList=(List.range' 0 vals.length).zip vals:=by
   have:∀l:List (Nat × Operand),l.map (λ(i,x)=>(i,a.eval x))=(l.map (·.1)).zip (l.map λp=>a.eval p.2):=by
    intro l;induction l with
    |nil=>rfl
    |cons p l ih=>simp[ih]
   rw[Array.toList_map,this,r2,hV,hvl]
  rw[hz];have:=kV (sz:=P.cellsOf e) (cells:=cells) vals 0 [] cells af af (by rw[hc,hvl];simp) (λv hv=>(hsz v hv).1);simpa using this
 have hle':¬(len*P.cellsOf e>16777216):=by rw[<-r3];omega
 obtain ⟨G',T1,R1,V⟩:=Hw (n:=h.n) (m:=h.m) (eC w (.cells (vals.flatMap (·.cells.toList)).toArray e (0,0))) he (by
  intro u hu;obtain ⟨v,hv,hu'⟩:=Ql.1 hu;exact (hsz v hv).2 u hu')
 rw[show (ys.map (ev t)).length=len by simp[r3]] at V;refine ⟨.value (.slice (some ⟨w.heap.size,0,none⟩) len len),_,_,G',?_,.inl rfl,T1,R1,by rw[r3];exact V⟩;obtain ⟨i,hi1,hi2⟩:=OZ.1 hz;have hle2:¬(16777216<len*P.cellsOf e):=by omega
 have hmap:∀(zc:Array Value),((Array.range (len*P.cellsOf e)).map (zc[· %zc.size]!)).size=len*P.cellsOf e:=by intro zc;simp
 have hrz:(zeroValue e).run P w= .ok z w:=by simp[zeroValue,typeInfo,hi1,hi2]
 simp only[execOp,hop,Sem.run_bind,Instr.buildSlice,run_underlying hu,Result.andThen_ok,cH P w e hi,N7 hle2,Sem.run_pure,Sem.run_ite,hrz,hfill _ (hmap _)];by_cases h0:len*P.cellsOf e=0
 ·rw[Of h0];simp[newRow]
 ·rw[N7 h0];simp[newRow]
theorem rM{G:aQ}{w:World}{a:Act}(ht:cG G w t a){fs:Array Field}{place:Nat->Option (Nat × Nat)}(hplace:∀i f,fs[i]? =some f->place i=some (f.offset,P.cellsOf f.type)):
  ∀{l:List (Nat × Operand)}{ps:List (Nat × Nat × Opd)}{cs cs':List AV}{vs:List Value},partsOf P fs l=some ps->fI (ev t) ps cs=some cs'->aC G w cs vs->
   ∃vs',Instr.fill place vs.toArray (l.map λp=>(p.1,a.eval p.2))=some vs'.toArray/\aC G w cs' vs'
 |[],ps,cs,cs',vs,h1,h2,h3=>by
  simp[partsOf] at h1;subst h1;simp[fI] at h2;subst h2;exact ⟨vs,by simp[Instr.fill],h3⟩
 |(i,x)::l,ps,cs,cs',vs,h1,h2,h3=>by
  simp only[partsOf] at h1;split at h1
  ·cases h1
  ·rename_i f hf;split at h1
   ·rename_i b r hb hr;split at h1
    ·cases h1;simp only[fI] at h2;split at h2
     ·rename_i hc;obtain ⟨c1,c2,c3⟩:=hc;have rx:=aJ hb ht;obtain ⟨s1,s2⟩:=eE rx c3;have hsz:(a.eval x).cells.size=P.cellsOf f.type:=by have:=s1.length;simpa [c1] using this
      have hl:=h3.length;have hnew:aC G w (setAt cs f.offset (cellsOf (ev t b))) (vs.take f.offset++(a.eval x).cells.toList++vs.drop (f.offset+P.cellsOf f.type)):=by
       unfold setAt;rw[c1];exact ((h3.take _).append s1).append (h3.drop _)
      obtain ⟨vs',e1,e2⟩:=rM ht hplace hr h2 hnew;refine ⟨vs',?_,e2⟩;rw[Oy,rL (hplace i f hf) hsz aq];exact e1
     ·cases h2
    ·cases h1
   ·cases h1
theorem CD{ty:TypeId}{parts:Array (Nat × Operand)}{fs:Array Field}{z:Value}{zc cs:List AV}{ps:List (Nat × Nat × Opd)}(hop:o.op= .build ty parts)(hu:P.underlying ty=some (.struct fs))(hz:(P.info? ty).bind (·.zero)=some z)
  (hzc:dm P ty z=some (.agg zc)) (hps:partsOf P fs parts.toList=some ps) (hfs:fs.all (λf=>(P.info? f.type).isSome)=true) (hcs:fI (ev t) ps zc=some cs) {G:aQ} {w:World} {a:Act} (ht:cG G w t a):Plain P G w a o (.agg cs):=by
 have r:=eR (G:=G) (w:=w) hzc;simp only[aB] at r;obtain ⟨vs,rfl,hr⟩:=r;have hplaces:∀w:World,(fs.mapM λf=>do pure (f.offset,<-sizeOf f.type):Sem _).run P w= .ok (fs.map λf=>(f.offset,P.cellsOf f.type)) w:=by
  intro w;rw[Array.mapM_eq_mapM_toList];have:∀l:List Field,(∀f∈l,(P.info? f.type).isSome=true)->(l.mapM (λf=>Prod.mk f.offset <$> sizeOf f.type):Sem _).run P w= .ok (l.map λf=>(f.offset,P.cellsOf f.type)) w:=by
   intro l;induction l with
   |nil=>intro _;simp
   |cons f l ih=>intro hl;simp[cH P w _ (hl f af),ih λg hg=>hl g (by simp[hg])]
  simp[this fs.toList (λf hf=>by
   rw[Array.all_eq_true_iff_forall_mem] at hfs;exact hfs f (by simpa using hf))]
  apply Array.ext';simp
 obtain ⟨vs',e1,e2⟩:=rM (place:=λi=>(fs.map λf=>(f.offset,P.cellsOf f.type))[i]?) ht (by intro i f hf;simp[hf]) hps hcs hr;refine ⟨.agg vs'.toArray,?_,by simp only[aB];exact ⟨vs',rfl,e2⟩⟩;obtain ⟨i,hi1,hi2⟩:=OZ.1 hz;have hmap:(parts.map λ(i,x)=>(i,a.eval x)).toList=parts.toList.map λp=>(p.1,a.eval p.2):=by simp
 simp only[execOp,hop,Instr.build,Sem.run_bind,zeroValue,typeInfo,run_program,hi1,hi2,Result.andThen_ok,Sem.run_pure,run_underlying hu,hplaces,Value.cells,hmap,e1]
theorem rN{α:Type}(L:List α)(hL:0<L.length):∀(k j:Nat),j<k*L.length->((List.replicate k L).flatten)[j]? =L[j%L.length]?
 |0,j,h=>by simp at h
 |k+1,j,h=>by
  simp only[List.replicate_succ,List.flatten_cons];by_cases hj:j<L.length
  ·rw[OI hj,O9 hj]
  ·have hj':L.length<=j:=by omega
   rw[Px,Pl] at h;rw[PD hj',rN L hL k (j - L.length) aa,Nat.mod_eq_sub_mod (a:=j) hj']
theorem EM{ty e:TypeId}{zl zc:Operand}{yl yc:Opd}{i:TypeInfo}{z:Value}{b:AV}{kl kc:IntKind}{l c:Int}(hop:o.op= .makeSlice ty zl zc)(hu:P.underlying ty=some (.slice e))(hi:P.info? e=some i)(hz:i.zero=some z)(hzs:z.cells.size=i.size)(hpos:0<i.size)
  (hb:dm P e z=some b) (hyl:opd P 0 zl=some yl) (hyc:opd P 0 zc=some yc) (hl:ev t yl= .int kl l) (hc:ev t yc= .int kc c) (h0:0<=l) (hlc:l<=c) (hbytes:c*i.bytes<=140737488355328) (hc63:c<9223372036854775808) (hsh:shaped b=true):
  Loc P o t h (.sl i.size (List.replicate l.toNat b) (.own h.m)) {h with toks:=h.m::h.toks,m:=h.m+1} ⟨[],[],[h.m]⟩:=by
 refine ⟨_,_,kj h,λG w a ht R F=>?_⟩;have r1:=aJ hyl ht;have r2:=aJ hyc ht;rw[hl] at r1;rw[hc] at r2;simp only[aB] at r1 r2;have rb:=eR (G:=G) (w:=w) hb;obtain ⟨sc1,sc2⟩:=eE rb hsh;have hel:∀k:Nat,aK G w i.size (List.replicate k b) (List.replicate k z.cells.toList).flatten:=by
  intro k;induction k with
  |zero=>simp[aK]
  |succ k ih=>
   simp only[List.replicate_succ,List.flatten_cons,aK];exact ⟨z,_,rfl,hzs,rb,ih⟩
 have hone:∀k:Nat,∀u∈(List.replicate k z.cells.toList).flatten,One u:=by
  intro k u hu;obtain ⟨x,hx,hu'⟩:=Pk.1 hu;rw[(List.mem_replicate.1 hx).2] at hu';exact cells_one sc1 sc2 u hu'
 have hrow:∀k:Nat,(((Array.range (k*i.size)).map (z.cells[· %z.cells.size]!))).toList=(List.replicate k z.cells.toList).flatten:=by
  intro k;apply List.ext_getElem?;intro j;have hL:z.cells.toList.length=i.size:=by simp[hzs]
  rcases Ps j (k*i.size) with hj|hj
  ·rw[rN z.cells.toList aa k j (by rw[hL];exact hj),hL];have hm:j%i.size<z.cells.size:=by rw[hzs];exact QX _ hpos
   have hb2:z.cells[j%i.size]? =some z.cells[j%i.size]! :=by rw[getElem!_pos z.cells (j%i.size) hm];exact OR hm
   simp[hj,hzs,hb2]
  ·rw[Pp aq,Pp (by simp[hzs];omega)]
 have hrow2:((Array.range (c.toNat*i.size)).map (z.cells[· %z.cells.size]!))=((List.replicate l.toNat z.cells.toList).flatten++(List.replicate (c.toNat - l.toNat) z.cells.toList).flatten).toArray:=by
  apply Array.ext';rw[hrow];have:c.toNat=l.toNat+(c.toNat - l.toNat):=by omega
  rw[this,<-List.replicate_append_replicate,PG];simp
 have hlen:∀k:Nat,((List.replicate k z.cells.toList).flatten).length=k*i.size:=by intro k;simp[hzs]
 have hcle:(c.toNat:Int)*i.bytes<=140737488355328:=by rw[Int.toNat_of_nonneg aa];exact hbytes
 obtain ⟨G',T1,R1,V⟩:=qR (n:=h.n) (m:=h.m) (C:=c.toNat) (eC w (.cells ((List.replicate l.toNat z.cells.toList).flatten++(List.replicate (c.toNat - l.toNat) z.cells.toList).flatten).toArray e (0,0))) (hel l.toNat) R
  aq (by rw[hlen,hlen,<-Px];exact PB _ aa) (λj _=>by simp) (mU F (by simp[H.only])) (hone _)
 rw[List.length_replicate] at V;refine ⟨.value (.slice (some ⟨w.heap.size,0,none⟩) l.toNat c.toNat),_,_,G',?_,.inl rfl,T1,R1,V⟩;have hwl:IntKind.i64.wrap l=l:=by
  simp[IntKind.wrap,IntKind.bits,IntKind.signed];omega
 have hwc:IntKind.i64.wrap c=c:=by
  simp[IntKind.wrap,IntKind.bits,IntKind.signed];omega
 have hcc:i.bytes*c<=140737488355328:=by rw[Int.mul_comm];exact hbytes
 have e1:¬(c<0):=by omega
 have e2:¬(281474976710656<(i.bytes:Int)*c):=by omega
 have e3:¬(l<0):=by omega
 have e4:¬(c<l):=by omega
 have hrz:(zeroValue e).run P w= .ok z w:=by simp[zeroValue,typeInfo,hi,hz]
 have hsize:(sizeOf e).run P w= .ok i.size w:=by simp[sizeOf,typeInfo,hi]
 simp only[execOp,hop,Instr.makeSlice,Sem.run_bind,run_underlying hu,Result.andThen_ok,r1,r2,asInt,asIntOf,Sem.run_pure,typeInfo,run_program,hi,hwl,hwc];simp[e1,e2,e3,e4,hsize,hrz,newRow];split
 ·rename_i hz0;have hc0:c.toNat=0:=by
   rcases Nat.mul_eq_zero.1 hz0 with h|h
   ·exact h
   ·omega
  have hl0:l.toNat=0:=by omega
  have hr0:Array.range 0= #[]:=rfl;simp[hc0,hl0,hr0]
 ·have hrow3:=hrow2;simp only[hrow3]
theorem l6{z:Value}{sz:Nat}(hz:z.cells.size=sz)(hpos:0<sz)(k:Nat):(Builtin.zeroCells z.cells k).toList=(List.replicate k z.cells.toList).flatten:=by
 subst hz;unfold Builtin.zeroCells;apply List.ext_getElem?;intro j;have hL:z.cells.toList.length=z.cells.size:=by simp
 rcases Ps j (k*z.cells.size) with hj|hj
 ·rw[rN z.cells.toList aa k j (by rw[hL];exact hj),hL];have hm:j%z.cells.size<z.cells.size:=QX _ hpos;have hb2:z.cells[j%z.cells.size]? =some z.cells[j%z.cells.size]! :=by rw[getElem!_pos z.cells (j%z.cells.size) hm];exact OR hm
  simp[hj,hb2]
 ·rw[Pp aq,Pp aq]
theorem wA{c:Call}{zs zx:Operand}{ys yx:Opd}{T U e:TypeId}{i:TypeInfo}{z:Value}{b:AV}{s:Nat}{xs:List AV}{cp:Cap}{n:Int}{h':H}(hop:o.op= .call c)(hc:c.callee= .builtin .append)(ha:c.args.toList=[zs,zx])(hta:c.argTypes.toList=[T,U])
  (hT:P.underlying T=some (.slice e)) (hU:P.underlying U=some (.int .i64)) (hi:P.info? e=some i) (hz:i.zero=some z) (hzs:z.cells.size=i.size) (hb0:dm P e z=some b) (hsz:0<i.size)
  (hys:opd P T zs=some ys) (hyx:opd P U zx=some yx) (hs:ev t ys= .sl s xs cp) (hx:ev t yx= .int .i64 n) (h0:0<=n) (hsh:shaped b=true) (hby:0<i.bytes)
  (hb:(xs.length+n.toNat)*i.bytes<=140737488355328) (hlen:xs.length+n.toNat<4611686018427387904)
  (hcap:((∃k,cp= .exact k/\k=xs.length)/\(s=i.size\/xs=[])/\h'= {h with toks:=h.m::h.toks,m:=h.m+1}/\en=⟨[],[],[h.m]⟩)\/
   ∃tk,cp= .own tk/\s=i.size/\tk∈h.toks/\h'= {h with toks:=h.m::h.toks.filter (· ≠tk),m:=h.m+1}/\en=⟨[],[],[tk,h.m]⟩):
  Loc P o t h (.sl i.size (xs++List.replicate n.toNat b) (.own h.m)) h' en:=by
 have ha':c.args= #[zs,zx]:=by rw[<-Array.toArray_toList (xs:=c.args),ha]
 have hta':c.argTypes= #[T,U]:=by rw[<-Array.toArray_toList (xs:=c.argTypes),hta]
 have key:∀(toks:List Nat) G w a,cG G w t a->bf G (.only aA toks h.n h.m) w->¬G.tdom h.m->(s=i.size\/xs=[])->((cp= .exact xs.length/\toks=[])\/∃tk,cp= .own tk/\toks=[tk]/\s=i.size)->
   ∃nx v w' G',(execOp a.eval o).run P w= .ok nx w'/\(nx= .value v\/nx= .skip/\v=undef)/\Trans G w (.only aA toks h.n h.m) G' w' (.only aA [h.m] h.n (h.m+1))/\bf G' (.only aA [h.m] h.n (h.m+1)) w'/\aB G' w' (.sl i.size (xs++List.replicate n.toNat b) (.own h.m)) v:=by
  intro toks G w a ht R hm hsx hcc;have r1:=aJ hys ht;have r2:=aJ hyx ht;rw[hs] at r1;rw[hx] at r2;simp only[aB] at r2;have rb:=eR (G:=G) (w:=w) hb0;obtain ⟨sc1,sc2⟩:=eE rb hsh;have hel:∀k:Nat,aK G w i.size (List.replicate k b) (List.replicate k z.cells.toList).flatten:=by
   intro k;induction k with
   |zero=>simp[aK]
   |succ k ih=>
    simp only[List.replicate_succ,List.flatten_cons,aK];exact ⟨z,_,rfl,hzs,rb,ih⟩
  have hone:∀u∈(List.replicate n.toNat z.cells.toList).flatten,One u:=by
   intro u hu;obtain ⟨x,hx,hu'⟩:=Pk.1 hu;rw[(List.mem_replicate.1 hx).2] at hu';exact cells_one sc1 sc2 u hu'
  have r1':aB G w (.sl i.size xs cp) (a.eval zs):=by
   rcases hsx with rfl|rfl
   ·exact r1
   ·simp only[aB] at r1 |-;rcases r1 with r1|⟨B,off,C,vs,q1,q2,q3,q4,q5,q6⟩
    ·exact .inl r1
    ·have hvs:vs=[]:=by simpa using q3
     subst hvs;refine .inr ⟨B,off,C,[],q1,q2,by simp,by simp[aK],Imm.nil,?_⟩;rcases hcc with ⟨rfl,_⟩|⟨tk,rfl,_,rfl⟩
     ·exact q6
     ·exact q6
  have hnn:(n.toNat:Int)=n:=Int.toNat_of_nonneg h0;have hlr:(List.replicate n.toNat b).length=n.toNat:=by simp
  have hzf:=l6 hzs hsz n.toNat;obtain ⟨v',w',G',e1,T1,R1,V⟩:=qA (P:=P) (t:=T) (u:=U) (ty:=o.type) (e:=e) (x:= .int .i64 n) (ys:=List.replicate n.toNat b) (news:=(List.replicate n.toNat z.cells.toList).flatten)
   (λbase sLen sCap w' q1 q2=>by
    rw[hlr] at q1 |-;rw[<-hnn];refine pJ hT hU hi hz hzs hsz aa (Oz (PB _ aa) hb) q1 ?_;rw[hzf];exact q2)
   (λbase sLen sCap vs q1 q2 q3 q4 q5=>by
    rw[hlr] at q2 q4 q5 |-;have hgr:=oF (ty:=o.type) hT hU hi hz hzs hsz q1 q2 q3 q4 q5;rw[hnn,hzf] at hgr;obtain ⟨w9,C9,rest9,g1,g2,g3,g4⟩:=hgr;exact ⟨w9,C9,rest9,g1,g2,g3.1,g4⟩)
   (hel n.toNat) hone r1' (by rw[hlr];exact hb) (by rw[hlr];exact hlen) R hm (hcc.imp (λz=>z) λ⟨tk,a,b,_⟩=>⟨tk,a,b⟩)
  refine ⟨.value v',v',w',G',?_,.inl rfl,T1,R1,V⟩;simp[execOp,hop,resolve,hc,ha',hta',invoke,builtin,r2,e1]
 rcases hcap with ⟨⟨k,rfl,rfl⟩,hsx,rfl,rfl⟩|⟨tk,rfl,hsx,htk,rfl,rfl⟩
 ·exact ⟨_,_,kj h,λG w a ht R F=>key [] G w a ht R (mU F (by simp[H.only])) hsx (.inl ⟨rfl,rfl⟩)⟩
 ·exact ⟨_,_,qB h htk,λG w a ht R F=>key [tk] G w a ht R (mU F (by simp[H.only])) (.inl hsx) (.inr ⟨tk,rfl,rfl,hsx⟩)⟩
theorem rP{src dst:TypeId}{z:Operand}{y:Opd}{k0 k k':IntKind}{n:Int}(hop:o.op= .convert src dst z)(hs:P.underlying src=some (.int k0))(hd:P.underlying dst=some (.int k))(hy:opd P src z=some y)
  (hx:ev t y= .int k' n) {G:aQ} {w:World} {a:Act} (ht:cG G w t a):Plain P G w a o (.int k (k.wrap n)):=by
 have r:=aJ hy ht;rw[hx] at r;simp only[aB] at r;refine ⟨.int k (k.wrap n),?_,by simp[aB]⟩;simp[execOp,hop,r,convert,run_underlying hs,run_underlying hd,Conv.intToInt]
theorem rQ{src dst:TypeId}{z:Operand}{y:Opd}{l:List UInt8}(hop:o.op= .convert src dst z)(hs:P.underlying src=some .string)(hd:P.underlying dst=some .string)(hy:opd P src z=some y)
  (hx:ev t y= .str l) {G:aQ} {w:World} {a:Act} (ht:cG G w t a):Plain P G w a o (.str l):=by
 have r:=aJ hy ht;rw[hx] at r;simp only[aB] at r;refine ⟨.string ⟨l.toArray⟩,?_,by simp[aB]⟩;simp[execOp,hop,r,convert,run_underlying hs,run_underlying hd]
theorem wB{G:aQ}{w:World}{l:List AV}{vs:List Value}(h:aC G w l vs):∀k,aC G w (List.replicate k l).flatten (List.replicate k vs).flatten
 |0=>by simp[aC]
 |k+1=>by
  rw[List.replicate_succ,List.replicate_succ,List.flatten_cons,List.flatten_cons];exact aC.append h (wB h k)
theorem HB{c:Call}{z:Operand}{y:Opd}{T e:TypeId}{i:TypeInfo}{zv:Value}{b:AV}{id off len:Nat}{cap:Option Nat}{cs:List AV}(hop:o.op= .call c)(hc:c.callee= .builtin .clear)(ha:c.args.toList=[z])(hta:c.argTypes.toList=[T])
  (hT:P.underlying T=some (.slice e)) (hi:P.info? e=some i) (hz:i.zero=some zv) (hzs:zv.cells.size=i.size) (hb0:dm P e zv=some b) (hsz:0<i.size)
  (hy:opd P T z=some y) (hx:ev t y= .tsl i.size id off len cap) (hlen:¬len=0) (ho:h.objs id=some (.cells cs)) (hlz:(cellsOf b).length=i.size) (hle:off+len*i.size<=cs.length) (hall:(cellsOf b).all cM=true):
  Loc P o t h .any {h with objs:=upd h.objs id (some (.cells (setAt cs off (List.replicate len (cellsOf b)).flatten)))} ⟨[],[id],[]⟩:=by
 have ha':c.args= #[z]:=by rw[<-Array.toArray_toList (xs:=c.args),ha]
 have hta':c.argTypes= #[T]:=by rw[<-Array.toArray_toList (xs:=c.argTypes),hta]
 refine ⟨_,_,fj h ho,λG w a ht R F=>?_⟩;have r1:=aJ hy ht;rw[hx] at r1;simp only[aB] at r1;obtain ⟨-,⟨C,c0,T0,fr,r1,-⟩|⟨h0,-⟩⟩:=r1;rotate_left
 ·exact absurd h0 hlen
 have r:aB G w b zv:=eR hb0;have rc:aC G w (cellsOf b) zv.cells.toList:=by
  by_cases hc:∃cs,b= .agg cs
  ·exact dU r (.inr hc)
  ·have e:cellsOf b=[b]:=by cases b<;>first|rfl|exact absurd ⟨_,rfl⟩ hc
   rw[e] at hall;exact dU r (.inl (by simpa using hall))
 have rr:=wB rc len;have hll:(List.replicate len (cellsOf b)).flatten.length=len*i.size:=by simp[List.length_flatten,hlz]
 obtain ⟨w',s1,T1,R1⟩:=tH (P:=P) (off:=off) R rr (λv hv=>by
  obtain ⟨l,hl,hvl⟩:=Pk.1 hv;rw[(List.mem_replicate.1 hl).2] at hvl;exact cells_one rc hall v hvl) (by rw[hll];exact hle)
 refine ⟨.value (.tuple #[]),_,w',G,?_,.inl rfl,T1,R1,by simp[aB]⟩;obtain ⟨k,rfl⟩:∃k,len=k+1:=⟨len - 1,aa⟩;have hzf:=l6 hzs hsz (k+1);simp[execOp,hop,resolve,hc,ha',hta',invoke,builtin,Builtin.clear_,run_underlying hT,r1,zeroValue,typeInfo,hi,hz,hzf,s1]
end
end Go.Av
end
section
namespace Go.Av
open Go.MapKept
section
variable{P:Program}{G:aQ}{w:World}{t:Tm}{o:Oper}{h:H}{a:Act}
def txt(k:List UInt8):Value:= .string ⟨k.toArray⟩
theorem rR(a b:List UInt8):Instr.sameNow .string (txt a) (txt b)=some (decide (a=b)):=by
 have:((⟨a.toArray⟩:ByteArray) == ⟨b.toArray⟩)=decide (a=b):=by
  rw[QL,bytes_beq];simp
 simp only[txt,Instr.sameNow,this]
theorem oG{key:List UInt8}:∀{es:List (AV × AV)}{en:List MapEntry}{r:Option (Nat × AV)},lW key es=some r->Entries G w es en->
  (r=none->∀i,Instr.findNow .string (txt key) en i=some none)/\(∀p,r=some p->∃e,en[p.1]? =some e/\(∀i,Instr.findNow .string (txt key) en i=some (some (i+p.1,e.val)))/\aB G w p.2 e.val/\e.key=txt key)
 |[],en,r,hm,he=>by
  simp only[Entries] at he;subst he;simp only[lW,Oi] at hm;subst hm;exact ⟨λ_ i=>rfl,λp hp=>by cases hp⟩
 |(a,v)::es,en,r,hm,he=>by
  obtain ⟨e,rst,rfl,h1,h2,h3⟩:=he;cases a<;>simp only[lW] at hm<;>try (cases hm;done)
  rename_i a;simp only[aB] at h1;have hk:e.key=txt a:=h1;split at hm
  ·rename_i ha;subst ha;simp only[Oi] at hm;subst hm;refine ⟨λh=>(by cases h),λp hp=>?_⟩;cases hp;exact ⟨e,rfl,λi=>by simp[Instr.findNow,hk,rR],h2,hk⟩
  ·rename_i ha;simp only[N8] at hm;obtain ⟨r',hr',rfl⟩:=hm;obtain ⟨g1,g2⟩:=oG hr' h3;have hf:decide (key=a)=false:=N1 λh=>ha h.symm;refine ⟨λhn i=>?_,λp hp=>?_⟩
   ·cases r' with
    |none=>simp[Instr.findNow,hk,rR,hf,g1 rfl]
    |some q=>cases hn
   ·cases r' with
    |none=>cases hp
    |some q=>
     simp only[Option.map_some,Oi] at hp;subst hp;obtain ⟨e',q1,q2,q3,q4⟩:=g2 q rfl;exact ⟨e',by simpa using q1,λi=>by simp[Instr.findNow,hk,rR,hf,q2];omega,q3,q4⟩
theorem Entries.length:∀{es:List (AV × AV)}{en:List MapEntry},Entries G w es en->en.length=es.length
 |[],en,h=>by simp only[Entries] at h;simp[h]
 |(k,v)::es,en,h=>by
  obtain ⟨e,r,rfl,-,-,h3⟩:=h;simp[Entries.length h3]
theorem Entries.append:∀{es fs:List (AV × AV)}{en fn:List MapEntry},Entries G w es en->Entries G w fs fn->Entries G w (es++fs) (en++fn)
 |[],fs,en,fn,h,h'=>by simp only[Entries] at h;subst h;simpa using h'
 |(k,v)::es,fs,en,fn,h,h'=>by
  obtain ⟨e,r,rfl,h1,h2,h3⟩:=h;exact ⟨e,r++fn,rfl,h1,h2,Entries.append h3 h'⟩
theorem Entries.set{k v:AV}{e':MapEntry}(hk:aB G w k e'.key)(hv:aB G w v e'.val):∀{es:List (AV × AV)}{en:List MapEntry}(j:Nat),Entries G w es en->Entries G w (es.set j (k,v)) (en.set j e')
 |[],en,j,h=>by simp only[Entries] at h;subst h;cases j<;>simp[Entries]
 |(k0,v0)::es,en,0,h=>by
  obtain ⟨e,r,rfl,h1,h2,h3⟩:=h;exact ⟨e',r,rfl,hk,hv,h3⟩
 |(k0,v0)::es,en,j+1,h=>by
  obtain ⟨e,r,rfl,h1,h2,h3⟩:=h;exact ⟨e,r.set j e',rfl,h1,h2,Entries.set hk hv j h3⟩
theorem Entries.erase:∀{es:List (AV × AV)}{en:List MapEntry}(j:Nat),Entries G w es en->Entries G w (es.eraseIdx j) (en.eraseIdx j)
 |[],en,j,h=>by simp only[Entries] at h;subst h;simp[Entries]
 |(k0,v0)::es,en,0,h=>by
  obtain ⟨e,r,rfl,h1,h2,h3⟩:=h;exact h3
 |(k0,v0)::es,en,j+1,h=>by
  obtain ⟨e,r,rfl,h1,h2,h3⟩:=h;exact ⟨e,r.eraseIdx j,rfl,h1,h2,Entries.erase j h3⟩
theorem kW{id n m:Nat}{es:List (AV × AV)}(R:bf G (.only (upd aA id (some (.map es))) [] n m) w):∃en ck,w.heap[G.ι id]? =some (.map en ck)/\Entries G w es en.toList:=by
 obtain ⟨en,ck,h1,h2⟩:=(R.obj id (.map es) (by simp[H.only,upd])).2.2.2;exact ⟨en,ck,h1,h2⟩
theorem jC{id n m:Nat}{es es':List (AV × AV)}{en en':Array MapEntry}{ck ck':Nat}(R:bf G (.only (upd aA id (some (.map es))) [] n m) w)(hg:w.heap[G.ι id]? =some (.map en ck))(he:Entries G w es' en'.toList):
  Trans G w (.only (upd aA id (some (.map es))) [] n m) G {w with heap:=w.heap.setIfInBounds (G.ι id) (.map en' ck')} (.only (upd aA id (some (.map es'))) [] n m)/\bf G (.only (upd aA id (some (.map es'))) [] n m) {w with heap:=w.heap.setIfInBounds (G.ι id) (.map en' ck')}:=by
 have hobj:∀{c:List (AV × AV)} {j o},(H.only (upd aA id (some (.map c))) [] n m).objs j=some o->j=id/\o= .map c:=by
  intro c j o ho;simp only[H.only,upd,aA] at ho;split at ho
  ·cases ho;exact ⟨‹_›,rfl⟩
  ·cases ho
 have hme:∀{c:List (AV × AV)},(H.only (upd aA id (some (.map c))) [] n m).objs id=some (.map c):=by intro c;simp[H.only,upd]
 obtain ⟨d1,d2,d3,-⟩:=R.obj id _ hme;obtain ⟨hs1,hs2⟩:=heap_set (o':=Go.Obj.map en' ck') hg;have T1:Trans G w (.only (upd aA id (some (.map es))) [] n m) G {w with heap:=w.heap.setIfInBounds (G.ι id) (.map en' ck')} (.only (upd aA id (some (.map es'))) [] n m):=by
  constructor
  ·exact λ_ x=>x
  ·exact λ_=> .inl
  ·exact λ_ _=>rfl
  ·exact λ_ x=>x
  ·exact λ_=> .inl
  ·exact λ_ _=>rfl
  ·exact NY _
  ·exact NY _
  ·simp
  ·rfl
  ·rfl
  ·intro B hB;by_cases hBi:B=G.ι id
   ·subst hBi;rw[hg];exact ⟨_,_,hs1⟩
   ·show bJ _ (w.heap.setIfInBounds (G.ι id) (.map en' ck'))[B]?;rw[hs2 B hBi];exact bJ.refl _
  ·intro B hB hO _;exact hs2 B λe=>hO ⟨id,_,hme,e.symm⟩
  ·exact λ_ _ _=>Qp
  ·exact λ_ _ _ _=>rfl
  ·rintro B hB ⟨t,ht,_⟩;simp[H.only] at ht
  ·rintro B hB ⟨j,o,ho,e⟩;obtain ⟨rfl,rfl⟩:=hobj ho;exact ⟨_,_,hme,e⟩
  ·rintro B hB ⟨t,ht,_⟩;simp[H.only] at ht
  ·intro j o ho;obtain ⟨rfl,rfl⟩:=hobj ho;exact .inl ⟨_,hme⟩
  ·intro t ht;simp[H.only] at ht
 refine ⟨T1,?_,?_,?_,?_⟩
 ·intro j o ho;obtain ⟨rfl,rfl⟩:=hobj ho;exact ⟨d1,d2,by simpa using d3,en',ck',hs1,Entries.mono R T1 _ _ he⟩
 ·intro j j' o o' ho ho' _;rw[(hobj ho).1,(hobj ho').1]
 ·intro t ht;simp[H.only] at ht
 ·intro t ht;simp[H.only] at ht
theorem HC{w':World}{n m:Nat}(hp:dy w w' (.map #[] 0))(hf:¬G.dom n):
  ∃G',Trans G w (.only aA [] n m) G' w' (.only (upd aA n (some (.map []))) [] (n+1) m)/\bf G' (.only (upd aA n (some (.map []))) [] (n+1) m) w'/\aB G' w' (.mp n) (.map (some w.heap.size)):=by
 let G':aQ:={G with dom:=λid=>G.dom id\/id=n,ι:=upd G.ι n w.heap.size,own:=λB=>if B=w.heap.size then True else G.own B}
 have hi:G'.ι n=w.heap.size:=by simp[G',upd]
 have hO:∀B,¬(H.only aA [] n m).O G B:=λB ⟨id,o,ho,_⟩=>by simp[H.only,aA] at ho
 have hT:∀B,¬(H.only aA [] n m).T G B:=λB ⟨t,ht,_⟩=>by simp[H.only] at ht
 have hobj:∀{id o},(H.only (upd aA n (some (.map []))) [] (n+1) m).objs id=some o->id=n/\o= .map []:=by
  intro id o ho;simp only[H.only,upd,aA] at ho;split at ho
  ·cases ho;exact ⟨‹_›,rfl⟩
  ·cases ho
 have T:Trans G w (.only aA [] n m) G' w' (.only (upd aA n (some (.map []))) [] (n+1) m):=by
  refine jb hp hO (λB ht=>absurd ht (hT B)) (λ_=> .inl) ?_ ?_ (λ_ x=>x) (λ_=> .inl) (λ_ _=>rfl) (by simp[H.only]) (by simp[H.only]) ?_ (λ_ _=>rfl) ?_ ?_ ?_ ?_
  ·rintro id (x|rfl)
   ·exact .inl x
   ·exact .inr ⟨by simp[H.only],by simp[H.only]⟩
  ·intro id hd;simp only[G',upd];split
   ·rename_i e;subst e;exact absurd hd hf
   ·rfl
  ·intro B hB;simp only[G'];rw[N7 aa]
  ·rintro B hB ⟨id,o,ho,e⟩;obtain ⟨rfl,rfl⟩:=hobj ho;rw[hi] at e;omega
  ·rintro B hB ⟨t,ht,_⟩;simp[H.only] at ht
  ·intro j o ho;obtain ⟨rfl,rfl⟩:=hobj ho;exact .inr ⟨by simp[H.only],by simp[H.only]⟩
  ·intro t ht;simp[H.only] at ht
 refine ⟨G',T,⟨?_,?_,?_,?_⟩,?_⟩
 ·intro id o ho;obtain ⟨rfl,rfl⟩:=hobj ho;refine ⟨.inr rfl,by rw[hi];simp[G'],by rw[hi,hp.size];omega,?_⟩;rw[hi,hp.new];exact ⟨#[],0,rfl,rfl⟩
 ·intro id id' o o' ho ho' _;rw[(hobj ho).1,(hobj ho').1]
 ·intro t ht;simp[H.only] at ht
 ·intro t ht;simp[H.only] at ht
 ·simp only[aB];exact ⟨.inr rfl,by rw[hi]⟩
theorem tK{T kt et:TypeId}{r:Option Operand}(hop:o.op= .makeMap T r)(hT:P.underlying T=some (.map kt et))(hr:r=none\/∃k n,r=some (.const (.int k n))):
  Loc P o t h (.mp h.n) {h with objs:=upd h.objs h.n (some (.map [])),n:=h.n+1} ⟨[],[h.n],[]⟩:=by
 refine ⟨_,_,gS h _,λG w a ht R F=>?_⟩;obtain ⟨G',T1,R1,V⟩:=HC (m:=h.m) (eC w (.map #[] 0)) (kT F (by simp[H.only]));refine ⟨.value (.map (some w.heap.size)),_,_,G',?_,.inl rfl,T1,R1,V⟩;rcases hr with rfl|⟨k,n,rfl⟩
 ·simp[execOp,hop,Instr.makeMap]
 ·simp[execOp,hop,Instr.makeMap,run_underlying hT,asInt,asIntOf,Act.eval]
theorem CE{T kt et:TypeId}{z1 z2:Operand}{y1 y2:Opd}{ok:Bool}{z:Value}{zz:AV}{id:Nat}{k:List UInt8}{es:List (AV × AV)}{r:Option (Nat × AV)}(hop:o.op= .lookup T z1 z2 ok)(hT:P.underlying T=some (.map kt et))(hk:P.underlying kt=some .string)(hz:(P.info? et).bind (·.zero)=some z)(hzz:dm P et z=some zz)
  (h1:opd P T z1=some y1) (h2:opd P kt z2=some y2) (hx:ev t y1= .mp id) (hy:ev t y2= .str k) (ho:h.objs id=some (.map es)) (hm:lW k es=some r):
  Loc P o t h (dS zz ok r) h ⟨[id],[],[]⟩:=by
 refine ⟨_,_,ez h ho,λG w a ht R F=>?_⟩;have r1:=aJ h1 ht;have r2:=aJ h2 ht;rw[hx] at r1;rw[hy] at r2;simp only[aB] at r1 r2;have r2:a.eval z2=txt k:=r2;obtain ⟨en,ck,hg,he⟩:=kW R;obtain ⟨f1,f2⟩:=oG hm he;obtain ⟨i,hi,hzi⟩:=OZ.1 hz;have hzr:(zeroValue et).run P w= .ok z w:=by simp[zeroValue,typeInfo,hi,hzi]
 have hck:=run_checkKey (w:=w) hk (k:=txt k) trivial en.isEmpty 9999;have rz:aB G w zz z:=eR hzz;cases r with
 |none=>
  have hf:=run_findKey (w:=w) hk (f1 rfl 0);refine ⟨.value (if ok then .tuple #[z,.bool false] else z),_,w,G,?_,.inl rfl,Trans.refl _ _ _,R,?_⟩
  ·cases ok<;>simp[execOp,hop,Instr.lookup,r1,r2,run_underlying hT,Pq hg,hck,hf,hzr]
  ·cases ok
   ·simpa [dS] using rz
   ·simp only[dS,N9,aB];exact ⟨[z,.bool false],rfl,aC.cons rz (aC.cons (by simp[aB]) aC.nil)⟩
 |some p=>
  obtain ⟨e,g1,g2,g3,g4⟩:=f2 p rfl;have hf:=run_findKey (w:=w) hk (g2 0);refine ⟨.value (if ok then .tuple #[e.val,.bool true] else e.val),_,w,G,?_,.inl rfl,Trans.refl _ _ _,R,?_⟩
  ·cases ok<;>simp[execOp,hop,Instr.lookup,r1,r2,run_underlying hT,Pq hg,hck,hf]
  ·cases ok
   ·simpa [dS] using g3
   ·simp only[dS,N9,aB];exact ⟨[e.val,.bool true],rfl,aC.cons g3 (aC.cons (by simp[aB]) aC.nil)⟩
theorem uT{T kt et:TypeId}{z1 z2:Operand}{y1 y2:Opd}{ok:Bool}{z:Value}{zz:AV}{k:List UInt8}(hop:o.op= .lookup T z1 z2 ok)(hT:P.underlying T=some (.map kt et))(hk:P.underlying kt=some .string)(hz:(P.info? et).bind (·.zero)=some z)(hzz:dm P et z=some zz)
  (h1:opd P T z1=some y1) (h2:opd P kt z2=some y2) (ht:cG G w t a) (hx:ev t y1= .sc (.map none)) (hy:ev t y2= .str k):Plain P G w a o (dS zz ok none):=by
 have r1:=aJ h1 ht;have r2:=aJ h2 ht;rw[hx] at r1;rw[hy] at r2;simp only[aB] at r1 r2;have r2:a.eval z2=txt k:=r2;obtain ⟨i,hi,hzi⟩:=OZ.1 hz;have hzr:(zeroValue et).run P w= .ok z w:=by simp[zeroValue,typeInfo,hi,hzi]
 have hck:=run_checkKey (w:=w) hk (k:=txt k) trivial true 9999;have hf:=run_findKey (w:=w) (l:=[]) (k:=txt k) hk (a:=none) rfl;have rz:aB G w zz z:=eR hzz;refine ⟨if ok then .tuple #[z,.bool false] else z,?_,?_⟩
 ·cases ok<;>simp[execOp,hop,Instr.lookup,r1,r2,run_underlying hT,hck,hf,hzr]
 ·cases ok
  ·simpa [dS] using rz
  ·simp only[dS,N9,aB];exact ⟨[z,.bool false],rfl,aC.cons rz (aC.cons (by simp[aB]) aC.nil)⟩
theorem toList_modify(en:Array MapEntry)(j:Nat)(f:MapEntry->MapEntry){e:MapEntry}(h:en.toList[j]? =some e):(en.modify j f).toList=en.toList.set j (f e):=by
 apply List.ext_getElem?;intro i;rw[List.getElem?_set,Array.getElem?_toList,PV];by_cases hij:j=i
 ·subst hij;have h':en[j]? =some e:=by simpa using h
  obtain ⟨hlt,he⟩:=OX.1 h';simp[h',hlt,he]
 ·simp[hij]
theorem wC{T kt et:TypeId}{z1 z2 z3:Operand}{y1 y2 y3:Opd}{id:Nat}{k:List UInt8}{es:List (AV × AV)}{r:Option (Nat × AV)}(hop:o.op= .mapUpdate T z1 z2 z3\/o.op= .insert T z1 z2 z3)(hT:P.underlying T=some (.map kt et))(hk:P.underlying kt=some .string)
  (h1:opd P T z1=some y1) (h2:opd P kt z2=some y2) (h3:opd P et z3=some y3) (hx:ev t y1= .mp id) (hy:ev t y2= .str k) (ho:h.objs id=some (.map es)) (hm:lW k es=some r):
  Loc P o t h .any {h with objs:=upd h.objs id (some (.map (EE es k (ev t y3) r)))} ⟨[],[id],[]⟩:=by
 refine ⟨_,_,fj h ho,λG w a ht R F=>?_⟩;have r1:=aJ h1 ht;have r2:=aJ h2 ht;have r3:=aJ h3 ht;rw[hx] at r1;rw[hy] at r2;have r2':=r2;simp only[aB] at r1 r2;have r2:a.eval z2=txt k:=r2;obtain ⟨en,ck,hg,he⟩:=kW R;obtain ⟨f1,f2⟩:=oG hm he;have hck:=run_checkKey (w:=w) hk (k:=txt k) trivial false 9999;have hop':(execOp a.eval o).run P w=((Instr.mapUpdate T (a.eval z1) (a.eval z2) (a.eval z3)).run P w).andThen λ_ w'=> .ok .skip w':=by
  rcases hop with hop|hop<;>simp[execOp,hop]
 cases r with
 |none=>
  have hf:=run_findKey (w:=w) hk (f1 rfl 0);obtain ⟨T1,R1⟩:=jC (ck':=ck+1) (en':=en.push {key:=txt k,val:=a.eval z3,born:=ck}) R hg (es':=es++[(.str k,ev t y3)]) (by
   rw[Array.toList_push];exact Entries.append he ⟨_,[],rfl,by simp[aB,txt],r3,rfl⟩)
  refine ⟨.skip,undef,_,G,?_,.inr ⟨rfl,rfl⟩,T1,R1,by simp[aB]⟩;rw[hop'];simp[Instr.mapUpdate,r1,r2,run_underlying hT,Pq hg,hck,hf,PY _ hg]
 |some p=>
  obtain ⟨e,g1,g2,g3,g4⟩:=f2 p rfl;have hf:=run_findKey (w:=w) hk (g2 0);have hst:=run_keyThatStays (P:=P) (w:=w) (d:= .string) (k:=txt k) trivial;have g1':en[p.1]? =some e:=by simpa using g1
  obtain ⟨T1,R1⟩:=jC (ck':=ck) (en':=en.modify p.1 λe=>{e with key:=txt k,val:=a.eval z3}) R hg (es':=es.set p.1 (.str k,ev t y3)) (by
   rw[toList_modify _ _ _ g1];exact Entries.set (by simp[aB,txt]) r3 _ he)
  refine ⟨.skip,undef,_,G,?_,.inr ⟨rfl,rfl⟩,T1,R1,by simp[aB]⟩;rw[hop'];simp[Instr.mapUpdate,r1,r2,run_underlying hT,Pq hg,hck,hf,PY _ hg,g1',g4,hst]
theorem EN{c:Call}{T kt et:TypeId}{z1 z2:Operand}{ts:List TypeId}{y1 y2:Opd}{id:Nat}{k:List UInt8}{es:List (AV × AV)}{r:Option (Nat × AV)}(hop:o.op= .call c)(hc:c.callee= .builtin .delete)(ha:c.args.toList=[z1,z2])(hta:c.argTypes.toList=T::ts)(hT:P.underlying T=some (.map kt et))(hk:P.underlying kt=some .string)
  (h1:opd P T z1=some y1) (h2:opd P kt z2=some y2) (hx:ev t y1= .mp id) (hy:ev t y2= .str k) (ho:h.objs id=some (.map es)) (hm:lW k es=some r):
  Loc P o t h .any {h with objs:=upd h.objs id (some (.map (rH es r)))} ⟨[],[id],[]⟩:=by
 have ha':c.args= #[z1,z2]:=by rw[<-Array.toArray_toList (xs:=c.args),ha]
 have hta':c.argTypes=(T::ts).toArray:=by rw[<-Array.toArray_toList (xs:=c.argTypes),hta]
 refine ⟨_,_,fj h ho,λG w a ht R F=>?_⟩;have r1:=aJ h1 ht;have r2:=aJ h2 ht;rw[hx] at r1;rw[hy] at r2;simp only[aB] at r1 r2;have r2:a.eval z2=txt k:=r2;obtain ⟨en,ck,hg,he⟩:=kW R;obtain ⟨f1,f2⟩:=oG hm he;have hck:=run_checkKey (w:=w) hk (k:=txt k) trivial en.isEmpty 9999;cases r with
 |none=>
  have hf:=run_findKey (w:=w) hk (f1 rfl 0);obtain ⟨T1,R1⟩:=jC (ck':=ck) (en':=en) R hg (es':=es) he;refine ⟨.value (.tuple #[]),_,_,G,?_,.inl rfl,T1,R1,by simp[aB]⟩;simp[execOp,hop,resolve,hc,ha',hta',invoke,builtin,Builtin.delete_,r1,r2,run_underlying hT,Pq hg,hck,hf,PY _ hg]
 |some p=>
  obtain ⟨e,g1,g2,g3,g4⟩:=f2 p rfl;have hf:=run_findKey (w:=w) hk (g2 0);have hlt:p.1<en.size:=by
   have:=(O4.1 g1).1;simpa using this
  obtain ⟨T1,R1⟩:=jC (ck':=ck) (en':=en.eraseIdxIfInBounds p.1) R hg (es':=es.eraseIdx p.1) (by
   have:(en.eraseIdxIfInBounds p.1).toList=en.toList.eraseIdx p.1:=by
    unfold Array.eraseIdxIfInBounds;rw[dif_pos hlt,Array.toList_eraseIdx]
   rw[this];exact Entries.erase _ he)
  refine ⟨.value (.tuple #[]),_,_,G,?_,.inl rfl,T1,R1,by simp[aB]⟩;simp[execOp,hop,resolve,hc,ha',hta',invoke,builtin,Builtin.delete_,r1,r2,run_underlying hT,Pq hg,hck,hf,PY _ hg]
theorem EO{c:Call}{T kt et:TypeId}{z1:Operand}{y1:Opd}{id:Nat}{es:List (AV × AV)}(hop:o.op= .call c)(hc:c.callee= .builtin .len)(ha:c.args.toList=[z1])(hta:c.argTypes.toList=[T])(hT:P.underlying T=some (.map kt et))
  (h1:opd P T z1=some y1) (hx:ev t y1= .mp id) (ho:h.objs id=some (.map es)):Loc P o t h (.int .i64 es.length) h ⟨[id],[],[]⟩:=by
 have ha':c.args= #[z1]:=by rw[<-Array.toArray_toList (xs:=c.args),ha]
 have hta':c.argTypes= #[T]:=by rw[<-Array.toArray_toList (xs:=c.argTypes),hta]
 refine ⟨_,_,ez h ho,λG w a ht R F=>?_⟩;have r1:=aJ h1 ht;rw[hx] at r1;simp only[aB] at r1;obtain ⟨en,ck,hg,he⟩:=kW R;have hl:en.size=es.length:=by have:=Entries.length he;simpa using this
 refine ⟨.value (.int .i64 es.length),_,w,G,?_,.inl rfl,Trans.refl _ _ _,R,by simp[aB]⟩;simp[execOp,hop,resolve,hc,ha',hta',invoke,builtin,Builtin.len_,run_underlying hT,r1,Pq hg,goInt,hl]
theorem wD{c:Call}{T kt et:TypeId}{z1:Operand}{y1:Opd}(hop:o.op= .call c)(hc:c.callee= .builtin .len)(ha:c.args.toList=[z1])(hta:c.argTypes.toList=[T])(hT:P.underlying T=some (.map kt et))
  (h1:opd P T z1=some y1) (ht:cG G w t a) (hx:ev t y1= .sc (.map none)):Plain P G w a o (.int .i64 0):=by
 have ha':c.args= #[z1]:=by rw[<-Array.toArray_toList (xs:=c.args),ha]
 have hta':c.argTypes= #[T]:=by rw[<-Array.toArray_toList (xs:=c.argTypes),hta]
 have r1:=aJ h1 ht;rw[hx] at r1;simp only[aB] at r1;exact ⟨.int .i64 0,by simp[execOp,hop,resolve,hc,ha',hta',invoke,builtin,Builtin.len_,run_underlying hT,r1,goInt],by simp[aB]⟩
theorem CG(h:H){objs:Nat->Option Obj}{ids:List Nat}(ho:∀id o,objs id=some o->h.objs id=some o)(hi:∀id,(objs id).isSome->id∈ids):Touch h (.only objs [] h.n h.m) (.only objs [] h.n h.m) h ⟨ids,[],[]⟩ where
 sub:=⟨λj o x=>ho j o x,λt x=>by simp[H.only] at x⟩
 n:=rfl
 m:=rfl
 eq:=H.ext (λj=>by
  change h.objs j=if (objs j).isSome=true\/h.n<=j/\j<h.n then objs j else h.objs j
  by_cases hc:(objs j).isSome=true\/h.n<=j/\j<h.n
  ·rw[Of hc];rcases hc with hc|hc
   ·obtain ⟨o,hx⟩:=Qk.1 hc;rw[hx,ho j o hx]
   ·omega
  ·rw[N7 hc]) rfl (by simp[H.patch,H.only,gR]) rfl
 rd j x:= .inl (hi j x)
 wr id a b:=by simp only[H.only] at a b;omega
 chg j x hj:=rfl
 tk t x:=by simp[H.only] at x
 tn t x:=by simp[H.only] at x
 le:=NY _
 lem:=NY _
theorem rS{c:Array Value}{T:TypeId}{fr:Nat × Nat}{B off:Nat}{w:World}{v:Option Nat}(h:w.heap[B]? =some (.cells c T fr))(hfr:fr.1=fr.2):w.frozen? ⟨B,off,v⟩=false:=by
 unfold World.frozen?;simp only[h];have:¬(fr.1<=off/\off<fr.2):=λh=>by omega
 simp only[Bool.and_eq_false_iff,P4];omega
theorem uU{B B' a b:Nat}{w:World}{c c':Array Value}{T T':TypeId}{fr fr':Nat × Nat}(h:w.heap[B]? =some (.cells c T fr))(hfr:fr.1=fr.2)(h':w.heap[B']? =some (.cells c' T' fr'))(hfr':fr'.1=fr'.2):
  (sameAddr ⟨B,a,none⟩ ⟨B',b,none⟩).run P w= .ok (decide (B=B')&&decide (a=b)) w:=by
 by_cases hB:B=B'
 ·subst hB;by_cases ha:a=b
  ·subst ha;simp[sameAddr]
  ·simp[sameAddr,ha]
 ·have f1:=λoff=>rS (off:=off) (v:=none) h hfr;have f2:=λoff=>rS (off:=off) (v:=none) h' hfr';simp[sameAddr,hB,f1,f2,noView,viewAt,World.shape?,h,h',mayBeOne,stringish]
theorem Be{op:BinOp}{neg:Bool}{xT yT e:TypeId}{x y:Operand}{b c:Opd}{i ai j aj:Nat}{ci cj:List AV}(hop:o.op= .binOp op xT x y yT)(hT:P.underlying xT=some (.pointer e))(hsz:yI P e y=true)
  (hn:op= .eql/\neg=false\/op= .neq/\neg=true) (h1:opd P xT x=some b) (h2:opd P yT y=some c)
  (hx:ev t b= .ptr i ai) (hy:ev t c= .ptr j aj) (ho1:h.objs i=some (.cells ci)) (ho2:h.objs j=some (.cells cj)):
  Loc P o t h (.bool (if neg then !(decide (i=j)&&decide (ai=aj)) else (decide (i=j)&&decide (ai=aj)))) h ⟨[i,j],[],[]⟩:=by
 have hin:∀k,k∈[i,j]↔k=i\/k=j:=λk=>by simp
 refine ⟨_,_,CG h (objs:=λk=>if k=i\/k=j then h.objs k else none) (ids:=[i,j]) (λk p hk=>?_) (λk hk=>?_),λG w a ht R F=>?_⟩
 ·split at hk
  ·exact hk
  ·cases hk
 ·split at hk
  ·rename_i hc;simpa using hc
  ·cases hk
 have r1:=aJ h1 ht;have r2:=aJ h2 ht;rw[hx] at r1;rw[hy] at r2;simp only[aB] at r1 r2;obtain ⟨d1,r1⟩:=r1;obtain ⟨d2,r2⟩:=r2;have o1:(H.only (λk=>if k=i\/k=j then h.objs k else none) [] h.n h.m).objs i=some (.cells ci):=by
  show (if i=i\/i=j then h.objs i else none)=_;rw[Of (.inl rfl)];exact ho1
 have o2:(H.only (λk=>if k=i\/k=j then h.objs k else none) [] h.n h.m).objs j=some (.cells cj):=by
  show (if j=i\/j=j then h.objs j else none)=_;rw[Of (.inr rfl)];exact ho2
 obtain ⟨-,-,-,vs1,q1,T1,fr1,e1,-,f1,-⟩:=R.obj _ _ o1;obtain ⟨-,-,-,vs2,q2,T2,fr2,e2,-,f2,-⟩:=R.obj _ _ o2;have hij:decide (G.ι i=G.ι j)=decide (i=j):=by
  rw[Qv];exact ⟨λe=>R.inj _ _ _ _ o1 o2 e,λe=>by rw[e]⟩
 have hs:=uU (P:=P) (a:=ai) (b:=aj) e1 f1 e2 f2;rw[hij] at hs;simp only[yI,Ob,Option.any_eq_true,Oj] at hsz;obtain ⟨-,inf,hi,hz⟩:=hsz;have heq:(Op.equal xT (.pointer (some ⟨G.ι i,ai,none⟩)) (.pointer (some ⟨G.ι j,aj,none⟩))).run P w= .ok (decide (i=j)&&decide (ai=aj)) w:=by
  have h9:∀d:Nat,(Op.equalIn (d+1) xT (.pointer (some ⟨G.ι i,ai,none⟩)) (.pointer (some ⟨G.ι j,aj,none⟩))).run P w= .ok (decide (i=j)&&decide (ai=aj)) w:=λd=>by
   simp[Op.equalIn,run_underlying hT,sizeOf,typeInfo,hi,hz,hs]
  simp only[Op.equal,Op.maxDepth,h9 9999]
 refine ⟨.value (.bool (if neg then !(decide (i=j)&&decide (ai=aj)) else (decide (i=j)&&decide (ai=aj)))),_,w,G,?_,.inl rfl,Trans.refl _ _ _,R,by simp[aB]⟩;rcases hn with ⟨rfl,rfl⟩|⟨rfl,rfl⟩
 ·simp[execOp,hop,eqGuard,r1,r2,binOp,heq]
 ·simp[execOp,hop,eqGuard,r1,r2,binOp,heq]
theorem CH{op:BinOp}{neg:Bool}{xT yT kt et:TypeId}{x y:Operand}{b:Opd}{z:AV}(hop:o.op= .binOp op xT x y yT)(hT:P.underlying xT=some (.map kt et))(hy:y= .const (.map none))
  (hn:op= .eql/\neg=false\/op= .neq/\neg=true) (h1:opd P xT x=some b)
  (ht:cG G w t a) (hz:eqM neg (ev t b)=some z):Plain P G w a o z:=by
 have r1:=aJ h1 ht;generalize ev t b=X at*
 unfold Plain;subst hy;simp only[execOp,hop];have he:a.eval (.const (.map none))= .map none:=rfl;rw[he];generalize hx:a.eval x=vx at*
 have run:∀q:Option Nat,(binOp .eql xT (.map q) (.map none)).run P w= .ok (.bool q.isNone) w/\(binOp .neq xT (.map q) (.map none)).run P w= .ok (.bool (!q.isNone)) w:=by
  intro q;have hq:=run_equalIn_map_nil w 9999 xT kt et q hT;constructor
  ·simp only[binOp];simp[Op.equal,Op.maxDepth,hq]
  ·simp only[binOp];simp[Op.equal,Op.maxDepth,hq]
 unfold eqM at hz;split at hz
 ·cases hz;simp only[aB] at r1;obtain ⟨-,rfl⟩:=r1;rcases hn with ⟨rfl,rfl⟩|⟨rfl,rfl⟩ <;>simp[eqGuard,(run _).1,(run _).2,aB]
 ·cases hz;simp only[aB] at r1;subst r1;rcases hn with ⟨rfl,rfl⟩|⟨rfl,rfl⟩ <;>simp[eqGuard,(run _).1,(run _).2,aB]
 ·cases hz
end
section
variable{P:Program}{G:aQ}{w:World}{t:Tm}{o:Oper}{h:H}{a:Act}
theorem wE{k:EK}{x y:AV}{v u:Value}(h:ja k x y=some true)(r1:aB G w x v)(r2:aB G w y u):v=u:=by
 unfold ja at h;split at h
 ·split at h
  ·rename_i hk;subst hk;simp only[Oi,Oj] at h;subst h;simp only[aB] at r1 r2;rw[r1,r2]
  ·cases h
 ·simp only[Oi,Oj] at h;subst h;simp only[aB] at r1 r2;rw[r1,r2]
 ·simp only[Oi,Qh] at h;subst h;simp only[aB] at r1 r2;rw[r1,r2]
 ·cases h
theorem oH:∀{ks:List EK}{xs ys:List AV}{vs us:List Value},bu ks xs ys=some true->aC G w xs vs->aC G w ys us->vs=us
 |[],xs,ys,vs,us,h,r1,r2=>by
  cases xs<;>cases ys<;>simp only[bu] at h<;>first|(cases h;done)|skip
  simp only[aC] at r1 r2;rw[r1,r2]
 |k::ks,xs,ys,vs,us,h,r1,r2=>by
  cases xs<;>cases ys<;>simp only[bu] at h<;>first|(cases h;done)|skip
  simp only[aC] at r1 r2;obtain ⟨v,vs,rfl,r1,q1⟩:=r1;obtain ⟨u,us,rfl,r2,q2⟩:=r2;split at h
  ·rename_i p q hp hq;simp only[Oi,Ob] at h;obtain ⟨rfl,rfl⟩:=h;rw[wE hp r1 r2,oH hq q1 q2]
  ·cases h
theorem wF{k:EK}{x y:AV}{v:Value}{b:Bool}{n:Nat}(h:ja k x y=some b)(r1:aB G w x v):Instr.sameBits n v v=true:=by
 unfold ja at h;split at h<;>first|(cases h;done)|skip
 all_goals (simp only[aB] at r1;subst r1;simp[Instr.sameBits])
 rename_i k l l';exact (bytes_beq _ _).2 rfl
theorem oI{n:Nat}:∀{ks:List EK}{xs ys:List AV}{vs:List Value}{b:Bool},bu ks xs ys=some b->aC G w xs vs->((vs.zip vs).all λ(x,y)=>Instr.sameBits n x y)=true
 |[],xs,ys,vs,b,h,r1=>by
  cases xs<;>cases ys<;>simp only[bu] at h<;>first|(cases h;done)|skip
  simp only[aC] at r1;subst r1;rfl
 |k::ks,xs,ys,vs,b,h,r1=>by
  cases xs<;>cases ys<;>simp only[bu] at h<;>first|(cases h;done)|skip
  simp only[aC] at r1;obtain ⟨v,vs,rfl,r1,q1⟩:=r1;split at h
  ·rename_i p q hp hq;have h2:=oI (n:=n) hq q1;simp only[List.zip_cons_cons,List.all_cons,Ob];exact ⟨wF hp r1,h2⟩
  ·cases h
theorem CI{ks:List EK}{xs ys:List AV}{vs:List Value}{b:Bool}(h:bu ks xs ys=some b)(r1:aC G w xs vs):(Instr.keyThatStays (.agg vs.toArray) (.agg vs.toArray)).run P w= .ok (.agg vs.toArray) w:=by
 have:Instr.sameBits 10000 (.agg vs.toArray) (.agg vs.toArray)=true:=by
  have h9:∀d:Nat,Instr.sameBits (d+1) (.agg vs.toArray) (.agg vs.toArray)=true:=λd=>by
   simp only[Instr.sameBits,PC,OP];exact oI h r1
  exact h9 9999
 simp[Instr.keyThatStays,this]
theorem JJ{X:Array Value}:∀{i:Nat}{fs:List Field}{ks:List EK}{xs ys:List AV}{b:Bool},gy P i fs=some ks->aC G w xs (X.toList.drop i)->bu ks xs ys=some b->
  ∀f∈fs,f.name≠ "_" /\∃k v,iJ P f.type=some k/\X[f.offset]? =some v
 |i,[],ks,xs,ys,b,hf,r1,h=>by intro f hf';cases hf'
 |i,f::fs,ks,xs,ys,b,hf,r1,h=>by
  simp only[gy] at hf;split at hf
  ·rename_i k ks' hk hks;split at hf
   ·rename_i hn;obtain ⟨hn,ho⟩:=hn;cases hf;cases xs with
    |nil=>simp[bu] at h
    |cons x xs=>
     cases ys with
     |nil=>simp[bu] at h
     |cons y ys=>
      simp only[aC] at r1;obtain ⟨v,vs,e1,r1,q1⟩:=r1;have g1:X[i]? =some v:=by
       have:=Pb List.head? e1;simpa [List.head?_drop] using this
      have t1:X.toList.drop (i+1)=vs:=by
       have:=Pb List.tail e1;simpa [List.tail_drop] using this
      simp only[bu] at h;split at h
      ·rename_i p q hp hq;intro g hg;rcases Om.1 hg with rfl|hg
       ·exact ⟨hn,k,v,hk,by rw[ho];exact g1⟩
       ·exact JJ (i:=i+1) hks (t1▸q1) hq g hg
      ·cases h
   ·cases hf
  ·cases hf
theorem CJ{em:Bool}{n:Nat}{t:TypeId}{k:EK}{v:Value}(hu:iJ P t=some k):(Instr.checkKey em (n+1) t v).run P w= .ok () w:=by
 unfold iJ at hu;split at hu<;>first|(cases hu;done)|skip
 all_goals
  rename_i hu';rw[Instr.checkKey];simp only[Sem.run_bind,run_underlying hu',Result.andThen_ok];cases v<;>rfl
theorem nT{em:Bool}{kt:TypeId}{fs:Array Field}{ks:List EK}{xs ys:List AV}{vs:List Value}{b:Bool}(hT:P.underlying kt=some (.struct fs))(hf:gy P 0 fs.toList=some ks)(r1:aC G w xs vs)(h:bu ks xs ys=some b):
  (Instr.checkKey em 10000 kt (.agg vs.toArray)).run P w= .ok () w:=by
 have each:=JJ (X:=vs.toArray) (i:=0) hf (by simpa using r1) h;have h9:∀d:Nat,(Instr.checkKey em (d+2) kt (.agg vs.toArray)).run P w= .ok () w:=λd=>by
  rw[show d+2=(d+1)+1 from rfl,Instr.checkKey];simp only[Sem.run_bind,run_underlying hT,Result.andThen_ok];rw[<-Array.forIn_toList];generalize fs.toList=L at each;clear hf;induction L with
  |nil=>simp
  |cons f L ih=>
   obtain ⟨hn,k,v,hk,hx⟩:=each f af;have p2:=CJ (P:=P) (w:=w) (em:=em) (n:=d) (v:=v) hk;simp only[List.forIn_cons,Sem.run_bind,hn,ne_eq,QS,N9,Result.andThen_ok,dQ hk hx,p2,Sem.run_pure];exact ih (λy hy=>each y (by simp[hy]))
 exact h9 9998
theorem Kh{ks:List EK}{key:List AV}:∀{es:List (AV × AV)}{r:Option (Nat × AV)},eX ks key es=some r->∃ys b,bu ks key ys=some b
 |[],r,h=>by
  simp only[eX] at h;split at h
  ·rename_i hs;obtain ⟨b,hb⟩:=Qk.1 hs;exact ⟨_,b,hb⟩
  ·cases h
 |(a,v)::es,r,h=>by
  cases a<;>simp only[eX] at h<;>try (cases h;done)
  split at h
  ·exact ⟨_,_,‹_›⟩
  ·exact ⟨_,_,‹_›⟩
  ·cases h
theorem oJ{kt:TypeId}{fs:Array Field}{ks:List EK}{key:List AV}{vs:List Value}(hT:P.underlying kt=some (.struct fs))(hh:P.stoodInHeld kt=false)(hf:gy P 0 fs.toList=some ks)(hk:aC G w key vs):
  ∀{es:List (AV × AV)}{en:List MapEntry}{r:Option (Nat × AV)},eX ks key es=some r->Entries G w es en->
  (r=none->∀i,(Instr.findAsking kt (.agg vs.toArray) en i).run P w= .ok none w)/\
  (∀p,r=some p->∃e,en[p.1]? =some e/\(∀i,(Instr.findAsking kt (.agg vs.toArray) en i).run P w= .ok (some (i+p.1,e.val)) w)/\aB G w p.2 e.val/\e.key= .agg vs.toArray)
 |[],en,r,hm,he=>by
  simp only[Entries] at he;subst he;simp only[eX] at hm;split at hm<;>cases hm;exact ⟨λ_ i=>by simp[Instr.findAsking],λp hp=>by cases hp⟩
 |(a,v)::es,en,r,hm,he=>by
  obtain ⟨e,rst,rfl,h1,h2,h3⟩:=he;cases a<;>simp only[eX] at hm<;>try (cases hm;done)
  rename_i xs;simp only[aB] at h1;obtain ⟨us,hu,h1⟩:=h1;have eqr:∀b,bu ks key xs=some b->(Op.equal kt (.agg vs.toArray) e.key).run P w= .ok b w:=λb hb=>by
   have hfs:P.fieldsOf kt=fs:=by simp[Program.fieldsOf,hT]
   rw[hu];have:(Op.equalIn 10000 kt (.agg vs.toArray) (.agg us.toArray)).run P w= .ok b w:=by
    rw[run_equalIn_struct w 9999 kt _ _ (by rw[hfs];exact hT) hh,hfs];exact qw (d:=9998) hf (by simpa using hk) (by simpa using h1) hb
   simpa only[Op.equal,Op.maxDepth] using this
  split at hm
  ·rename_i hq;have hq':=eqr _ hq;simp only[Oi] at hm;subst hm;refine ⟨λh=>(by cases h),λp hp=>?_⟩;cases hp;exact ⟨e,rfl,λi=>by simp[Instr.findAsking,hq'],h2,by rw[hu,oH hq hk h1]⟩
  ·rename_i hq;have hq':=eqr _ hq;simp only[N8] at hm;obtain ⟨r',hr',rfl⟩:=hm;obtain ⟨g1,g2⟩:=oJ hT hh hf hk hr' h3;refine ⟨λhn i=>?_,λp hp=>?_⟩
   ·cases r' with
    |none=>simp[Instr.findAsking,hq',g1 rfl]
    |some q=>cases hn
   ·cases r' with
    |none=>cases hp
    |some q=>
     simp only[Option.map_some,Oi] at hp;subst hp;obtain ⟨e',q1,q2,q3,q4⟩:=g2 q rfl;exact ⟨e',by simpa using q1,λi=>by simp[Instr.findAsking,hq',q2];omega,q3,q4⟩
  ·cases hm
theorem gl{kt:TypeId}{fs:Array Field}{v:Value}{en:List MapEntry}(hT:P.underlying kt=some (.struct fs)):(Instr.findKey kt v en).run P w=(Instr.findAsking kt v en).run P w:=by
 cases en with
 |nil=>simp[Instr.findKey,run_underlying hT,Instr.findNow,Instr.findAsking]
 |cons e en=>
  have:Instr.sameNow (.struct fs) v e.key=none:=by cases v<;>rfl
  simp[Instr.findKey,run_underlying hT,Instr.findNow,this]
theorem yP{T kt et:TypeId}{z1 z2:Operand}{y1 y2:Opd}{ok:Bool}{z:Value}{zz:AV}{id:Nat}{ks:List EK}{fs:Array Field}{k:List AV}{es:List (AV × AV)}{r:Option (Nat × AV)}(hop:o.op= .lookup T z1 z2 ok)(hT:P.underlying T=some (.map kt et))(hk:P.underlying kt=some (.struct fs))(hh:P.stoodInHeld kt=false)(hf:gy P 0 fs.toList=some ks)(hz:(P.info? et).bind (·.zero)=some z)(hzz:dm P et z=some zz)
  (h1:opd P T z1=some y1) (h2:opd P kt z2=some y2) (hx:ev t y1= .mp id) (hy:ev t y2= .agg k) (ho:h.objs id=some (.map es)) (hm:eX ks k es=some r):
  Loc P o t h (dS zz ok r) h ⟨[id],[],[]⟩:=by
 refine ⟨_,_,ez h ho,λG w a ht R F=>?_⟩;have r1:=aJ h1 ht;have r2:=aJ h2 ht;rw[hx] at r1;rw[hy] at r2;simp only[aB] at r1 r2;obtain ⟨vs,r2,rk⟩:=r2;obtain ⟨en,ck,hg,he⟩:=kW R;obtain ⟨f1,f2⟩:=oJ hk hh hf rk hm he;obtain ⟨i,hi,hzi⟩:=OZ.1 hz;have hzr:(zeroValue et).run P w= .ok z w:=by simp[zeroValue,typeInfo,hi,hzi]
 obtain ⟨ys,b,hfit⟩:=Kh hm;have hck:=nT (em:=en.isEmpty) hk hf rk hfit;have rz:aB G w zz z:=eR hzz;cases r with
 |none=>
  have hf:=(gl (v:= .agg vs.toArray) (en:=en.toList) hk).trans (f1 rfl 0);refine ⟨.value (if ok then .tuple #[z,.bool false] else z),_,w,G,?_,.inl rfl,Trans.refl _ _ _,R,?_⟩
  ·cases ok<;>simp[execOp,hop,Instr.lookup,r1,r2,run_underlying hT,Pq hg,hck,hf,hzr]
  ·cases ok
   ·simpa [dS] using rz
   ·simp only[dS,N9,aB];exact ⟨[z,.bool false],rfl,aC.cons rz (aC.cons (by simp[aB]) aC.nil)⟩
 |some p=>
  obtain ⟨e,g1,g2,g3,g4⟩:=f2 p rfl;have hf:=(gl (v:= .agg vs.toArray) (en:=en.toList) hk).trans (g2 0);refine ⟨.value (if ok then .tuple #[e.val,.bool true] else e.val),_,w,G,?_,.inl rfl,Trans.refl _ _ _,R,?_⟩
  ·cases ok<;>simp[execOp,hop,Instr.lookup,r1,r2,run_underlying hT,Pq hg,hck,hf]
  ·cases ok
   ·simpa [dS] using g3
   ·simp only[dS,N9,aB];exact ⟨[e.val,.bool true],rfl,aC.cons g3 (aC.cons (by simp[aB]) aC.nil)⟩
theorem tL{T kt et:TypeId}{z1 z2 z3:Operand}{y1 y2 y3:Opd}{id:Nat}{ks:List EK}{fs:Array Field}{k:List AV}{es:List (AV × AV)}{r:Option (Nat × AV)}(hop:o.op= .mapUpdate T z1 z2 z3\/o.op= .insert T z1 z2 z3)(hT:P.underlying T=some (.map kt et))(hk:P.underlying kt=some (.struct fs))(hh:P.stoodInHeld kt=false)(hf:gy P 0 fs.toList=some ks)
  (h1:opd P T z1=some y1) (h2:opd P kt z2=some y2) (h3:opd P et z3=some y3) (hx:ev t y1= .mp id) (hy:ev t y2= .agg k) (ho:h.objs id=some (.map es)) (hm:eX ks k es=some r):
  Loc P o t h .any {h with objs:=upd h.objs id (some (.map (rI es k (ev t y3) r)))} ⟨[],[id],[]⟩:=by
 refine ⟨_,_,fj h ho,λG w a ht R F=>?_⟩;have r1:=aJ h1 ht;have r2:=aJ h2 ht;have r3:=aJ h3 ht;rw[hx] at r1;rw[hy] at r2;simp only[aB] at r1 r2;obtain ⟨vs,r2,rk⟩:=r2;obtain ⟨en,ck,hg,he⟩:=kW R;obtain ⟨f1,f2⟩:=oJ hk hh hf rk hm he;obtain ⟨ys,b,hfit⟩:=Kh hm;have hck:=nT (em:=false) hk hf rk hfit;have rkv:aB G w (.agg k) (.agg vs.toArray):=by
  simp only[aB];exact ⟨vs,rfl,rk⟩
 have hop':(execOp a.eval o).run P w=((Instr.mapUpdate T (a.eval z1) (a.eval z2) (a.eval z3)).run P w).andThen λ_ w'=> .ok .skip w':=by
  rcases hop with hop|hop<;>simp[execOp,hop]
 cases r with
 |none=>
  have hf:=(gl (v:= .agg vs.toArray) (en:=en.toList) hk).trans (f1 rfl 0);obtain ⟨T1,R1⟩:=jC (ck':=ck+1) (en':=en.push {key:= .agg vs.toArray,val:=a.eval z3,born:=ck}) R hg (es':=es++[(.agg k,ev t y3)]) (by
   rw[Array.toList_push];exact Entries.append he ⟨_,[],rfl,rkv,r3,rfl⟩)
  refine ⟨.skip,undef,_,G,?_,.inr ⟨rfl,rfl⟩,T1,R1,by simp[aB]⟩;rw[hop'];simp[Instr.mapUpdate,r1,r2,run_underlying hT,Pq hg,hck,hf,PY _ hg]
 |some p=>
  obtain ⟨e,g1,g2,g3,g4⟩:=f2 p rfl;have hf:=(gl (v:= .agg vs.toArray) (en:=en.toList) hk).trans (g2 0);have hst:=CI (P:=P) (w:=w) hfit rk;have g1':en[p.1]? =some e:=by simpa using g1
  obtain ⟨T1,R1⟩:=jC (ck':=ck) (en':=en.modify p.1 λe=>{e with key:= .agg vs.toArray,val:=a.eval z3}) R hg (es':=es.set p.1 (.agg k,ev t y3)) (by
   rw[toList_modify _ _ _ g1];exact Entries.set rkv r3 _ he)
  refine ⟨.skip,undef,_,G,?_,.inr ⟨rfl,rfl⟩,T1,R1,by simp[aB]⟩;rw[hop'];simp[Instr.mapUpdate,r1,r2,run_underlying hT,Pq hg,hck,hf,PY _ hg,g1',g4,hst]
theorem CL{c:Call}{T kt et:TypeId}{z1 z2:Operand}{ts:List TypeId}{y1 y2:Opd}{id:Nat}{ks:List EK}{fs:Array Field}{k:List AV}{es:List (AV × AV)}{r:Option (Nat × AV)}(hop:o.op= .call c)(hc:c.callee= .builtin .delete)(ha:c.args.toList=[z1,z2])(hta:c.argTypes.toList=T::ts)(hT:P.underlying T=some (.map kt et))(hk:P.underlying kt=some (.struct fs))(hh:P.stoodInHeld kt=false)(hf:gy P 0 fs.toList=some ks)
  (h1:opd P T z1=some y1) (h2:opd P kt z2=some y2) (hx:ev t y1= .mp id) (hy:ev t y2= .agg k) (ho:h.objs id=some (.map es)) (hm:eX ks k es=some r):
  Loc P o t h .any {h with objs:=upd h.objs id (some (.map (rH es r)))} ⟨[],[id],[]⟩:=by
 have ha':c.args= #[z1,z2]:=by rw[<-Array.toArray_toList (xs:=c.args),ha]
 have hta':c.argTypes=(T::ts).toArray:=by rw[<-Array.toArray_toList (xs:=c.argTypes),hta]
 refine ⟨_,_,fj h ho,λG w a ht R F=>?_⟩;have r1:=aJ h1 ht;have r2:=aJ h2 ht;rw[hx] at r1;rw[hy] at r2;simp only[aB] at r1 r2;obtain ⟨vs,r2,rk⟩:=r2;obtain ⟨en,ck,hg,he⟩:=kW R;obtain ⟨f1,f2⟩:=oJ hk hh hf rk hm he;obtain ⟨ys,b,hfit⟩:=Kh hm;have hck:=nT (em:=en.isEmpty) hk hf rk hfit;cases r with
 |none=>
  have hf:=(gl (v:= .agg vs.toArray) (en:=en.toList) hk).trans (f1 rfl 0);obtain ⟨T1,R1⟩:=jC (ck':=ck) (en':=en) R hg (es':=es) he;refine ⟨.value (.tuple #[]),_,_,G,?_,.inl rfl,T1,R1,by simp[aB]⟩;simp[execOp,hop,resolve,hc,ha',hta',invoke,builtin,Builtin.delete_,r1,r2,run_underlying hT,Pq hg,hck,hf,PY _ hg]
 |some p=>
  obtain ⟨e,g1,g2,g3,g4⟩:=f2 p rfl;have hf:=(gl (v:= .agg vs.toArray) (en:=en.toList) hk).trans (g2 0);have hlt:p.1<en.size:=by
   have:=(O4.1 g1).1;simpa using this
  obtain ⟨T1,R1⟩:=jC (ck':=ck) (en':=en.eraseIdxIfInBounds p.1) R hg (es':=es.eraseIdx p.1) (by
   have:(en.eraseIdxIfInBounds p.1).toList=en.toList.eraseIdx p.1:=by
    unfold Array.eraseIdxIfInBounds;rw[dif_pos hlt,Array.toList_eraseIdx]
   rw[this];exact Entries.erase _ he)
  refine ⟨.value (.tuple #[]),_,_,G,?_,.inl rfl,T1,R1,by simp[aB]⟩;simp[execOp,hop,resolve,hc,ha',hta',invoke,builtin,Builtin.delete_,r1,r2,run_underlying hT,Pq hg,hck,hf,PY _ hg]
end
end Go.Av
end
