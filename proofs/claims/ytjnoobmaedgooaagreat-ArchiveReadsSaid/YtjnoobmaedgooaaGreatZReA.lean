/- Parts of a proof: a layer of abstract values over the model, the functions' walks, plain laws. -/
import Derived.Deep.CondSized
import Derived.Defers
import Derived.IntWalk
import Derived.KernelRfl
import Derived.Laws.Append
import Derived.Laws.AppendOwn
import Derived.Laws.BytesArg
import Derived.Laws.ComplexArith
import Derived.Laws.Cover3
import Derived.Laws.Entries
import Derived.Laws.FloatBits
import Derived.Laws.IdiomCopy
import Derived.Laws.IdiomStrings
import Derived.Laws.Pointers
import Derived.Laws.Small
import Derived.Laws.Strings
import Derived.Laws.StructEq
import Derived.Lib.Small
import Derived.Lib.Walk
import Derived.MapKept
import Derived.OpenShut
import Derived.Orders
import Derived.OrdersIn
import Derived.ProofKit
import Derived.RangeFuncRecord
import Derived.RangeFuncSeq
import Derived.ReadAgain
import Derived.Recover
import Derived.Scope
import Derived.Shelf.Lay
import Derived.Shelf.SlSortCmp.InsertionK
import Derived.Shelf.SlSortCmp.WholeK
import Derived.SizedLaws
import Derived.Tactics
import Derived.Tactics2
import Derived.Test.YtjnoobmaedgooaaGreatProg
import Derived.Test.YtjnoobmaedgooaaGreatRows
import Derived.WalkKit
import Derived.WalkSmall
set_option linter.unusedSimpArgs false
set_option linter.unusedVariables false
section
theorem N4:type_of%@Nat.le_refl:=@Nat.le_refl
theorem N5.{u}:type_of%@List.getElem?_eq_getElem.{u}:=@List.getElem?_eq_getElem
theorem N6:type_of%@decide_eq_false:=@decide_eq_false
theorem N7:type_of%@Int.toNat_natCast:=@Int.toNat_natCast
theorem N8.{u}:type_of%@List.length_cons.{u}:=@List.length_cons
theorem N9:type_of%@decide_eq_true:=@decide_eq_true
theorem Oa.{u}:type_of%@List.length_nil.{u}:=@List.length_nil
theorem Ob.{u}:type_of%@if_neg.{u}:=@if_neg
theorem Oc.{u,v}:type_of%@Option.map_eq_some_iff.{u,v}:=@Option.map_eq_some_iff
theorem Od.{u}:type_of%@if_false.{u}:=@if_false
theorem Oe.{u,v}:type_of%@Option.bind_eq_some_iff.{u,v}:=@Option.bind_eq_some_iff
theorem Of.{u}:type_of%@if_true.{u}:=@if_true
theorem Og.{u}:type_of%@List.length_append.{u}:=@List.length_append
theorem Oh:type_of%@Bool.and_eq_true:=@Bool.and_eq_true
theorem Oi.{u}:type_of%@if_pos.{u}:=@if_pos
theorem Oj.{u}:type_of%@List.mem_singleton.{u}:=@List.mem_singleton
theorem Ol:type_of%@and_self:=@and_self
theorem Om.{u}:type_of%@Option.some.injEq.{u}:=@Option.some.injEq
theorem Oo:type_of%@Nat.zero_add:=@Nat.zero_add
theorem Oq:type_of%@Bool.false_eq_true:=@Bool.false_eq_true
theorem Ot:type_of%@Nat.zero_le:=@Nat.zero_le
theorem Ou.{u,v}:type_of%@Option.bind_some.{u,v}:=@Option.bind_some
theorem Ov:type_of%@decide_eq_true_eq:=@decide_eq_true_eq
theorem Ow.{u,v}:type_of%@Prod.mk.injEq.{u,v}:=@Prod.mk.injEq
theorem Ox:type_of%@of_decide_eq_true:=@of_decide_eq_true
theorem Oy:type_of%@Bool.not_true:=@Bool.not_true
theorem Oz.{u,v}:type_of%@Option.map_some.{u,v}:=@Option.map_some
theorem OA.{u}:type_of%@List.mem_cons.{u}:=@List.mem_cons
theorem OB:type_of%@Bool.not_false:=@Bool.not_false
theorem OC.{u,v}:type_of%@List.mem_map.{u,v}:=@List.mem_map
theorem OD.{u}:type_of%@List.take_succ_eq_append_getElem.{u}:=@List.take_succ_eq_append_getElem
theorem OE:type_of%@decide_true:=@decide_true
theorem OF.{u}:type_of%@List.getD_eq_getElem?_getD.{u}:=@List.getD_eq_getElem?_getD
theorem OG.{u}:type_of%@List.take_length.{u}:=@List.take_length
theorem OI:type_of%@Nat.le_trans:=@Nat.le_trans
theorem OJ.{u,v}:type_of%@List.map_cons.{u,v}:=@List.map_cons
theorem OK.{u}:type_of%@List.all_eq_true.{u}:=@List.all_eq_true
theorem OL:type_of%@Nat.lt_succ_self:=@Nat.lt_succ_self
theorem OM:type_of%@Bool.true_and:=@Bool.true_and
theorem ON:type_of%@of_decide_eq_false:=@of_decide_eq_false
theorem OP.{u}:type_of%@List.getD_cons_zero.{u}:=@List.getD_cons_zero
theorem OQ.{u,v}:type_of%@List.map_nil.{u,v}:=@List.map_nil
theorem OR.{u}:type_of%@List.append_nil.{u}:=@List.append_nil
theorem OS.{u}:type_of%@List.mem_append.{u}:=@List.mem_append
theorem OT:type_of%@Nat.lt_of_lt_of_le:=@Nat.lt_of_lt_of_le
theorem OU:type_of%@Int.le_refl:=@Int.le_refl
theorem OV.{u}:type_of%@List.length_take.{u}:=@List.length_take
theorem OW.{u}:type_of%@List.getElem?_append_left.{u}:=@List.getElem?_append_left
theorem OX.{u}:type_of%@List.append_assoc.{u}:=@List.append_assoc
theorem OY.{u}:type_of%@List.length_drop.{u}:=@List.length_drop
theorem OZ:type_of%@Bool.or_eq_true:=@Bool.or_eq_true
theorem O2:type_of%@true_or:=@true_or
theorem O3.{u}:type_of%@Array.getElem?_eq_getElem.{u}:=@Array.getElem?_eq_getElem
theorem O4:type_of%@Nat.mul_one:=@Nat.mul_one
theorem O5.{u}:type_of%@Array.getElem?_eq_some_iff.{u}:=@Array.getElem?_eq_some_iff
theorem O6:type_of%@List.mem_range:=@List.mem_range
theorem O7:type_of%@Nat.mod_eq_of_lt:=@Nat.mod_eq_of_lt
theorem O8.{u}:type_of%@List.take_of_length_le.{u}:=@List.take_of_length_le
theorem O9.{u}:type_of%@List.take_zero.{u}:=@List.take_zero
theorem Pb.{u,v}:type_of%@List.map_congr_left.{u,v}:=@List.map_congr_left
theorem Pd.{u}:type_of%@List.drop_succ_cons.{u}:=@List.drop_succ_cons
theorem Pe.{u}:type_of%@List.mem_filter.{u}:=@List.mem_filter
theorem Pf.{u}:type_of%@List.cons.injEq.{u}:=@List.cons.injEq
theorem Pg.{u}:type_of%@List.drop_eq_nil_of_le.{u}:=@List.drop_eq_nil_of_le
theorem Ph.{u}:type_of%@List.getD_cons_succ.{u}:=@List.getD_cons_succ
theorem Pj.{u,v}:type_of%@congrArg.{u,v}:=@congrArg
theorem Pk.{u}:type_of%@List.getElem_mem.{u}:=@List.getElem_mem
theorem Pl.{u,v}:type_of%@List.map_append.{u,v}:=@List.map_append
theorem Pn.{u}:type_of%@List.mem_flatten.{u}:=@List.mem_flatten
theorem Po:type_of%@Nat.one_mul:=@Nat.one_mul
theorem Pq.{u}:type_of%@List.getElem?_eq_none.{u}:=@List.getElem?_eq_none
theorem Ps:type_of%@Go.MapKept.run_getObj_map:=@Go.MapKept.run_getObj_map
theorem Pu.{u}:type_of%@List.getElem?_eq_some_iff.{u}:=@List.getElem?_eq_some_iff
theorem Pv:type_of%@Bool.false_and:=@Bool.false_and
theorem Pw.{u}:type_of%@List.drop_zero.{u}:=@List.drop_zero
theorem Px:type_of%@Nat.pow_le_pow_right:=@Nat.pow_le_pow_right
theorem Py:type_of%@Nat.lt_or_ge:=@Nat.lt_or_ge
theorem Pz:type_of%@Nat.add_mul:=@Nat.add_mul
theorem PA.{u}:type_of%@List.pairwise_cons.{u}:=@List.pairwise_cons
theorem PB:type_of%@Nat.sub_lt_sub_left:=@Nat.sub_lt_sub_left
theorem PC:type_of%@true_and:=@true_and
theorem PD:type_of%@Nat.mul_le_mul_right:=@Nat.mul_le_mul_right
theorem PE.{u}:type_of%@List.getElem?_append_right.{u}:=@List.getElem?_append_right
theorem PF.{u,v}:type_of%@List.length_map.{u,v}:=@List.length_map
theorem PG:type_of%@Bool.and_self:=@Bool.and_self
theorem PH.{u}:type_of%@List.flatten_nil.{u}:=@List.flatten_nil
theorem PI:type_of%@Bool.false_or:=@Bool.false_or
theorem PJ.{u}:type_of%@beq_self_eq_true.{u}:=@beq_self_eq_true
theorem PK.{u}:type_of%@List.drop_drop.{u}:=@List.drop_drop
theorem PL.{u}:type_of%@List.mem_cons_self.{u}:=@List.mem_cons_self
theorem PM:type_of%@Int.natCast_nonneg:=@Int.natCast_nonneg
theorem PN.{u}:type_of%@List.flatten_append.{u}:=@List.flatten_append
theorem PO.{u}:type_of%@Array.getElem?_push.{u}:=@Array.getElem?_push
theorem PQ:type_of%@Nat.testBit_two_pow_mul_add:=@Nat.testBit_two_pow_mul_add
theorem PS.{u,v}:type_of%@List.flatMap_cons.{u,v}:=@List.flatMap_cons
theorem PT:type_of%@Bool.true_or:=@Bool.true_or
theorem PU:type_of%@Nat.two_pow_pos:=@Nat.two_pow_pos
theorem PV.{u}:type_of%@List.pairwise_iff_getElem.{u}:=@List.pairwise_iff_getElem
theorem PX.{u,v}:type_of%@List.pairwise_map.{u,v}:=@List.pairwise_map
theorem PY.{u}:type_of%@List.mem_of_getElem?.{u}:=@List.mem_of_getElem?
theorem PZ.{u}:type_of%@Array.getElem?_modify.{u}:=@Array.getElem?_modify
theorem P3.{u}:type_of%@List.take_append_drop.{u}:=@List.take_append_drop
theorem P4:type_of%@Nat.min_eq_left:=@Nat.min_eq_left
theorem P6:type_of%@Bool.and_true:=@Bool.and_true
theorem P7.{u}:type_of%@List.drop_eq_getElem_cons.{u}:=@List.drop_eq_getElem_cons
theorem P8:type_of%@Go.MapKept.run_setObj_map:=@Go.MapKept.run_setObj_map
theorem P9.{u}:type_of%@List.contains_cons.{u}:=@List.contains_cons
theorem Qd:type_of%@Bool.and_false:=@Bool.and_false
theorem Qe:type_of%@Bool.or_false:=@Bool.or_false
theorem Qf.{u}:type_of%@List.drop_nil.{u}:=@List.drop_nil
theorem Qg:type_of%@Bool.or_true:=@Bool.or_true
theorem Qi.{u}:type_of%@beq_iff_eq.{u}:=@beq_iff_eq
theorem Qk:type_of%@and_true:=@and_true
theorem Ql.{u}:type_of%@Ne.symm.{u}:=@Ne.symm
theorem Qm.{u}:type_of%@List.getElem?_drop.{u}:=@List.getElem?_drop
theorem Qn.{u}:type_of%@List.length_pos_iff.{u}:=@List.length_pos_iff
theorem Qo.{u,v}:type_of%@List.getElem?_map.{u,v}:=@List.getElem?_map
theorem Qq:type_of%@Nat.lt_succ_iff_lt_or_eq:=@Nat.lt_succ_iff_lt_or_eq
theorem Qr.{u,v,w}:type_of%@List.map_map.{u,v,w}:=@List.map_map
theorem Qs:type_of%@Nat.xor_lt_two_pow:=@Nat.xor_lt_two_pow
theorem Qt.{u}:type_of%@List.mem_iff_getElem.{u}:=@List.mem_iff_getElem
theorem Qv:type_of%@Bool.not_eq_true':=@Bool.not_eq_true'
theorem Qw:type_of%@Nat.zero_lt_one:=@Nat.zero_lt_one
theorem Qx:type_of%@UInt8.lt_iff_toNat_lt:=@UInt8.lt_iff_toNat_lt
theorem Qy.{u}:type_of%@List.take_append_of_le_length.{u}:=@List.take_append_of_le_length
theorem Qz:type_of%@List.range'_succ:=@List.range'_succ
theorem QC.{u}:type_of%@Option.isSome_iff_exists.{u}:=@Option.isSome_iff_exists
theorem QE:type_of%@Nat.pow_add:=@Nat.pow_add
theorem QG.{u}:type_of%@List.mem_cons_of_mem.{u}:=@List.mem_cons_of_mem
theorem QJ.{u}:type_of%@Array.getElem?_setIfInBounds.{u}:=@Array.getElem?_setIfInBounds
theorem QL:type_of%@Iff.rfl:=@Iff.rfl
theorem QN:type_of%@Nat.zero_mul:=@Nat.zero_mul
theorem QO.{u}:type_of%@List.length_eq_one_iff.{u}:=@List.length_eq_one_iff
theorem QT.{u,v}:type_of%@List.mem_flatMap.{u,v}:=@List.mem_flatMap
theorem QU:type_of%@BitVec.toNat_ofNat:=@BitVec.toNat_ofNat
theorem QX.{u}:type_of%@List.Pairwise.imp_of_mem.{u}:=@List.Pairwise.imp_of_mem
theorem QZ:type_of%@UInt8.toNat_inj:=@UInt8.toNat_inj
theorem Q0.{u}:type_of%@List.mem_of_mem_drop.{u}:=@List.mem_of_mem_drop
theorem Q5:type_of%@Bool.eq_iff_iff:=@Bool.eq_iff_iff
theorem Ra:type_of%@decide_eq_decide:=@decide_eq_decide
theorem Rb.{u}:type_of%@bne_self_eq_false.{u}:=@bne_self_eq_false
theorem Rc:type_of%@Nat.mod_lt:=@Nat.mod_lt
theorem Rh.{u}:type_of%@Option.some.inj.{u}:=@Option.some.inj
theorem Rk:type_of%@Nat.add_assoc:=@Nat.add_assoc
theorem Rl:type_of%@Nat.mul_assoc:=@Nat.mul_assoc
end
section
theorem ae{p:Prop}(h:p:=by omega):p:=h
theorem af{p:Prop}(h:p:=by simp only[go_sem]):p:=h
theorem ah{p:Prop}(h:p:=by simp):p:=h
theorem al{p:Prop}(h:p:=by trivial):p:=h
theorem aq{p:Prop}(h:p:=by decide):p:=h
theorem ar{p:Prop}(h:p:=by simp;omega):p:=h
theorem av{p:Prop}(h:p:=by simp only[go_sem,reduceIte,Nat.reduceEqDiff];exact rfl):p:=h
end
section
namespace Go.Av
inductive Cap where
 |any
 |exact (c:Nat)
 |own (t:Nat)
inductive AV where
 |any
 |int (k:IntKind) (n:Int)
 |bool (b:Bool)
 |str (l:List UInt8)
 |sc (v:Value)
 |sl (sz:Nat) (xs:List AV) (c:Cap)
 |ref (cs:List AV)
 |agg (cs:List AV)
 |tup (xs:List AV)
 |ptr (id off:Nat)
 |tsl (sz id off len:Nat) (cap:Option Nat)
 |clo (fn:Fn) (first captured:List AV)
 |ifc (t:TypeId) (x:AV)
 |mp (id:Nat)
 |slt (sz:Nat) (xs ys:List AV)
 |yld (id:Nat)
 |sup (B:Nat)
 |supb (B:Nat)
 |wint (k:IntKind)
 |one
instance:Inhabited AV:=⟨.any⟩
structure aT where
 dom:Nat->Prop
 ι:Nat->Nat
 tdom:Nat->Prop
 τ:Nat->Option (Nat × Nat)
 own:Nat->Prop
 lim:Nat->Option Nat
def One(v:Value):Prop:=(∀a,v≠ .agg a)/\(∀a,v≠ .tuple a)
def Imm(G:aT)(w:World)(B off:Nat)(vs:List Value):Prop:=
 ∀i v,vs[i]? =some v->w.cell? ⟨B,off+i,none⟩=some v/\One v/\¬G.own B/\(∀e,G.lim B=some e->off+i<e)
def Room(w:World)(B upto:Nat):Prop:=
 ∃cs T fr,w.heap[B]? =some (.cells cs T fr)/\upto<=cs.size/\(∀j,j<cs.size->¬(fr.1<=j/\j<fr.2))
def dc(G:aT)(w:World)(c:Cap)(B off len C sz:Nat):Prop:=
 match c with
 | .any=>True
 | .exact c=>C=c
 | .own t=>C=len\/(G.tdom t/\G.τ t=some (B,off+len*sz)/\Room w B (off+C*sz))
def kI(c:Cap):Prop:=
 match c with
 | .exact c=>c=0
 |_=>True
mutual
def aC(G:aT)(w:World):AV->Value->Prop
 | .any,_=>True
 | .int k n,v=>v= .int k n
 | .bool b,v=>v= .bool b
 | .str l,v=>v= .string ⟨l.toArray⟩
 | .sc x,v=>v=x
 | .sl sz xs c,v=>(xs=[]/\(∃a,v= .slice a 0 0)/\kI c)\/
   ∃B off C vs,v= .slice (some ⟨B,off,none⟩) xs.length C/\xs.length<=C/\vs.length=xs.length*sz/\aL G w sz xs vs/\Imm G w B off vs/\dc G w c B off xs.length C sz
 | .ref cs,v=>∃B off vs,v= .pointer (some ⟨B,off,none⟩)/\aE G w cs vs/\Imm G w B off vs
 | .agg cs,v=>∃vs,v= .agg vs.toArray/\aE G w cs vs
 | .tup xs,v=>∃vs,v= .tuple vs.toArray/\aE G w xs vs
 | .ptr id off,v=>G.dom id/\v= .pointer (some ⟨G.ι id,off,none⟩)
 | .tsl sz id off len cap,v=>G.dom id/\((∃C c T fr,v= .slice (some ⟨G.ι id,off,none⟩) len C/\(len<=C/\C<=9223372036854775807)/\(∀k,cap=some k->C=k)/\w.heap[G.ι id]? =some (.cells c T fr)/\off+C*sz<=c.size)\/
   (len=0/\(∃a,v= .slice (some a) 0 0)/\∀k,cap=some k->k=0))
 | .clo fn a b,v=>∃vs us,v= .func fn vs.toArray us.toArray/\aE G w a vs/\aE G w b us
 | .ifc t x,v=>∃u,v= .iface t u/\aC G w x u
 | .mp id,v=>G.dom id/\v= .map (some (G.ι id))
 | .yld id,v=>G.dom id/\v= .func (.yield (G.ι id)) #[] #[]
 | .slt sz xs ys,v=>∃B off C us vs,v= .slice (some ⟨B,off,none⟩) xs.length C/\xs.length+ys.length<=C/\us.length=xs.length*sz/\aL G w sz xs us/\aL G w sz ys vs/\Imm G w B off (us++vs)
 | .sup B,v=>∃l:List UInt8,v= .string ⟨l.toArray⟩/\l.length<=B
 | .supb B,v=>∃l:List UInt8,l.length<=B/\((l=[]/\∃a,v= .slice a 0 0)\/∃D off C,v= .slice (some ⟨D,off,none⟩) l.length C/\l.length<=C/\Imm G w D off (l.map λb=> .int .u8 b.toNat))
 | .wint k,v=>∃n,v= .int k n
 | .one,v=>One v
def aE(G:aT)(w:World):List AV->List Value->Prop
 |[],vs=>vs=[]
 |x::xs,vs=>∃v us,vs=v::us/\aC G w x v/\aE G w xs us
def aL(G:aT)(w:World)(sz:Nat):List AV->List Value->Prop
 |[],vs=>vs=[]
 |x::xs,vs=>∃v us,vs=v.cells.toList++us/\v.cells.size=sz/\aC G w x v/\aL G w sz xs us
end
structure BK where
 n:Nat
 d:List (Nat × List UInt8)
def JF:List (Nat × List UInt8)->Nat->List UInt8
 |[],_=>List.replicate 128 0
 |x::d,i=>match Nat.beq x.1 i with
  |true=>x.2
  |false=>JF d i
def u8I(l:List UInt8):List (IntKind × Int):=l.map λb=>(.u8,(b.toNat:Int))
def bkI(b:BK):List (IntKind × Int):=((List.range b.n).map λi=>u8I (JF b.d i)).flatten
def tG(l:List (IntKind × Int)):List Value:=l.map λp=>Value.int p.1 p.2
def AW(l:List (IntKind × Int)):List AV:=l.map λp=>AV.int p.1 p.2
def AX(b:BK):List AV:=AW (bkI b)
def J8(b:BK):Prop:=∀x∈b.d,x.2.length=128
inductive Obj where
 |cells (cs:List AV)
 |map (es:List (AV × AV))
 |loop (N:Nat) (t:Nat->AV) (ps:List Nat) (assign body:Code) (st:LoopState) (pend:Option Code)
 |raw (p:Option Go.Obj->Prop)
 |bk (b:BK)
def Entries(G:aT)(w:World):List (AV × AV)->List MapEntry->Prop
 |[],es=>es=[]
 |(k,v)::l,es=>∃e r,es=e::r/\aC G w k e.key/\aC G w v e.val/\Entries G w l r
def lE(G:aT)(w:World)(o:Obj)(x:Option Go.Obj):Prop:=
 match o with
 | .cells cs=>∃vs rest T fr,x=some (.cells (vs++rest).toArray T fr)/\aE G w cs vs/\fr.1=fr.2/\(∀v∈vs,One v)
 | .map es=>∃en clock,x=some (.map en clock)/\Entries G w es en.toList
 | .loop N t ps asg body st pend=>∃r:Loop,x=some (.loop r)/\r.tmps.size=N/\(∀i,aC G w (t i) (r.tmps.getD i undef))/\r.params.toList=ps/\r.assign=asg/\r.body=body/\r.state=st/\r.pending=pend
 | .raw p=>p x
 | .bk b=>J8 b/\∃rest T fr,x=some (.cells (tG (bkI b)++rest).toArray T fr)/\fr.1=fr.2
structure H where
 objs:Nat->Option Obj
 n:Nat
 toks:List Nat
 m:Nat
def H.O(h:H)(G:aT)(B:Nat):Prop:=∃id o,h.objs id=some o/\G.ι id=B
def H.T(h:H)(G:aT)(B:Nat):Prop:=∃t∈h.toks,∃e,G.τ t=some (B,e)
structure bj(G:aT)(h:H)(w:World):Prop where
 obj:∀id o,h.objs id=some o->G.dom id/\G.own (G.ι id)/\G.ι id<w.heap.size/\lE G w o w.heap[G.ι id]?
 inj:∀id id' o o',h.objs id=some o->h.objs id'=some o'->G.ι id=G.ι id'->id=id'
 tok:∀t∈h.toks,G.tdom t/\∀B e,G.τ t=some (B,e)->G.lim B=some e/\¬G.own B/\B<w.heap.size
 tinj:∀t∈h.toks,∀t'∈h.toks,∀B e e',G.τ t=some (B,e)->G.τ t'=some (B,e')->t=t'
def bS:Option Go.Obj->Option Go.Obj->Prop
 |some (.cells c T fr),x=>∃c' fr',x=some (.cells c' T fr')/\c'.size=c.size/\∀j,j<c.size->(fr'.1<=j/\j<fr'.2)->(fr.1<=j/\j<fr.2)
 |some (.map _ _),x=>∃e k,x=some (.map e k)
 |some (.loop _),x=>∃r,x=some (.loop r)
 |o,x=>x=o
structure Trans(G:aT)(w:World)(h:H)(G':aT)(w':World)(h':H):Prop where
 dom_le:∀id,G.dom id->G'.dom id
 dom_new:∀id,G'.dom id->G.dom id\/(h.n<=id/\id<h'.n)
 ι_eq:∀id,G.dom id->G'.ι id=G.ι id
 tdom_le:∀t,G.tdom t->G'.tdom t
 tdom_new:∀t,G'.tdom t->G.tdom t\/(h.m<=t/\t<h'.m)
 τ_eq:∀t,G.tdom t->G'.τ t=G.τ t
 n_le:h.n<=h'.n
 m_le:h.m<=h'.m
 size_le:w.heap.size<=w'.heap.size
 os:w'.os=w.os
 output:w'.output=w.output
 form:∀B,B<w.heap.size->bS w.heap[B]? w'.heap[B]?
 keep:∀B,B<w.heap.size->¬h.O G B->¬h.T G B->w'.heap[B]? =w.heap[B]?
 own_keep:∀B,B<w.heap.size->¬h.O G B->(G'.own B↔G.own B)
 lim_keep:∀B,B<w.heap.size->¬h.O G B->¬h.T G B->G'.lim B=G.lim B
 tok_keep:∀B,B<w.heap.size->h.T G B->¬h.O G B->(∀e,G.lim B=some e->(∀j,j<e->w'.cell? ⟨B,j,none⟩=w.cell? ⟨B,j,none⟩)/\(∀e',G'.lim B=some e'->e<=e'))
 O_new:∀B,B<w.heap.size->h'.O G' B->h.O G B
 T_new:∀B,B<w.heap.size->h'.T G' B->h.T G B
 objs_new:∀j o,h'.objs j=some o->(∃o',h.objs j=some o')\/(h.n<=j/\j<h'.n)
 toks_new:∀t,t∈h'.toks->t∈h.toks\/(h.m<=t/\t<h'.m)
def cB(G:aT)(h h':H):Prop:=(∀id,h.n<=id->id<h'.n->¬G.dom id)/\(∀t,h.m<=t->t<h'.m->¬G.tdom t)
def H.sub(h1 h:H):Prop:=(∀j o,h1.objs j=some o->h.objs j=some o)/\(∀t∈h1.toks,t∈h.toks)
def H.patch(h h1 h1':H):H where
 objs j:=if (h1.objs j).isSome\/(h1.n<=j/\j<h1'.n) then h1'.objs j else h.objs j
 n:=h1'.n
 toks:=h1'.toks++h.toks.filter (λt=> !h1.toks.contains t)
 m:=h1'.m
end Go.Av
end
section
namespace Go.Av
theorem Ht{w:World}{B off:Nat}{v:Value}(h:w.cell? ⟨B,off,none⟩=some v):B<w.heap.size:=by
 unfold World.cell? at h;by_cases hb:B<w.heap.size
 ·exact hb
 ·have:w.heap[B]? =none:=by simp;omega
  simp[this] at h
section
variable{G G':aT}{w w':World}{h h':H}
theorem Imm.mono(R:bj G h w)(T:Trans G w h G' w' h'){B off:Nat}{vs:List Value}(hi:Imm G w B off vs):Imm G' w' B off vs:=by
 intro i v hv;obtain ⟨hc,hone,hown,hlim⟩:=hi i v hv;have hB:=Ht hc;have hO:¬h.O G B:=by
  rintro ⟨id,o,ho,rfl⟩;exact hown (R.obj id o ho).2.1
 by_cases hT:h.T G B
 ·obtain ⟨t,ht,e,hte⟩:=id hT;have hl:=((R.tok t ht).2 B e hte).1;obtain ⟨k1,k2⟩:=T.tok_keep B hB hT hO e hl;exact ⟨(k1 _ (hlim e hl)).trans hc,hone,λho=>hown ((T.own_keep B hB hO).1 ho),λe' he'=>OT (hlim e hl) (k2 e' he')⟩
 ·refine ⟨?_,hone,λho=>hown ((T.own_keep B hB hO).1 ho),λe' he'=>hlim e' ((T.lim_keep B hB hO hT).symm.trans he')⟩;have:=T.keep B hB hO hT;unfold World.cell? at hc |-;simpa [this] using hc
theorem Room.mono(T:Trans G w h G' w' h'){B u:Nat}(hr:Room w B u):Room w' B u:=by
 obtain ⟨cs,Tt,fr,h1,h2,h3⟩:=hr;have hB:B<w.heap.size:=by
  rcases Py B w.heap.size with hb|hb
  ·exact hb
  ·have:w.heap[B]? =none:=by simp;omega
   simp[this] at h1
 have hf:=T.form B hB;rw[h1] at hf;obtain ⟨c',fr',he,hs,hfr⟩:=hf;exact ⟨c',Tt,fr',he,hs▸h2,λj hj hj2=>h3 j (hs▸hj) (hfr j (hs▸hj) hj2)⟩
theorem dc.mono(T:Trans G w h G' w' h'){c:Cap}{B off len C sz:Nat}(hc:dc G w c B off len C sz):dc G' w' c B off len C sz:=by
 cases c with
 |any=>trivial
 |exact c=>exact hc
 |own t=>
  rcases hc with hc|⟨h1,h2,h3⟩
  ·exact .inl hc
  ·exact .inr ⟨T.tdom_le t h1,(T.τ_eq t h1).trans h2,h3.mono T⟩
mutual
theorem aC.mono(R:bj G h w)(T:Trans G w h G' w' h'):∀(x:AV)(v:Value),aC G w x v->aC G' w' x v
 | .any,_,_=>trivial
 | .int k n,_,hv=>hv
 | .bool b,_,hv=>hv
 | .str l,_,hv=>hv
 | .sc x,_,hv=>hv
 | .sl sz xs c,v,hv=>by
  simp only[aC] at hv |-;rcases hv with hv|⟨B,off,C,vs,h1,h2,h3,h4,h5,h6⟩
  ·exact .inl hv
  ·exact .inr ⟨B,off,C,vs,h1,h2,h3,aL.mono R T sz xs vs h4,h5.mono R T,h6.mono T⟩
 | .ref cs,v,hv=>by
  simp only[aC] at hv |-;obtain ⟨B,off,vs,h1,h2,h3⟩:=hv;exact ⟨B,off,vs,h1,aE.mono R T cs vs h2,h3.mono R T⟩
 | .agg cs,v,hv=>by
  simp only[aC] at hv |-;obtain ⟨vs,h1,h2⟩:=hv;exact ⟨vs,h1,aE.mono R T cs vs h2⟩
 | .tup cs,v,hv=>by
  simp only[aC] at hv |-;obtain ⟨vs,h1,h2⟩:=hv;exact ⟨vs,h1,aE.mono R T cs vs h2⟩
 | .ptr id off,v,hv=>by
  simp only[aC] at hv |-;exact ⟨T.dom_le id hv.1,by rw[T.ι_eq id hv.1];exact hv.2⟩
 | .tsl sz id off len cap,v,hv=>by
  simp only[aC] at hv |-;obtain ⟨hd,hv⟩:=hv;refine ⟨T.dom_le id hd,?_⟩;rcases hv with ⟨C,c,Tt,fr,h1,h2,h3,h4,h5⟩|hv
  ·left;have hB:G.ι id<w.heap.size:=by
    rcases Py (G.ι id) w.heap.size with hb|hb
    ·exact hb
    ·have:w.heap[G.ι id]? =none:=by simp;omega
     rw[this] at h4;cases h4
   have hf:=T.form _ hB;rw[h4] at hf;obtain ⟨c',fr',he,hs,-⟩:=hf;rw[T.ι_eq id hd];exact ⟨C,c',Tt,fr',h1,h2,h3,he,by rw[hs];exact h5⟩
  ·exact .inr hv
 | .clo fn a b,v,hv=>by
  simp only[aC] at hv |-;obtain ⟨vs,us,h1,h2,h3⟩:=hv;exact ⟨vs,us,h1,aE.mono R T a vs h2,aE.mono R T b us h3⟩
 | .ifc t x,v,hv=>by
  simp only[aC] at hv |-;obtain ⟨u,h1,h2⟩:=hv;exact ⟨u,h1,aC.mono R T x u h2⟩
 | .mp id,v,hv=>by
  simp only[aC] at hv |-;exact ⟨T.dom_le id hv.1,by rw[T.ι_eq id hv.1];exact hv.2⟩
 | .yld id,v,hv=>by
  simp only[aC] at hv |-;exact ⟨T.dom_le id hv.1,by rw[T.ι_eq id hv.1];exact hv.2⟩
 | .slt sz xs ys,v,hv=>by
  simp only[aC] at hv |-;obtain ⟨B,off,C,us,vs,h1,h2,h3,h4,h5,h6⟩:=hv;exact ⟨B,off,C,us,vs,h1,h2,h3,aL.mono R T sz xs us h4,aL.mono R T sz ys vs h5,h6.mono R T⟩
 | .sup B,v,hv=>by simpa only[aC] using hv
 | .supb B,v,hv=>by
  simp only[aC] at hv |-;obtain ⟨l,h1,h2|⟨D,off,C,h2,h3,h4⟩⟩:=hv
  ·exact ⟨l,h1,.inl h2⟩
  ·exact ⟨l,h1,.inr ⟨D,off,C,h2,h3,h4.mono R T⟩⟩
 | .wint k,v,hv=>by simpa only[aC] using hv
 | .one,v,hv=>by simpa only[aC] using hv
theorem aE.mono(R:bj G h w)(T:Trans G w h G' w' h'):∀(x:List AV)(v:List Value),aE G w x v->aE G' w' x v
 |[],_,hv=>by simpa only[aE] using hv
 |x::xs,vs,hv=>by
  simp only[aE] at hv |-;obtain ⟨v,us,h1,h2,h3⟩:=hv;exact ⟨v,us,h1,aC.mono R T x v h2,aE.mono R T xs us h3⟩
theorem aL.mono(R:bj G h w)(T:Trans G w h G' w' h')(sz:Nat):∀(x:List AV)(v:List Value),aL G w sz x v->aL G' w' sz x v
 |[],_,hv=>by simpa only[aL] using hv
 |x::xs,vs,hv=>by
  simp only[aL] at hv |-;obtain ⟨v,us,h1,h2,h3,h4⟩:=hv;exact ⟨v,us,h1,h2,aC.mono R T x v h3,aL.mono R T sz xs us h4⟩
end
theorem Entries.mono(R:bj G h w)(T:Trans G w h G' w' h'):∀(l:List (AV × AV))(e:List MapEntry),Entries G w l e->Entries G' w' l e
 |[],_,hv=>hv
 |(k,v)::l,es,hv=>by
  obtain ⟨e,r,h1,h2,h3,h4⟩:=hv;exact ⟨e,r,h1,aC.mono R T k _ h2,aC.mono R T v _ h3,Entries.mono R T l r h4⟩
theorem lE.mono(R:bj G h w)(T:Trans G w h G' w' h'){o:Obj}{x:Option Go.Obj}(hx:lE G w o x):lE G' w' o x:=by
 cases o with
 |cells cs=>
  obtain ⟨vs,rest,Tt,fr,h1,h2,h3⟩:=hx;exact ⟨vs,rest,Tt,fr,h1,aE.mono R T _ _ h2,h3⟩
 |map es=>
  obtain ⟨en,k,h1,h2⟩:=hx;exact ⟨en,k,h1,Entries.mono R T _ _ h2⟩
 |loop N t ps asg body st pend=>
  obtain ⟨r,h1,h2,h3,h4⟩:=hx;exact ⟨r,h1,h2,λi=>aC.mono R T _ _ (h3 i),h4⟩
 |raw c=>exact hx
 |bk c=>exact hx
theorem bS.refl(o:Option Go.Obj):bS o o:=by
 cases o with
 |none=>rfl
 |some o=>cases o<;>first|exact ⟨_,_,rfl,rfl,λ_ _ h=>h⟩|exact ⟨_,_,rfl⟩|exact ⟨_,rfl⟩|rfl
theorem bS.trans{a b c:Option Go.Obj}(h1:bS a b)(h2:bS b c):bS a c:=by
 cases a with
 |none=>cases h1;exact h2
 |some o=>
  cases o with
  |cells cs T fr=>
   obtain ⟨c1,f1,rfl,e1,g1⟩:=h1;obtain ⟨c2,f2,rfl,e2,g2⟩:=h2;exact ⟨c2,f2,rfl,e2.trans e1,λj hj h=>g1 j hj (g2 j (e1▸hj) h)⟩
  |map e k=>
   obtain ⟨_,_,rfl⟩:=h1;exact h2
  |loop r=>
   obtain ⟨_,rfl⟩:=h1;exact h2
  |_=>cases h1;exact h2
theorem Trans.refl(G:aT)(w:World)(h:H):Trans G w h G w h where
 dom_le _ x:=x
 dom_new _ x:= .inl x
 ι_eq _ _:=rfl
 tdom_le _ x:=x
 tdom_new _ x:= .inl x
 τ_eq _ _:=rfl
 n_le:=N4 _
 m_le:=N4 _
 size_le:=N4 _
 os:=rfl
 output:=rfl
 form _ _:=bS.refl _
 keep _ _ _ _:=rfl
 own_keep _ _ _:=QL
 lim_keep _ _ _ _:=rfl
 tok_keep _ _ _ _ e he:=⟨λ_ _=>rfl,λe' he'=>by rw[he] at he';cases he';exact N4 _⟩
 O_new _ _ x:=x
 T_new _ _ x:=x
 objs_new _ o x:= .inl ⟨o,x⟩
 toks_new _ x:= .inl x
theorem Trans.trans'{G'':aT}{w'':World}{h2 h'':H}(R:bj G h w)(T1:Trans G w h G' w' h')(ho:h2.objs=h'.objs)(ht:∀t,t∈h2.toks↔t∈h'.toks)(n1:h.n<=h2.n)(n2:h'.n<=h''.n)(n3:h.n<=h''.n)(m1:h.m<=h2.m)(m2:h'.m<=h''.m)(m3:h.m<=h''.m)
  (R1:bj G' h' w') (T2:Trans G' w' h2 G'' w'' h''):Trans G w h G'' w'' h'':=by
 have eO:∀B,h2.O G' B↔h'.O G' B:=λB=>by simp[H.O,ho]
 have eT:∀B,h2.T G' B↔h'.T G' B:=λB=>by simp[H.T,ht]
 constructor
 ·exact λid x=>T2.dom_le id (T1.dom_le id x)
 ·intro id x;rcases T2.dom_new id x with y|⟨a,b⟩
  ·exact (T1.dom_new id y).imp (λz=>z) λz=>⟨z.1,OT z.2 n2⟩
  ·exact .inr ⟨OI n1 a,b⟩
 ·exact λid x=>(T2.ι_eq id (T1.dom_le id x)).trans (T1.ι_eq id x)
 ·exact λid x=>T2.tdom_le id (T1.tdom_le id x)
 ·intro id x;rcases T2.tdom_new id x with y|⟨a,b⟩
  ·exact (T1.tdom_new id y).imp (λz=>z) λz=>⟨z.1,OT z.2 m2⟩
  ·exact .inr ⟨OI m1 a,b⟩
 ·exact λid x=>(T2.τ_eq id (T1.tdom_le id x)).trans (T1.τ_eq id x)
 ·exact n3
 ·exact m3
 ·exact OI T1.size_le T2.size_le
 ·exact T2.os.trans T1.os
 ·exact T2.output.trans T1.output
 ·exact λB hB=>(T1.form B hB).trans (T2.form B (OT hB T1.size_le))
 ·exact λB hB hO hT=>(T2.keep B (OT hB T1.size_le) (λx=>hO (T1.O_new B hB ((eO B).1 x))) (λx=>hT (T1.T_new B hB ((eT B).1 x)))).trans (T1.keep B hB hO hT)
 ·exact λB hB hO=>(T2.own_keep B (OT hB T1.size_le) (λx=>hO (T1.O_new B hB ((eO B).1 x)))).trans (T1.own_keep B hB hO)
 ·exact λB hB hO hT=>(T2.lim_keep B (OT hB T1.size_le) (λx=>hO (T1.O_new B hB ((eO B).1 x))) (λx=>hT (T1.T_new B hB ((eT B).1 x)))).trans (T1.lim_keep B hB hO hT)
 ·intro B hB hT hO e he;have hB':=OT hB T1.size_le;have hO':¬h2.O G' B:=λx=>hO (T1.O_new B hB ((eO B).1 x));obtain ⟨k1,k2⟩:=T1.tok_keep B hB hT hO e he;by_cases hT':h2.T G' B
  ·obtain ⟨t,ht,e1,he1⟩:=(eT B).1 hT';have hl:=((R1.tok t ht).2 B e1 he1).1;have hle:=k2 e1 hl;obtain ⟨j1,j2⟩:=T2.tok_keep B hB' hT' hO' e1 hl;exact ⟨λj hj=>(j1 j (OT hj hle)).trans (k1 j hj),λe' he'=>OI hle (j2 e' he')⟩
  ·have hk:=T2.keep B hB' hO' hT';have hl:=T2.lim_keep B hB' hO' hT';refine ⟨λj hj=>?_,λe' he'=>k2 e' (hl.symm.trans he')⟩;rw[<-k1 j hj];unfold World.cell?;simp only[hk]
 ·exact λB hB x=>T1.O_new B hB ((eO B).1 (T2.O_new B (OT hB T1.size_le) x))
 ·exact λB hB x=>T1.T_new B hB ((eT B).1 (T2.T_new B (OT hB T1.size_le) x))
 ·intro j o x;rcases T2.objs_new j o x with ⟨o',y⟩|⟨a,b⟩
  ·rw[ho] at y;exact (T1.objs_new j o' y).imp (λz=>z) λz=>⟨z.1,OT z.2 n2⟩
  ·exact .inr ⟨OI n1 a,b⟩
 ·intro j x;rcases T2.toks_new j x with y|⟨a,b⟩
  ·exact (T1.toks_new j ((ht j).1 y)).imp (λz=>z) λz=>⟨z.1,OT z.2 m2⟩
  ·exact .inr ⟨OI m1 a,b⟩
theorem Trans.trans{G'':aT}{w'':World}{h'':H}(R:bj G h w)(T1:Trans G w h G' w' h')(R1:bj G' h' w')(T2:Trans G' w' h' G'' w'' h''):Trans G w h G'' w'' h'':=
 T1.trans' R rfl (λ_=>QL) T1.n_le T2.n_le (OI T1.n_le T2.n_le) T1.m_le T2.m_le (OI T1.m_le T2.m_le) R1 T2
theorem bj.same{h2:H}(R:bj G h w)(ho:h2.objs=h.objs)(ht:∀t,t∈h2.toks->t∈h.toks):bj G h2 w where
 obj id o x:=R.obj id o (by rw[<-ho];exact x)
 inj id id' o o' x y:=R.inj id id' o o' (by rw[<-ho];exact x) (by rw[<-ho];exact y)
 tok t x:=R.tok t (ht t x)
 tinj t x t' y:=R.tinj t (ht t x) t' (ht t' y)
theorem Trans.same{h2 h2':H}(T:Trans G w h G' w' h')(ho:h2.objs=h.objs)(ht:∀t,t∈h2.toks↔t∈h.toks)(ho':h2'.objs=h'.objs)(ht':∀t,t∈h2'.toks↔t∈h'.toks)(n1:h2.n<=h.n)(n2:h'.n<=h2'.n)(n3:h2.n<=h2'.n)(m1:h2.m<=h.m)(m2:h'.m<=h2'.m)(m3:h2.m<=h2'.m):
  Trans G w h2 G' w' h2':=by
 have eO:∀G B,h2.O G B↔h.O G B:=λG B=>by simp[H.O,ho]
 have eT:∀G B,h2.T G B↔h.T G B:=λG B=>by simp[H.T,ht]
 have eO':∀G B,h2'.O G B↔h'.O G B:=λG B=>by simp[H.O,ho']
 have eT':∀G B,h2'.T G B↔h'.T G B:=λG B=>by simp[H.T,ht']
 constructor
 ·exact T.dom_le
 ·exact λid x=>(T.dom_new id x).imp (λz=>z) λz=>⟨OI n1 z.1,OT z.2 n2⟩
 ·exact T.ι_eq
 ·exact T.tdom_le
 ·exact λid x=>(T.tdom_new id x).imp (λz=>z) λz=>⟨OI m1 z.1,OT z.2 m2⟩
 ·exact T.τ_eq
 ·exact n3
 ·exact m3
 ·exact T.size_le
 ·exact T.os
 ·exact T.output
 ·exact T.form
 ·exact λB hB a b=>T.keep B hB (λx=>a ((eO _ B).2 x)) (λx=>b ((eT _ B).2 x))
 ·exact λB hB a=>T.own_keep B hB (λx=>a ((eO _ B).2 x))
 ·exact λB hB a b=>T.lim_keep B hB (λx=>a ((eO _ B).2 x)) (λx=>b ((eT _ B).2 x))
 ·exact λB hB a b=>T.tok_keep B hB ((eT _ B).1 a) (λx=>b ((eO _ B).2 x))
 ·exact λB hB x=>(eO _ B).2 (T.O_new B hB ((eO' _ B).1 x))
 ·exact λB hB x=>(eT _ B).2 (T.T_new B hB ((eT' _ B).1 x))
 ·exact λj o x=>by
   rw[ho'] at x;rw[ho];exact (T.objs_new j o x).imp (λz=>z) λz=>⟨OI n1 z.1,OT z.2 n2⟩
 ·exact λt x=>((T.toks_new t ((ht' t).1 x)).imp (λz=>(ht t).2 z) λz=>⟨OI m1 z.1,OT z.2 m2⟩)
theorem H.Er(h:H):h.sub h:=⟨λ_ _ x=>x,λ_ x=>x⟩
theorem bj.sub{h1:H}(R:bj G h w)(hs:h1.sub h):bj G h1 w where
 obj id o ho:=R.obj id o (hs.1 id o ho)
 inj id id' o o' ho ho':=R.inj id id' o o' (hs.1 id o ho) (hs.1 id' o' ho')
 tok t ht:=R.tok t (hs.2 t ht)
 tinj t ht t' ht':=R.tinj t (hs.2 t ht) t' (hs.2 t' ht')
theorem frame{h1 h1':H}(R:bj G h w)(hs:h1.sub h)(hn:h1.n=h.n)(hm:h1.m=h.m)(R1:bj G' h1' w')(T:Trans G w h1 G' w' h1')(F:cB G h1 h1'):
  bj G' (h.patch h1 h1') w'/\Trans G w h G' w' (h.patch h1 h1'):=by
 have hO:∀B,h1.O G B->h.O G B:=λB ⟨id,o,ho,e⟩=>⟨id,o,hs.1 id o ho,e⟩;have hT:∀B,h1.T G B->h.T G B:=λB ⟨t,ht,e⟩=>⟨t,hs.2 t ht,e⟩;have R0:=R.sub hs;have rest:∀id o,(h.patch h1 h1').objs id=some o->(h1'.objs id=some o)\/(h.objs id=some o/\h1.objs id=none/\¬h1.O G (G.ι id)):=by
  intro id o ho;simp only[H.patch] at ho;split at ho
  ·exact .inl ho
  ·rename_i hc;refine .inr ⟨ho,?_,?_⟩
   ·cases hh:h1.objs id with
    |none=>rfl
    |some o'=>exact absurd (.inl (by simp[hh])) hc
   ·rintro ⟨id0,o0,ho0,e⟩;have:=R.inj id0 id o0 o (hs.1 _ _ ho0) ho e;subst this;exact hc (.inl (by simp[ho0]))
 have trest:∀t,t∈(h.patch h1 h1').toks->t∈h1'.toks\/(t∈h.toks/\t∉h1.toks):=by
  intro t ht;simp only[H.patch,OS,Pe] at ht;rcases ht with ht|⟨ht,hc⟩
  ·exact .inl ht
  ·exact .inr ⟨ht,by simpa using hc⟩
 have tnot:∀t,t∈h.toks->t∉h1.toks->∀B e,G.τ t=some (B,e)->¬h1.T G B/\¬h1.O G B:=by
  intro t ht hnt B e he;refine ⟨?_,?_⟩
  ·rintro ⟨t0,ht0,e0,he0⟩;exact hnt (R.tinj t ht t0 (hs.2 t0 ht0) B e e0 he he0▸ht0)
  ·rintro ⟨id,o,ho,rfl⟩;exact ((R.tok t ht).2 _ e he).2.1 (R0.obj id o ho).2.1
 have RR:bj G' (h.patch h1 h1') w':=by
  constructor
  ·intro id o ho;rcases rest id o ho with ho|⟨ho,h1n,hno⟩
   ·exact R1.obj id o ho
   ·obtain ⟨a1,a2,a3,a4⟩:=R.obj id o ho;have e:=T.ι_eq id a1;have hnT:¬h1.T G (G.ι id):=λ⟨t,ht,ee,he⟩=>((R0.tok t ht).2 _ ee he).2.1 a2;refine ⟨T.dom_le id a1,?_,?_,?_⟩
    ·rw[e];exact (T.own_keep _ a3 hno).2 a2
    ·rw[e];exact OT a3 T.size_le
    ·rw[e,T.keep _ a3 hno hnT];exact a4.mono R0 T
  ·intro id id' o o' ho ho' e;rcases rest id o ho with ho|⟨ho,h1n,hno⟩ <;>rcases rest id' o' ho' with ho'|⟨ho',h1n',hno'⟩
   ·exact R1.inj id id' o o' ho ho' e
   ·exfalso;have e':=T.ι_eq id' (R.obj id' o' ho').1;exact hno' (T.O_new _ (R.obj id' o' ho').2.2.1 ⟨id,o,ho,e.trans e'⟩)
   ·exfalso;have e':=T.ι_eq id (R.obj id o ho).1;exact hno (T.O_new _ (R.obj id o ho).2.2.1 ⟨id',o',ho',e.symm.trans e'⟩)
   ·exact R.inj id id' o o' ho ho' (by rw[<-T.ι_eq id (R.obj id o ho).1,<-T.ι_eq id' (R.obj id' o' ho').1];exact e)
  ·intro t ht;rcases trest t ht with ht|⟨ht,hnt⟩
   ·exact R1.tok t ht
   ·obtain ⟨a1,a2⟩:=R.tok t ht;refine ⟨T.tdom_le t a1,λB e he=>?_⟩;rw[T.τ_eq t a1] at he;obtain ⟨b1,b2,b3⟩:=a2 B e he;obtain ⟨n1,n2⟩:=tnot t ht hnt B e he;exact ⟨(T.lim_keep B b3 n2 n1).trans b1,λho=>b2 ((T.own_keep B b3 n2).1 ho),OT b3 T.size_le⟩
  ·intro t ht t' ht' B e e' he he';rcases trest t ht with ht|⟨ht,hnt⟩ <;>rcases trest t' ht' with ht'|⟨ht',hnt'⟩
   ·exact R1.tinj t ht t' ht' B e e' he he'
   ·exfalso;rw[T.τ_eq t' (R.tok t' ht').1] at he';exact (tnot t' ht' hnt' B e' he').1 (T.T_new B ((R.tok t' ht').2 B e' he').2.2 ⟨t,ht,e,he⟩)
   ·exfalso;rw[T.τ_eq t (R.tok t ht).1] at he;exact (tnot t ht hnt B e he).1 (T.T_new B ((R.tok t ht).2 B e he).2.2 ⟨t',ht',e',he'⟩)
   ·rw[T.τ_eq t (R.tok t ht).1] at he;rw[T.τ_eq t' (R.tok t' ht').1] at he';exact R.tinj t ht t' ht' B e e' he he'
 refine ⟨RR,?_⟩;constructor
 ·exact T.dom_le
 ·intro id x;rw[<-hn];exact T.dom_new id x
 ·exact T.ι_eq
 ·exact T.tdom_le
 ·intro id x;rw[<-hm];exact T.tdom_new id x
 ·exact T.τ_eq
 ·rw[<-hn];exact T.n_le
 ·rw[<-hm];exact T.m_le
 ·exact T.size_le
 ·exact T.os
 ·exact T.output
 ·exact T.form
 ·exact λB hB a b=>T.keep B hB (λx=>a (hO B x)) (λx=>b (hT B x))
 ·exact λB hB a=>T.own_keep B hB (λx=>a (hO B x))
 ·exact λB hB a b=>T.lim_keep B hB (λx=>a (hO B x)) (λx=>b (hT B x))
 ·intro B hB ht ho e he;by_cases hT1:h1.T G B
  ·exact T.tok_keep B hB hT1 (λx=>ho (hO B x)) e he
  ·have hk:=T.keep B hB (λx=>ho (hO B x)) hT1;have hl:=T.lim_keep B hB (λx=>ho (hO B x)) hT1;refine ⟨λj _=>?_,λe' he'=>?_⟩
   ·unfold World.cell?;simp only[hk]
   ·rw[hl,he] at he';cases he';exact N4 _
 ·rintro B hB ⟨id,o,ho,e⟩;rcases rest id o ho with ho|⟨ho,h1n,hno⟩
  ·exact hO B (T.O_new B hB ⟨id,o,ho,e⟩)
  ·exact ⟨id,o,ho,(T.ι_eq id (R.obj id o ho).1).symm.trans e⟩
 ·rintro B hB ⟨t,ht,e,he⟩;rcases trest t ht with ht|⟨ht,hnt⟩
  ·exact hT B (T.T_new B hB ⟨t,ht,e,he⟩)
  ·exact ⟨t,ht,e,(T.τ_eq t (R.tok t ht).1).symm.trans he⟩
 ·intro j o ho;rcases rest j o ho with ho|⟨ho,_⟩
  ·rw[<-hn];exact (T.objs_new j o ho).imp (λ⟨o',z⟩=>⟨o',hs.1 j o' z⟩) λz=>z
  ·exact .inl ⟨o,ho⟩
 ·intro t ht;rcases trest t ht with ht|⟨ht,_⟩
  ·rw[<-hm];exact (T.toks_new t ht).imp (λz=>hs.2 t z) λz=>z
  ·exact .inl ht
end
structure eC(D:Nat)(w w':World):Prop where
 size:w'.heap.size=w.heap.size
 same:∀B,B≠D->w'.heap[B]? =w.heap[B]?
 no:∀c T fr,w.heap[D]? ≠some (.cells c T fr)
 os:w'.os=w.os
 out:w'.output=w.output
section
variable{D:Nat}{G:aT}{w w':World}
theorem eC.cell(t:eC D w w'){B off:Nat}{v:Value}(h:w.cell? ⟨B,off,none⟩=some v):w'.cell? ⟨B,off,none⟩=some v:=by
 by_cases e:B=D
 ·subst e;have no:=t.no;unfold World.cell? at h;cases hh:w.heap[B]? with
  |none=>simp[hh] at h
  |some o=>
   cases o with
   |cells c T fr=>exact absurd hh (no _ _ _)
   |_=>simp[hh] at h
 ·have:=t.same B e;unfold World.cell? at h |-;simpa [this] using h
theorem eC.heap(t:eC D w w'){B:Nat}{c:Array Value}{T:TypeId}{fr:Nat × Nat}(h:w.heap[B]? =some (.cells c T fr)):w'.heap[B]? =some (.cells c T fr):=by
 by_cases e:B=D
 ·subst e;exact absurd h (t.no _ _ _)
 ·rw[t.same B e];exact h
theorem Imm.dP(t:eC D w w'){B off:Nat}{vs:List Value}(h:Imm G w B off vs):Imm G w' B off vs:=λi v hv=>
 ⟨t.cell (h i v hv).1,(h i v hv).2⟩
theorem dc.dP(t:eC D w w'){c:Cap}{B off len C sz:Nat}(h:dc G w c B off len C sz):dc G w' c B off len C sz:=by
 cases c with
 |any=>trivial
 |exact c=>exact h
 |own k=>
  rcases h with h|⟨h1,h2,cs,T,fr,h3,h4⟩
  ·exact .inl h
  ·exact .inr ⟨h1,h2,cs,T,fr,t.heap h3,h4⟩
mutual
theorem aC.dP(t:eC D w w'):∀(x:AV)(v:Value),aC G w x v->aC G w' x v
 | .any,_,_=>trivial
 | .int k n,_,hv=>hv
 | .bool b,_,hv=>hv
 | .str l,_,hv=>hv
 | .sc x,_,hv=>hv
 | .sl sz xs c,v,hv=>by
  simp only[aC] at hv |-;rcases hv with hv|⟨B,off,C,vs,h1,h2,h3,h4,h5,h6⟩
  ·exact .inl hv
  ·exact .inr ⟨B,off,C,vs,h1,h2,h3,aL.dP t sz xs vs h4,h5.dP t,h6.dP t⟩
 | .ref cs,v,hv=>by
  simp only[aC] at hv |-;obtain ⟨B,off,vs,h1,h2,h3⟩:=hv;exact ⟨B,off,vs,h1,aE.dP t cs vs h2,h3.dP t⟩
 | .agg cs,v,hv=>by
  simp only[aC] at hv |-;obtain ⟨vs,h1,h2⟩:=hv;exact ⟨vs,h1,aE.dP t cs vs h2⟩
 | .tup cs,v,hv=>by
  simp only[aC] at hv |-;obtain ⟨vs,h1,h2⟩:=hv;exact ⟨vs,h1,aE.dP t cs vs h2⟩
 | .ptr id off,v,hv=>by simpa only[aC] using hv
 | .tsl sz id off len cap,v,hv=>by
  simp only[aC] at hv |-;obtain ⟨hd,hv⟩:=hv;refine ⟨hd,?_⟩;rcases hv with ⟨C,c,Tt,fr,h1,h2,h3,h4,h5⟩|hv
  ·exact .inl ⟨C,c,Tt,fr,h1,h2,h3,t.heap h4,h5⟩
  ·exact .inr hv
 | .clo fn a b,v,hv=>by
  simp only[aC] at hv |-;obtain ⟨vs,us,h1,h2,h3⟩:=hv;exact ⟨vs,us,h1,aE.dP t a vs h2,aE.dP t b us h3⟩
 | .ifc k x,v,hv=>by
  simp only[aC] at hv |-;obtain ⟨u,h1,h2⟩:=hv;exact ⟨u,h1,aC.dP t x u h2⟩
 | .mp id,v,hv=>by simpa only[aC] using hv
 | .yld id,v,hv=>by simpa only[aC] using hv
 | .slt sz xs ys,v,hv=>by
  simp only[aC] at hv |-;obtain ⟨B,off,C,us,vs,h1,h2,h3,h4,h5,h6⟩:=hv;exact ⟨B,off,C,us,vs,h1,h2,h3,aL.dP t sz xs us h4,aL.dP t sz ys vs h5,h6.dP t⟩
 | .sup B,v,hv=>by simpa only[aC] using hv
 | .supb B,v,hv=>by
  simp only[aC] at hv |-;obtain ⟨l,h1,h2|⟨D,off,C,h2,h3,h4⟩⟩:=hv
  ·exact ⟨l,h1,.inl h2⟩
  ·exact ⟨l,h1,.inr ⟨D,off,C,h2,h3,h4.dP t⟩⟩
 | .wint k,v,hv=>by simpa only[aC] using hv
 | .one,v,hv=>by simpa only[aC] using hv
theorem aE.dP(t:eC D w w'):∀(x:List AV)(v:List Value),aE G w x v->aE G w' x v
 |[],_,hv=>by simpa only[aE] using hv
 |x::xs,vs,hv=>by
  simp only[aE] at hv |-;obtain ⟨v,us,h1,h2,h3⟩:=hv;exact ⟨v,us,h1,aC.dP t x v h2,aE.dP t xs us h3⟩
theorem aL.dP(t:eC D w w')(sz:Nat):∀(x:List AV)(v:List Value),aL G w sz x v->aL G w' sz x v
 |[],_,hv=>by simpa only[aL] using hv
 |x::xs,vs,hv=>by
  simp only[aL] at hv |-;obtain ⟨v,us,h1,h2,h3,h4⟩:=hv;exact ⟨v,us,h1,h2,aC.dP t x v h3,aL.dP t sz xs us h4⟩
end
theorem Entries.dP(t:eC D w w'):∀(l:List (AV × AV))(e:List MapEntry),Entries G w l e->Entries G w' l e
 |[],_,hv=>hv
 |(k,v)::l,es,hv=>by
  obtain ⟨e,r,h1,h2,h3,h4⟩:=hv;exact ⟨e,r,h1,aC.dP t k _ h2,aC.dP t v _ h3,Entries.dP t l r h4⟩
theorem lE.dP(t:eC D w w'){o:Obj}{x:Option Go.Obj}(hx:lE G w o x):lE G w' o x:=by
 cases o with
 |cells cs=>
  obtain ⟨vs,rest,Tt,fr,h1,h2,h3⟩:=hx;exact ⟨vs,rest,Tt,fr,h1,aE.dP t _ _ h2,h3⟩
 |map es=>
  obtain ⟨en,k,h1,h2⟩:=hx;exact ⟨en,k,h1,Entries.dP t _ _ h2⟩
 |loop N tt ps asg body st pend=>
  obtain ⟨r,h1,h2,h3,h4⟩:=hx;exact ⟨r,h1,h2,λi=>aC.dP t _ _ (h3 i),h4⟩
 |raw c=>exact hx
 |bk c=>exact hx
theorem bj.dP{h:H}(R:bj G h w)(t:eC D w w')(hD:¬h.O G D):bj G h w' where
 obj id o ho:=by
  obtain ⟨a,b,c,d⟩:=R.obj id o ho;have hne:G.ι id≠D:=λe=>hD ⟨id,o,ho,e⟩;exact ⟨a,b,by rw[t.size];exact c,by rw[t.same _ hne];exact d.dP t⟩
 inj:=R.inj
 tok k hk:=⟨(R.tok k hk).1,λB e he=>by rw[t.size];exact (R.tok k hk).2 B e he⟩
 tinj:=R.tinj
theorem Trans.dP{G0:aT}{w0:World}{h0 h:H}(T:Trans G0 w0 h0 G w h)(t:eC D w w')(hD:w0.heap.size<=D):Trans G0 w0 h0 G w' h where
 dom_le:=T.dom_le
 dom_new:=T.dom_new
 ι_eq:=T.ι_eq
 tdom_le:=T.tdom_le
 tdom_new:=T.tdom_new
 τ_eq:=T.τ_eq
 n_le:=T.n_le
 m_le:=T.m_le
 size_le:=by rw[t.size];exact T.size_le
 os:=t.os.trans T.os
 output:=t.out.trans T.output
 form B hB:=by rw[t.same B ae];exact T.form B hB
 keep B hB h1 h2:=by rw[t.same B ae];exact T.keep B hB h1 h2
 own_keep:=T.own_keep
 lim_keep:=T.lim_keep
 tok_keep B hB h1 h2 e he:=⟨λj hj=>by
  have:=(T.tok_keep B hB h1 h2 e he).1 j hj;rw[<-this];have hs:=t.same B ae;unfold World.cell?;simp only[hs],(T.tok_keep B hB h1 h2 e he).2⟩
 O_new:=T.O_new
 T_new:=T.T_new
 objs_new:=T.objs_new
 toks_new:=T.toks_new
end
end Go.Av
end
section
namespace Go.Av
inductive Opd where
 |t (i:Nat)
 |c (a:AV)
inductive CK where
 |toInt (k:IntKind)
 |b2s
 |s2b
 |s2s
 |idem
inductive EK where
 |int
 |bool
 |str
 deriving DecidableEq
inductive RK where
 |i2f (k:FloatKind)
 |f2i (k:IntKind)
 |cplx
 |cpart (re:Bool)
 |fbits
 |fofbits
 |ibyte
 |aidx (sz:Nat) (n:Option Nat) (len:Nat)
 |paddr (sz len:Nat)
 |abuild (zero:List AV) (ps:List (Nat × Nat))
 |slp (sz len:Nat)
 |cpy
 |s2a (len:Nat)
 |eqarr (neg:Bool) (len:Nat) (k:EK)
inductive AOp where
 |mov (x:Opd)
 |pick (c a b:Opd)
 |alloc (zero:List AV)
 |box (x:Opd)
 |build (zero:List AV) (parts:List (Nat × Nat × Opd))
 |buildSl (sz:Nat) (parts:List Opd)
 |load (n:Option Nat) (x:Opd)
 |store (n:Nat) (x v:Opd)
 |bin (op:BinOp) (x y:Opd)
 |eqB (neg:Bool) (x y:Opd)
 |eqP (neg:Bool) (x y:Opd)
 |eqQ (neg:Bool) (x y:Opd)
 |eqN (neg:Bool) (x:Opd)
 |eqA (neg:Bool) (ks:List EK) (x y:Opd)
 |un (op:UnOp) (x:Opd)
 |conv (k:CK) (x:Opd)
 |mkfn (fn:Fn) (first captured:List Opd)
 |mksl (sz bytes:Nat) (zero:AV) (len cap:Opd)
 |slc (str:Bool) (sz:Nat) (x:Opd) (lo hi mx:Option Opd)
 |faddr (off:Nat) (x:Opd)
 |fld (off:Nat) (n:Option Nat) (x:Opd)
 |iaddr (sz:Nat) (x i:Opd)
 |idx (x i:Opd)
 |ext (x:Opd) (i:Nat)
 |nilck (x:Opd)
 |len (str:Bool) (x:Opd)
 |app (str:Bool) (sz bytes:Nat) (s x:Opd)
 |appz (bytes:Nat) (zero:AV) (sz:Nat) (s x:Opd)
 |mm (mx:Bool) (x y:Opd)
 |clr (sz:Nat) (zero:List AV) (x:Opd)
 |mkmap
 |mlook (zero:AV) (ok:Bool) (x key:Opd)
 |mput (x key v:Opd)
 |mdel (x key:Opd)
 |mlen (x:Opd)
 |mlookK (ks:List EK) (zero:AV) (ok:Bool) (x key:Opd)
 |mputK (ks:List EK) (x key v:Opd)
 |mdelK (ks:List EK) (x key:Opd)
 |eqM (neg:Bool) (x:Opd)
 |cap (x:Opd)
 |ifc (t:TypeId) (x:Opd)
 |pan (x:Opd)
 |dead
 |raw (k:RK) (xs:List Opd)
 |call (f:FuncId) (args:List Opd)
 |callv (x:Opd) (args:List Opd)
structure Ent where
 rd:List Nat
 wr:List Nat
 tk:List Nat
def aU:Ent:=⟨[],[],[]⟩
def upd{α:Type}(f:Nat->α)(i:Nat)(v:α):Nat->α:=λj=>if j=i then v else f j
abbrev Tm:=Nat->AV
def ev(t:Tm):Opd->AV
 | .t i=>t i
 | .c a=>a
def cL:AV->Bool
 | .any| .agg _| .tup _=>false
 | .sc (.agg _)| .sc (.tuple _)=>false
 |_=>true
def shaped(x:AV):Bool:=cL x||(match x with| .agg cs=>cs.all cL|_=>false)
def cellsOf:AV->List AV
 | .agg cs=>cs
 |x=>[x]
def byte(b:UInt8):AV:= .int .u8 b.toNat
def aD(l:List UInt8):List AV:=l.map byte
def yD:AV->Option UInt8
 | .int .u8 n=>some (UInt8.ofNat n.toNat)
 |_=>none
def gX:List AV->Option (List UInt8)
 |[]=>some []
 |x::l=>match yD x,gX l with
  |some b,some r=>some (b::r)
  |_,_=>none
def setAt(cs:List AV)(off:Nat)(vs:List AV):List AV:=cs.take off++vs++cs.drop (off+vs.length)
def nZ(k:IntKind)(a b:Int):Int:=k.wrap (BitVec.ofInt k.bits a &&& BitVec.ofInt k.bits b).toNat
def orI(k:IntKind)(a b:Int):Int:=k.wrap (BitVec.ofInt k.bits a ||| BitVec.ofInt k.bits b).toNat
def lK(k:IntKind)(a b:Int):Int:=k.wrap (BitVec.ofInt k.bits a ^^^ BitVec.ofInt k.bits b).toNat
def Hu(k:IntKind)(a b:Int):Int:=k.wrap (BitVec.ofInt k.bits a &&& ~~~(BitVec.ofInt k.bits b)).toNat
def ru(op:BinOp)(k:IntKind)(a b:Int):Option AV:=
 match op with
 | .add=>some (.int k (k.wrap (a+b)))
 | .sub=>some (.int k (k.wrap (a - b)))
 | .mul=>some (.int k (k.wrap (a*b)))
 | .quo=>if b=0 then none else some (.int k (k.wrap (a.tdiv b)))
 | .rem=>if b=0 then none else some (.int k (a.tmod b))
 | .eql=>some (.bool (decide (a=b)))
 | .neq=>some (.bool (!decide (a=b)))
 | .lss=>some (.bool (decide (a<b)))
 | .leq=>some (.bool (decide (a<=b)))
 | .gtr=>some (.bool (decide (b<a)))
 | .geq=>some (.bool (decide (b<=a)))
 | .and=>some (.int k (nZ k a b))
 | .or=>some (.int k (orI k a b))
 | .xor=>some (.int k (lK k a b))
 | .andNot=>some (.int k (Hu k a b))
 |_=>none
def ry(op:BinOp)(k:IntKind)(a b:Int):Option AV:=
 if b<0 then none else
 match op with
 | .shl=>some (.int k (k.wrap (a*2^(min b.toNat k.bits))))
 | .shr=>some (.int k (a.fdiv (2^(min b.toNat k.bits))))
 |_=>none
def qG:BinOp->Bool
 | .shl| .shr=>true
 |_=>false
def yE(op:BinOp)(a b:List UInt8):Option AV:=
 match op with
 | .add=>if a.length+b.length<9223372036854775808 then some (.str (a++b)) else none
 | .eql=>some (.bool (decide (a=b)))
 | .neq=>some (.bool (!decide (a=b)))
 | .lss=>some (.bool (Op.bytesLess a b))
 | .leq=>some (.bool (Op.bytesLess a b||decide (a=b)))
 | .gtr=>some (.bool (!(Op.bytesLess a b||decide (a=b))))
 | .geq=>some (.bool (!Op.bytesLess a b))
 |_=>none
def J9(op:BinOp)(k:FloatKind)(a b:Nat):Option AV:=
 match op with
 | .add| .sub| .mul| .quo=>(floatBits op k a b).map λr=> .sc (.float k r)
 | .eql=>some (.bool (k.format.order a b == some .eq))
 | .neq=>some (.bool (k.format.order a b != some .eq))
 | .lss=>some (.bool (k.format.order a b == some .lt))
 | .leq=>some (.bool (k.format.order a b == some .lt||k.format.order a b == some .eq))
 | .gtr=>some (.bool (k.format.order a b == some .gt))
 | .geq=>some (.bool (k.format.order a b == some .gt||k.format.order a b == some .eq))
 |_=>none
def Ka(op:BinOp)(a b c d:Nat):Option AV:=
 match op with
 | .add| .sub=>(cSumBits op .f64 a b c d).map λp=> .sc (.complex .f64 p.1 p.2)
 | .mul=>(cMulBits a b c d).map λp=> .sc (.complex .f64 p.1 p.2)
 |_=>none
def bin(op:BinOp)(x y:AV):Option AV:=
 match x,y with
 | .sc (.float k a),.sc (.float k' b)=>if k=k' then J9 op k a b else none
 | .sc (.complex .f64 a b),.sc (.complex .f64 c d)=>Ka op a b c d
 | .int k a,.int k' b=>if qG op then ry op k a b else if k=k' then ru op k a b else none
 | .str a,.str b=>yE op a b
 |_,_=>none
def eqB(neg:Bool)(x y:AV):Option AV:=
 match x,y with
 | .bool a,.bool b=>some (.bool (if neg then !(a == b) else (a == b)))
 |_,_=>none
def eqP(neg:Bool)(x y:AV):Option AV:=
 match x,y with
 | .ptr _ _,.sc (.pointer none)=>some (.bool neg)
 | .ref _,.sc (.pointer none)=>some (.bool neg)
 | .sc (.pointer none),.sc (.pointer none)=>some (.bool (!neg))
 |_,_=>none
def iX(k:EK)(x y:AV):Option Bool:=
 match k,x,y with
 | .int,.int k a,.int k' b=>if k=k' then some (decide (a=b)) else none
 | .str,.str a,.str b=>some (decide (a=b))
 | .bool,.bool a,.bool b=>some (a == b)
 |_,_,_=>none
def bw:List EK->List AV->List AV->Option Bool
 |[],[],[]=>some true
 |k::ks,x::xs,y::ys=>match iX k x y,bw ks xs ys with
  |some a,some b=>some (a&&b)
  |_,_=>none
 |_,_,_=>none
def eqA(neg:Bool)(ks:List EK)(x y:AV):Option AV:=
 match x,y with
 | .agg xs,.agg ys=>(bw ks xs ys).map λb=> .bool (if neg then !b else b)
 |_,_=>none
def mm(mx:Bool)(x y:AV):Option AV:=
 match x,y with
 | .int k a,.int _ b=>some (.int k (if mx then (if a<b then b else a) else (if b<a then b else a)))
 | .str a,.str b=>some (.str (if (if mx then !Op.bytesLess a b else (Op.bytesLess a b||decide (a=b))) then a else b))
 |_,_=>none
def lL(key:List UInt8):List (AV × AV)->Option (Option (Nat × AV))
 |[]=>some none
 |(a,v)::es=>match a with
  | .str a=>if a=key then some (some (0,v)) else (lL key es).map (Option.map λp=>(p.1+1,p.2))
  |_=>none
def Es(es:List (AV × AV))(k:List UInt8)(v:AV)(r:Option (Nat × AV)):List (AV × AV):=
 match r with
 |some p=>es.set p.1 (.str k,v)
 |none=>es++[(.str k,v)]
def rA(es:List (AV × AV))(r:Option (Nat × AV)):List (AV × AV):=
 match r with
 |some p=>es.eraseIdx p.1
 |none=>es
def eV(ks:List EK)(key:List AV):List (AV × AV)->Option (Option (Nat × AV))
 |[]=>if (bw ks key key).isSome then some none else none
 |(a,v)::es=>match a with
  | .agg xs=>match bw ks key xs with
   |some true=>some (some (0,v))
   |some false=>(eV ks key es).map (Option.map λp=>(p.1+1,p.2))
   |none=>none
  |_=>none
def rB(es:List (AV × AV))(k:List AV)(v:AV)(r:Option (Nat × AV)):List (AV × AV):=
 match r with
 |some p=>es.set p.1 (.agg k,v)
 |none=>es++[(.agg k,v)]
def dT(zero:AV)(ok:Bool):Option (Nat × AV)->AV
 |some p=>if ok then .tup [p.2,.bool true] else p.2
 |none=>if ok then .tup [zero,.bool false] else zero
def eqM(neg:Bool)(x:AV):Option AV:=
 match x with
 | .mp _=>some (.bool neg)
 | .sc (.map none)=>some (.bool (!neg))
 |_=>none
def eqN(neg:Bool)(x:AV):Option AV:=
 match x with
 | .sl _ (_::_) _=>some (.bool neg)
 | .tsl _ _ _ _ _=>some (.bool neg)
 | .sc (.slice a _ _)=>some (.bool (if neg then !a.isNone else a.isNone))
 |_=>none
def unop(op:UnOp)(x:AV):Option AV:=
 match op,x with
 | .not,.bool b=>some (.bool (!b))
 | .neg,.int k n=>some (.int k (k.wrap (0 - n)))
 | .xor,.int k n=>ru .xor k (if k.signed then -1 else k.max) n
 | .neg,.sc (.float k b)=>some (.sc (.float k (Op.negFloat k b)))
 |_,_=>none
def bound(x:Option AV)(d:Nat)(upto:Nat):Option Nat:=
 match x with
 |none=>some d
 |some (.int _ i)=>if 0<=i/\i<=upto then some i.toNat else none
 |_=>none
def nw(c:Cap)(lo hi len:Nat):Cap:=
 if hi=len then (match c with| .exact k=> .exact (k - lo)| .own t=> .own t| .any=> .any) else .any
def slice(str:Bool)(sz:Nat)(x:AV)(lo hi:Option AV)(mx:Option (Option AV)):Option AV:=
 match x with
 | .str l=>if str then (match mx with
  |none=>(bound hi l.length l.length).bind λh=>(bound lo 0 h).map λlw=> .str ((l.take h).drop lw)
  |some _=>none) else none
 | .sl s xs c=>if str=false/\(s=sz\/xs=[]) then (match mx with
  |none=>(bound hi xs.length xs.length).bind λh=>(bound lo 0 h).map λlw=> .sl s ((xs.take h).drop lw) (nw c lw h xs.length)
  |some m=>(bound m xs.length xs.length).bind λm=>(bound hi xs.length m).bind λh=>(bound lo 0 h).map λlw=> .sl s ((xs.take h).drop lw) (.exact (m - lw))) else none
 | .tsl s id off len c=>if str=false/\s=sz then (match mx with
  |none=>(bound hi len len).bind λh=>(bound lo 0 h).map λlw=> .tsl s id (off+lw*s) (h - lw) (c.map λk=>k - lw)
  |some _=>none) else none
 |_=>none
def part(off:Nat)(n:Option Nat)(cs:List AV):Option AV:=
 match n with
 |none=>cs[off]?
 |some n=>if off+n<=cs.length then some (.agg ((cs.drop off).take n)) else none
def fF(ρ:Opd->AV):List (Nat × Nat × Opd)->List AV->Option (List AV)
 |[],cs=>some cs
 |(off,n,x)::l,cs=>
  if (cellsOf (ρ x)).length=n/\off+n<=cs.length/\shaped (ρ x) then fF ρ l (setAt cs off (cellsOf (ρ x))) else none
def mD:List (Nat × Nat)->List AV->List AV->Option (List AV)
 |[],[],cs=>some cs
 |(off,n)::ps,x::xs,cs=>if (cellsOf x).length=n/\off+n<=cs.length/\shaped x then mD ps xs (setAt cs off (cellsOf x)) else none
 |_,_,_=>none
def iu(k:RK)(xs:List AV):Option AV:=
 match k with
 | .i2f k=>(match xs with
  |[.int _ n]=>some (.sc (.float k (floatOfInt k n)))
  |_=>none)
 | .f2i k=>(match xs with
  |[.sc (.float s b)]=>(floatToIntVal s b k).map (.int k)
  |_=>none)
 | .cplx=>(match xs with
  |[.sc (.float k a),.sc (.float k' b)]=>if k=k' then some (.sc (.complex k a b)) else none
  |_=>none)
 | .cpart re=>(match xs with
  |[.sc (.complex k a b)]=>some (.sc (.float k (if re then a else b)))
  |_=>none)
 | .fbits=>(match xs with
  |[.sc (.float .f64 b)]=>some (.int .u64 b)
  |_=>none)
 | .fofbits=>(match xs with
  |[.int .u64 n]=>some (.sc (.float .f64 n.toNat))
  |_=>none)
 | .ibyte=>(match xs with
  |[.str s,.int .u8 c]=>if 0<=c/\c<256 then some (.int .i64 (match (List.range s.length).find? λi=>s.getD i 0 == UInt8.ofNat c.toNat with|some i=>(i:Int)|none=> -1)) else none
  |_=>none)
 | .aidx sz n len=>(match xs with
  |[.agg cs,.int _ i]=>if 0<=i/\i<len then part (i.toNat*sz) n cs else none
  |_=>none)
 | .paddr sz len=>(match xs with
  |[.ptr id o,.int _ i]=>if 0<=i/\i<len then some (.ptr id (o+i.toNat*sz)) else none
  |[.ref cs,.int _ i]=>if 0<=i/\i<len then some (.ref (cs.drop (i.toNat*sz))) else none
  |_=>none)
 | .abuild zero ps=>(mD ps xs zero).map .agg
 | .slp _ _=>none
 | .cpy=>none
 | .s2a len=>(match xs with
  |[.sl sz cs _]=>if sz=1/\0<len/\len<=cs.length/\cs.all cL then some (.ref cs) else none
  |_=>none)
 | .eqarr neg len k=>(match xs with
  |[.agg a,.agg b]=>(bw (List.replicate len k) a b).map λr=> .bool (if neg then !r else r)
  |_=>none)
def aop(ρ:Opd->AV)(h:H):AOp->Option (AV × H × Ent)
 | .mov x=>some (ρ x,h,aU)
 | .pick c a b=>match ρ c with
  | .bool c=>some (if c then ρ a else ρ b,h,aU)
  |_=>none
 | .alloc zero=>if zero.all cL then some (.ptr h.n 0,{h with objs:=upd h.objs h.n (some (.cells zero)),n:=h.n+1},⟨[],[h.n],[]⟩) else none
 | .box x=>match ρ x with
  | .agg cs=>if cs.all cL then some (.ptr h.n 0,{h with objs:=upd h.objs h.n (some (.cells cs)),n:=h.n+1},⟨[],[h.n],[]⟩) else none
  |v=>if cL v then some (.ptr h.n 0,{h with objs:=upd h.objs h.n (some (.cells [v])),n:=h.n+1},⟨[],[h.n],[]⟩) else none
 | .build zero parts=>(fF ρ parts zero).map λcs=>(.agg cs,h,aU)
 | .buildSl sz parts=>if parts.all (λx=>(cellsOf (ρ x)).length=sz/\shaped (ρ x))/\parts.length*sz<=16777216 then some (.sl sz (parts.map ρ) (.exact parts.length),h,aU) else none
 | .load n x=>match ρ x with
  | .ref cs=>(part 0 n cs).map λv=>(v,h,aU)
  | .ptr id off=>match h.objs id with
   |some (.cells cs)=>(part off n cs).map λv=>(v,h,⟨[id],[],[]⟩)
   |_=>none
  |_=>none
 | .store n x v=>match ρ x with
  | .ptr id off=>match h.objs id with
   |some (.cells cs)=>if (cellsOf (ρ v)).length=n/\off+n<=cs.length/\(cellsOf (ρ v)).all cL then
     some (.any,{h with objs:=upd h.objs id (some (.cells (setAt cs off (cellsOf (ρ v)))))},⟨[],[id],[]⟩) else none
   |_=>none
  |_=>none
 | .bin op x y=>(bin op (ρ x) (ρ y)).map λv=>(v,h,aU)
 | .eqB neg x y=>(eqB neg (ρ x) (ρ y)).map λv=>(v,h,aU)
 | .eqP neg x y=>(eqP neg (ρ x) (ρ y)).map λv=>(v,h,aU)
 | .eqQ neg x y=>match ρ x,ρ y with
  | .ptr i a,.ptr j b=>match h.objs i,h.objs j with
   |some (.cells _),some (.cells _)=>some (.bool (if neg then !(decide (i=j)&&decide (a=b)) else (decide (i=j)&&decide (a=b))),h,⟨[i,j],[],[]⟩)
   |_,_=>none
  | .ptr _ _,.sc (.pointer none)=>some (.bool neg,h,aU)
  | .sc (.pointer none),.sc (.pointer none)=>some (.bool (!neg),h,aU)
  |_,_=>none
 | .eqN neg x=>(eqN neg (ρ x)).map λv=>(v,h,aU)
 | .eqA neg ks x y=>(eqA neg ks (ρ x) (ρ y)).map λv=>(v,h,aU)
 | .un op x=>(unop op (ρ x)).map λv=>(v,h,aU)
 | .conv k x=>match k,ρ x with
  | .toInt k,.int _ n=>some (.int k (k.wrap n),h,aU)
  | .b2s,.sl sz xs _=>if sz=1\/xs=[] then (gX xs).map λl=>(.str l,h,aU) else none
  | .s2b,.str l=>some (.sl 1 (aD l) (.own h.m),{h with toks:=h.m::h.toks,m:=h.m+1},⟨[],[],[h.m]⟩)
  | .s2b,.sup B=>some (.supb B,{h with toks:=h.m::h.toks,m:=h.m+1},⟨[],[],[h.m]⟩)
  | .idem,.str l=>some (.str l,h,aU)
  |_,_=>none
 | .mkfn fn first captured=>some (.clo fn (first.map ρ) (captured.map ρ),h,aU)
 | .mksl sz bytes zero len cap=>match ρ len,ρ cap with
  | .int _ l,.int _ c=>if 0<=l/\l<=c/\c*bytes<=140737488355328/\c<9223372036854775808/\shaped zero then
    some (.sl sz (List.replicate l.toNat zero) (.own h.m),{h with toks:=h.m::h.toks,m:=h.m+1},⟨[],[],[h.m]⟩) else none
  |_,_=>none
 | .slc str sz x lo hi mx=>(slice str sz (ρ x) (lo.map ρ) (hi.map ρ) (mx.map λm=>some (ρ m))).map λv=>(v,h,aU)
 | .faddr off x=>match ρ x with
  | .ref cs=>some (.ref (cs.drop off),h,aU)
  | .ptr id o=>some (.ptr id (o+off),h,aU)
  |_=>none
 | .fld off n x=>match ρ x with
  | .agg cs=>(part off n cs).map λv=>(v,h,aU)
  |_=>none
 | .iaddr sz x i=>match ρ x,ρ i with
  | .sl s xs _,.int _ k=>if s=sz/\0<=k/\k<xs.length then (let x:=xs.getD k.toNat .any;if shaped x then some (.ref (cellsOf x),h,aU) else none) else none
  | .tsl s id off len _,.int _ k=>if s=sz/\0<=k/\k<len then some (.ptr id (off+k.toNat*sz),h,aU) else none
  |_,_=>none
 | .idx x i=>match ρ x,ρ i with
  | .str l,.int _ k=>if 0<=k/\k<l.length then some (byte (l.getD k.toNat 0),h,aU) else none
  |_,_=>none
 | .ext x i=>match ρ x with
  | .tup xs=>(xs[i]?).map λv=>(v,h,aU)
  |_=>none
 | .nilck x=>match ρ x with
  | .ptr id o=>some (.ptr id o,h,aU)
  | .ref cs=>some (.ref cs,h,aU)
  |_=>none
 | .len str x=>match str,ρ x with
  |true,.str l=>some (.int .i64 l.length,h,aU)
  |true,.sup _=>some (.wint .i64,h,aU)
  |false,.sl _ xs _=>some (.int .i64 xs.length,h,aU)
  |false,.tsl _ _ _ n _=>some (.int .i64 n,h,aU)
  |_,_=>none
 | .app str sz bytes s x=>match str,ρ s,ρ x with
  |false,.sl s xs c,.sl s' ys _=>
   if (s=sz\/xs=[])/\(s'=sz\/ys=[])/\(xs.length+ys.length)*bytes<=140737488355328/\xs.length+ys.length<4611686018427387904 then
    (match c with
    | .own t=>if s=sz/\t∈h.toks then some (.sl sz (xs++ys) (.own h.m),{h with toks:=h.m::h.toks.filter (· ≠t),m:=h.m+1},⟨[],[],[t,h.m]⟩) else none
    | .exact k=>if k=xs.length then some (.sl sz (xs++ys) (.own h.m),{h with toks:=h.m::h.toks,m:=h.m+1},⟨[],[],[h.m]⟩) else none
    | .any=>none)
   else none
  |true,.sl s xs c,.str l=>
   if (s=sz\/xs=[])/\sz=1/\(xs.length+l.length)*bytes<=140737488355328/\xs.length+l.length<4611686018427387904 then
    (match c with
    | .own t=>if s=sz/\t∈h.toks then some (.sl sz (xs++aD l) (.own h.m),{h with toks:=h.m::h.toks.filter (· ≠t),m:=h.m+1},⟨[],[],[t,h.m]⟩) else none
    | .exact k=>if k=xs.length then some (.sl sz (xs++aD l) (.own h.m),{h with toks:=h.m::h.toks,m:=h.m+1},⟨[],[],[h.m]⟩) else none
    | .any=>none)
   else none
  |_,_,_=>none
 | .appz bytes zero sz s x=>match ρ s,ρ x with
  | .sl s xs c,.int .i64 n=>
   if (s=sz\/xs=[])/\0<=n/\(xs.length+n.toNat)*bytes<=140737488355328/\xs.length+n.toNat<4611686018427387904/\shaped zero/\0<bytes then
    (match c with
    | .own t=>if s=sz/\t∈h.toks then some (.sl sz (xs++List.replicate n.toNat zero) (.own h.m),{h with toks:=h.m::h.toks.filter (· ≠t),m:=h.m+1},⟨[],[],[t,h.m]⟩) else none
    | .exact k=>if k=xs.length then some (.sl sz (xs++List.replicate n.toNat zero) (.own h.m),{h with toks:=h.m::h.toks,m:=h.m+1},⟨[],[],[h.m]⟩) else none
    | .any=>none)
   else none
  |_,_=>none
 | .mm mx x y=>(mm mx (ρ x) (ρ y)).map λv=>(v,h,aU)
 | .clr sz zero x=>match ρ x with
  | .tsl s id off len _=>if len=0 then some (.any,h,aU) else (match h.objs id with
   |some (.cells cs)=>if s=sz/\zero.length=sz/\off+len*sz<=cs.length/\zero.all cL then
     some (.any,{h with objs:=upd h.objs id (some (.cells (setAt cs off (List.replicate len zero).flatten)))},⟨[],[id],[]⟩) else none
   |_=>none)
  |_=>none
 | .mkmap=>some (.mp h.n,{h with objs:=upd h.objs h.n (some (.map [])),n:=h.n+1},⟨[],[h.n],[]⟩)
 | .mlook zero ok x key=>match ρ x,ρ key with
  | .mp id,.str k=>match h.objs id with
   |some (.map es)=>(lL k es).map λr=>(dT zero ok r,h,⟨[id],[],[]⟩)
   |_=>none
  | .sc (.map none),.str _=>some (dT zero ok none,h,aU)
  |_,_=>none
 | .mput x key v=>match ρ x,ρ key with
  | .mp id,.str k=>match h.objs id with
   |some (.map es)=>(lL k es).map λr=>(.any,{h with objs:=upd h.objs id (some (.map (Es es k (ρ v) r)))},⟨[],[id],[]⟩)
   |_=>none
  |_,_=>none
 | .mdel x key=>match ρ x,ρ key with
  | .mp id,.str k=>match h.objs id with
   |some (.map es)=>(lL k es).map λr=>(.any,{h with objs:=upd h.objs id (some (.map (rA es r)))},⟨[],[id],[]⟩)
   |_=>none
  |_,_=>none
 | .mlen x=>match ρ x with
  | .mp id=>match h.objs id with
   |some (.map es)=>some (.int .i64 es.length,h,⟨[id],[],[]⟩)
   |_=>none
  | .sc (.map none)=>some (.int .i64 0,h,aU)
  |_=>none
 | .mlookK ks zero ok x key=>match ρ x,ρ key with
  | .mp id,.agg k=>match h.objs id with
   |some (.map es)=>(eV ks k es).map λr=>(dT zero ok r,h,⟨[id],[],[]⟩)
   |_=>none
  |_,_=>none
 | .mputK ks x key v=>match ρ x,ρ key with
  | .mp id,.agg k=>match h.objs id with
   |some (.map es)=>(eV ks k es).map λr=>(.any,{h with objs:=upd h.objs id (some (.map (rB es k (ρ v) r)))},⟨[],[id],[]⟩)
   |_=>none
  |_,_=>none
 | .mdelK ks x key=>match ρ x,ρ key with
  | .mp id,.agg k=>match h.objs id with
   |some (.map es)=>(eV ks k es).map λr=>(.any,{h with objs:=upd h.objs id (some (.map (rA es r)))},⟨[],[id],[]⟩)
   |_=>none
  |_,_=>none
 | .eqM neg x=>(eqM neg (ρ x)).map λv=>(v,h,aU)
 | .cap x=>match ρ x with
  | .sl _ _ (.exact k)=>some (.int .i64 k,h,aU)
  | .tsl _ _ _ _ (some k)=>some (.int .i64 k,h,aU)
  |_=>none
 | .ifc t x=>some (.ifc t (ρ x),h,aU)
 | .pan _=>none
 | .dead=>none
 | .raw k xs=>(iu k (xs.map ρ)).map λv=>(v,h,aU)
 | .call _ _=>none
 | .callv _ _=>none
def bQ(P:Program)(t:TypeId):Bool:=
 match P.underlying t with
 |some (.struct _)|some (.array _ _)=>true
 |_=>false
def Et(P:Program)(t:TypeId):Bool:=
 match P.underlying t with
 |some (.int .u8)=>true
 |_=>false
def Hv(P:Program)(t:TypeId):Nat:=
 match P.underlying t with
 |some (.slice e)=>P.cellsOf e
 |_=>0
def uV(P:Program)(t:TypeId):Value->Option AV
 | .int k n=>some (.int k n)
 | .bool b=>some (.bool b)
 | .string s=>some (.str s.data.toList)
 | .slice none 0 0=>some (.sl (Hv P t) [] (.exact 0))
 | .pointer none=>some (.sc (.pointer none))
 | .map none=>some (.sc (.map none))
 | .nilFunc=>some (.sc .nilFunc)
 | .nilIface=>some (.sc .nilIface)
 | .float k b=>some (.sc (.float k b))
 | .complex k a b=>some (.sc (.complex k a b))
 |_=>none
def Eu(P:Program):Nat->TypeId->List TypeId
 |0,t=>[t]
 |d+1,t=>match P.underlying t with
  |some (.struct fs)=>fs.toList.flatMap λf=>Eu P d f.type
  |some (.array n e)=>(List.replicate n (Eu P d e)).flatten
  |_=>[t]
def kJ(P:Program):List TypeId->List Value->Option (List AV)
 |t::ts,v::vs=>match uV P t v,kJ P ts vs with
  |some a,some l=>some (a::l)
  |_,_=>none
 |[],[]=>some []
 |_,_=>none
def dd(P:Program)(t:TypeId):Value->Option AV
 | .agg cs=>(kJ P (Eu P 8 t) cs.toList).map .agg
 |v=>uV P t v
def opd(P:Program)(ty:TypeId):Operand->Option Opd
 | .tmp t=>some (.t t)
 | .const v=>(dd P ty v).map .c
 | .func f=>some (.c (.clo (.func f) [] []))
 | .global _=>none
def ny(P:Program):List TypeId->List Operand->Option (List Opd)
 |t::ts,x::xs=>match opd P t x,ny P ts xs with
  |some a,some l=>some (a::l)
  |_,_=>none
 |[],x::xs=>match opd P 0 x,ny P [] xs with
  |some a,some l=>some (a::l)
  |_,_=>none
 |_,[]=>some []
def lM(P:Program):Option Operand->Option (Option Opd)
 |none=>some none
 |some x=>(opd P 0 x).map some
def partsOf(P:Program)(fs:Array Field):List (Nat × Operand)->Option (List (Nat × Nat × Opd))
 |[]=>some []
 |(i,x)::l=>match fs[i]? with
  |none=>none
  |some f=>match opd P f.type x,partsOf P fs l with
   |some a,some r=>if (P.info? f.type).isSome then some ((f.offset,P.cellsOf f.type,a)::r) else none
   |_,_=>none
def iL(P:Program)(e:TypeId):Nat->List (Nat × Operand)->Option (List Opd)
 |_,[]=>some []
 |k,(i,x)::l=>if i=k then (match opd P e x,iL P e (k+1) l with
  |some a,some r=>some (a::r)
  |_,_=>none) else none
def iE(P:Program)(t:TypeId):Option EK:=
 match P.underlying t with
 |some (.int _)=>some .int
 |some .bool=>some .bool
 |some .string=>some .str
 |_=>none
def gv(P:Program):Nat->List Field->Option (List EK)
 |_,[]=>some []
 |i,f::fs=>match iE P f.type,gv P (i+1) fs with
  |some k,some ks=>if f.name≠ "_" /\f.offset=i then some (k::ks) else none
  |_,_=>none
def kK(P:Program)(inner:List Field->Option (List EK)):Nat->List Field->Option (List EK)
 |_,[]=>some []
 |i,f::fs=>match iE P f.type with
  |some k=>(match kK P inner (i+1) fs with
   |some ks=>if f.name≠ "_" /\f.offset=i then some (k::ks) else none
   |none=>none)
  |none=>match P.underlying f.type with
   |some (.struct gs)=>(match inner gs.toList with
    |some k1=>(match kK P inner (i+k1.length) fs with
     |some ks=>if f.name≠ "_" /\f.offset=i/\P.stoodInHeld f.type=false/\P.cellsOf f.type=k1.length/\(P.info? f.type).isSome then some (k1++ks) else none
     |none=>none)
    |none=>none)
   |_=>none
def n9(P:Program):Nat->List Field->Option (List EK)
 |0=>kK P (λ_=>none) 0
 |d+1=>kK P (n9 P d) 0
def yF(P:Program)(e:TypeId)(y:Operand):Bool:=(match y with| .const _=>false|_=>true)&&((P.info? e).any λi=>decide (i.size≠0))
def cOp(P:Program)(o:Oper):Option AOp:=
 match o.op with
 | .move x| .assign x=>(opd P o.type x).map .mov
 | .pick c a b=>match opd P 0 c,opd P o.type a,opd P o.type b with
  |some c,some a,some b=>some (.pick c a b)
  |_,_,_=>none
 | .alloc e=>match (P.info? e).bind (·.zero) with
  |some z=>(dd P e z).map λa=> .alloc (cellsOf a)
  |none=>none
 | .box e x=>(opd P e x).map .box
 | .build t parts=>match P.underlying t,(P.info? t).bind (·.zero) with
  |some (.struct fs),some z=>match dd P t z,partsOf P fs parts.toList with
   |some (.agg cs),some l=>if fs.all λf=>(P.info? f.type).isSome then some (.build cs l) else none
   |_,_=>none
  |_,_=>none
 | .buildSlice t len parts=>match P.underlying t with
  |some (.slice e)=>if parts.size=len/\(P.info? e).isSome/\0<P.cellsOf e/\(((P.info? e).bind (·.zero)).any λz=>z.cells.size == P.cellsOf e) then (iL P e 0 parts.toList).map (.buildSl (P.cellsOf e)) else none
  |_=>none
 | .load t a=>if (P.info? t).isSome/\(P.underlying t).isSome then (opd P 0 a).map (.load (if bQ P t then some (P.cellsOf t) else none)) else none
 | .store t a x=>if (P.info? t).isSome/\0<P.cellsOf t then (match opd P 0 a,opd P t x with
  |some a,some x=>some (.store (P.cellsOf t) a x)
  |_,_=>none) else none
 | .binOp op xT x y yT=>match opd P xT x,opd P yT y with
  |some a,some b=>(match P.underlying xT with
   |some .bool=>(match op with| .eql=>some (.eqB false a b)| .neq=>some (.eqB true a b)|_=>none)
   |some (.pointer e)=>if yF P e y then (match op with| .eql=>some (.eqQ false a b)| .neq=>some (.eqQ true a b)|_=>none) else (match op with| .eql=>some (.eqP false a b)| .neq=>some (.eqP true a b)|_=>none)
   |some (.struct fs)=>(match n9 P 3 fs.toList with
    |some ks=>if P.stoodInHeld xT=false/\P.eqGuardType P.depth xT=false then (match op with| .eql=>some (.eqA false ks a b)| .neq=>some (.eqA true ks a b)|_=>none) else none
    |none=>none)
   |some (.map _ _)=>(match op,y with| .eql,.const (.map none)=>some (.eqM false a)| .neq,.const (.map none)=>some (.eqM true a)|_,_=>none)
   |some (.slice _)=>(match op,y with| .eql,.const (.slice none 0 0)=>some (.eqN false a)| .neq,.const (.slice none 0 0)=>some (.eqN true a)|_,_=>none)
   |some (.array _ _)=>none
   |_=>some (.bin op a b))
  |_,_=>none
 | .unOp op xT x=>(opd P xT x).map (.un op)
 | .convert src dst x=>match opd P src x,P.underlying src,P.underlying dst with
  |some a,some (.int _),some (.int k)=>some (.conv (.toInt k) a)
  |some a,some (.slice e),some .string=>if Et P e/\P.cellsOf e=1 then some (.conv .b2s a) else none
  |some a,some .string,some (.slice e)=>if Et P e/\P.cellsOf e=1 then some (.conv .s2b a) else none
  |some a,some .string,some .string=>some (.conv .idem a)
  |some a,some (.slice e),some (.slice _)=>if src=dst/\Et P e/\P.cellsOf e=1 then some (.conv .s2s a) else none
  |_,_,_=>none
 | .makeFunc fn first captured=>match ny P [] first.toList,ny P [] captured.toList with
  |some a,some b=>some (.mkfn fn a b)
  |_,_=>none
 | .makeSlice t l c=>match P.underlying t with
  |some (.slice e)=>match P.info? e with
   |some i=>match i.zero with
    |some z=>match dd P e z,opd P 0 l,opd P 0 c with
     |some a,some l,some c=>if z.cells.size=i.size/\0<i.size then some (.mksl i.size i.bytes a l c) else none
     |_,_,_=>none
    |none=>none
   |none=>none
  |_=>none
 | .slice t x lo hi mx=>match opd P t x,lM P lo,lM P hi,lM P mx,P.underlying t with
  |some a,some l,some h,some m,some .string=>if m.isNone then some (.slc true 0 a l h none) else none
  |some a,some l,some h,some m,some (.slice e)=>if (P.info? e).isSome/\(m.isNone\/h.isSome) then some (.slc false (P.cellsOf e) a l h m) else none
  |_,_,_,_,_=>none
 | .fieldAddr s x f=>match opd P 0 x,P.underlying s with
  |some a,some (.struct fs)=>match fs[f]? with
   |some fd=>if (P.info? fd.type).isSome/\0<P.cellsOf fd.type then some (.faddr fd.offset a) else none
   |none=>none
  |_,_=>none
 | .field s x f=>match opd P s x,P.underlying s with
  |some a,some (.struct fs)=>match fs[f]? with
   |some fd=>if (P.info? fd.type).isSome/\(P.underlying fd.type).isSome then some (.fld fd.offset (if bQ P fd.type then some (P.cellsOf fd.type) else none) a) else none
   |none=>none
  |_,_=>none
 | .indexAddr t x i=>match opd P t x,opd P 0 i,P.underlying t with
  |some a,some b,some (.slice e)=>if (P.info? e).isSome then some (.iaddr (P.cellsOf e) a b) else none
  |_,_,_=>none
 | .index t x i=>match opd P t x,opd P 0 i,P.underlying t with
  |some a,some b,some .string=>some (.idx a b)
  |_,_,_=>none
 | .makeMap t r=>match r,P.underlying t with
  |none,some (.map _ _)=>some .mkmap
  |some (.const (.int _ _)),some (.map _ _)=>some .mkmap
  |_,_=>none
 | .lookup t x i ok=>match opd P t x,P.underlying t with
  |some a,some (.map kt et)=>match opd P kt i,P.underlying kt,(P.info? et).bind (·.zero) with
   |some b,some .string,some z=>(dd P et z).map λzz=> .mlook zz ok a b
   |some b,some (.struct fs),some z=>(match gv P 0 fs.toList with
    |some ks=>if P.stoodInHeld kt=false then (dd P et z).map λzz=> .mlookK ks zz ok a b else none
    |none=>none)
   |_,_,_=>none
  |_,_=>none
 | .mapUpdate t x i v| .insert t x i v=>match opd P t x,P.underlying t with
  |some a,some (.map kt et)=>match opd P kt i,opd P et v,P.underlying kt with
   |some b,some c,some .string=>some (.mput a b c)
   |some b,some c,some (.struct fs)=>(match gv P 0 fs.toList with
    |some ks=>if P.stoodInHeld kt=false then some (.mputK ks a b c) else none
    |none=>none)
   |_,_,_=>none
  |_,_=>none
 | .extract x i=>(opd P 0 x).map λa=> .ext a i
 | .nilCheck x=>(opd P 0 x).map .nilck
 | .makeInterface t x=>match P.underlying t with
  |some (.interface _)=>none
  |some _=>(opd P t x).map (.ifc t)
  |none=>none
 | .panic x=>(opd P 0 x).map .pan
 | .call c=>match c.callee with
  | .builtin .len=>match c.args.toList,c.argTypes.toList with
   |[x],[t]=>match opd P t x,P.underlying t with
    |some a,some .string=>some (.len true a)
    |some a,some (.slice _)=>some (.len false a)
    |some a,some (.map _ _)=>some (.mlen a)
    |_,_=>none
   |_,_=>none
  | .builtin .cap=>match c.args.toList,c.argTypes.toList with
   |[x],[t]=>match opd P t x,P.underlying t with
    |some a,some (.slice _)=>some (.cap a)
    |_,_=>none
   |_,_=>none
  | .builtin .delete=>match c.args.toList,c.argTypes.toList with
   |[x,k],t::_=>match opd P t x,P.underlying t with
    |some a,some (.map kt _)=>match opd P kt k,P.underlying kt with
     |some b,some .string=>some (.mdel a b)
     |some b,some (.struct fs)=>(match gv P 0 fs.toList with
      |some ks=>if P.stoodInHeld kt=false then some (.mdelK ks a b) else none
      |none=>none)
     |_,_=>none
    |_,_=>none
   |_,_=>none
  | .builtin .min=>match c.args.toList with
   |[x,y]=>match opd P 0 x,opd P 0 y with
    |some a,some b=>some (.mm false a b)
    |_,_=>none
   |_=>none
  | .builtin .max=>match c.args.toList with
   |[x,y]=>match opd P 0 x,opd P 0 y with
    |some a,some b=>some (.mm true a b)
    |_,_=>none
   |_=>none
  | .builtin .clear=>match c.args.toList,c.argTypes.toList with
   |[x],[t]=>match opd P t x,P.underlying t with
    |some a,some (.slice e)=>(match P.info? e with
     |some i=>(match i.zero with
      |some z=>(match dd P e z with
       |some b=>if z.cells.size=i.size/\0<i.size then some (.clr i.size (cellsOf b) a) else none
       |none=>none)
      |none=>none)
     |none=>none)
    |_,_=>none
   |_,_=>none
  | .builtin .append=>match c.args.toList,c.argTypes.toList with
   |[s,x],[t,u]=>match opd P t s,opd P u x,P.underlying t,P.underlying u with
    |some a,some b,some (.slice e),some (.slice _)=>(match P.info? e with
     |some i=>if 0<i.size/\(i.zero.any λz=>z.cells.size == i.size) then some (.app false i.size i.bytes a b) else none
     |none=>none)
    |some a,some b,some (.slice e),some .string=>(match P.info? e with
     |some i=>if i.size=1/\(i.zero.any λz=>z.cells.size == i.size) then some (.app true i.size i.bytes a b) else none
     |none=>none)
    |some a,some b,some (.slice e),some (.int .i64)=>(match P.info? e with
     |some i=>(match i.zero.bind (dd P e) with
      |some z=>if 0<i.size/\(i.zero.any λz=>z.cells.size == i.size) then some (.appz i.bytes z i.size a b) else none
      |none=>none)
     |none=>none)
    |_,_,_,_=>none
   |_,_=>none
  | .value (.func f)=>match P.funcs[f]? with
   |some fn=>if fn.body.isSome/\fn.name≠ "runtime.NumGoroutine" then (ny P c.argTypes.toList c.args.toList).map (.call f) else none
   |none=>none
  | .value x=>match opd P 0 x,ny P c.argTypes.toList c.args.toList with
   |some a,some l=>some (.callv a l)
   |_,_=>none
  |_=>none
 |_=>none
def jV(P:Program)(e:TypeId):List (Nat × Operand)->Option (List (Nat × Nat) × List Opd)
 |[]=>some ([],[])
 |(i,x)::l=>match opd P e x,jV P e l with
  |some a,some r=>some ((i*P.cellsOf e,P.cellsOf e)::r.1,a::r.2)
  |_,_=>none
def fU(P:Program)(o:Oper):Option AOp:=
 match o.op with
 | .binOp op xT x y yT=>match opd P xT x,opd P yT y,P.underlying xT with
  |some a,some b,some (.array n e)=>(match iE P e with
   |some k=>if P.eqGuardType P.depth xT=false/\(P.info? e).isSome/\P.cellsOf e=1 then (match op with| .eql=>some (.raw (.eqarr false n k) [a,b])| .neq=>some (.raw (.eqarr true n k) [a,b])|_=>none) else none
   |none=>none)
  |_,_,_=>none
 | .convert src dst x=>match opd P src x,P.underlying src,P.underlying dst with
  |some a,some (.int _),some (.float k)=>some (.raw (.i2f k) [a])
  |some a,some (.float _),some (.int k)=>some (.raw (.f2i k) [a])
  |_,_,_=>none
 | .index t x i=>match opd P t x,opd P 0 i,P.underlying t with
  |some a,some b,some (.array n e)=>if (P.info? e).isSome/\(P.underlying e).isSome then some (.raw (.aidx (P.cellsOf e) (if bQ P e then some (P.cellsOf e) else none) n) [a,b]) else none
  |_,_,_=>none
 | .indexAddr t x i=>match opd P 0 x,opd P 0 i,P.underlying t with
  |some a,some b,some (.array n e)=>if (P.info? e).isSome then some (.raw (.paddr (P.cellsOf e) n) [a,b]) else none
  |_,_,_=>none
 | .build t parts=>match P.underlying t,(P.info? t).bind (·.zero) with
  |some (.array _ e),some z=>match dd P t z,jV P e parts.toList with
   |some (.agg cs),some l=>if (P.info? e).isSome then some (.raw (.abuild cs l.1) l.2) else none
   |_,_=>none
  |_,_=>none
 | .slice ty x lo hi mx=>match opd P 0 x,lM P lo,lM P hi,mx,P.underlying ty with
  |some a,some l,some h,none,some (.array n e)=>if (P.info? e).isSome then some (.raw (.slp (P.cellsOf e) n) [a,l.getD (.c (.int .i64 0)),h.getD (.c (.int .i64 n))]) else none
  |_,_,_,_,_=>none
 | .sliceToArrayPointer arr x=>match opd P 0 x,P.underlying arr with
  |some a,some (.array n _)=>some (.raw (.s2a n) [a])
  |_,_=>none
 | .call c=>match c.callee,c.args.toList with
  | .builtin .copy,[x,y]=>(match c.argTypes.toList with
   |[T,U]=>(match opd P T x,opd P U y,P.underlying T with
    |some a,some b,some (.slice e)=>if P.cellsOf e=1/\(P.info? e).isSome then some (.raw .cpy [a,b]) else none
    |_,_,_=>none)
   |_=>none)
  | .builtin .complex,[x,y]=>match opd P 0 x,opd P 0 y with
   |some a,some b=>some (.raw .cplx [a,b])
   |_,_=>none
  | .builtin .real,[x]=>(opd P 0 x).map λa=> .raw (.cpart true) [a]
  | .builtin .imag,[x]=>(opd P 0 x).map λa=> .raw (.cpart false) [a]
  | .value (.func f),[x,y]=>match P.funcs[f]? with
   |some fn=>if fn.body.isNone/\fn.name= "internal/bytealg.IndexByteString" /\fn.origin= "" then (match opd P 0 x,opd P 0 y with
    |some a,some b=>some (.raw .ibyte [a,b])
    |_,_=>none) else none
   |none=>none
  | .value (.func f),[x]=>match P.funcs[f]? with
   |some fn=>if fn.body.isNone/\fn.name= "math.Float64bits" /\fn.origin= "" then (opd P 0 x).map λa=> .raw .fbits [a]
    else if fn.body.isNone/\fn.name= "math.Float64frombits" /\fn.origin= "" then (opd P 0 x).map λa=> .raw .fofbits [a] else none
   |none=>none
  |_,_=>none
 |_=>none
def cG(G:aT)(w:World)(t:Tm)(a:Act):Prop:=∀i,aC G w (t i) (a.tmps.getD i undef)
section
variable{P:Program}{G:aT}{w:World}
theorem aE.nil:aE G w [] []:=by simp[aE]
theorem aE.cons{x:AV}{v:Value}{xs:List AV}{vs:List Value}(h:aC G w x v)(t:aE G w xs vs):aE G w (x::xs) (v::vs):=by
 simp only[aE];exact ⟨v,vs,rfl,h,t⟩
theorem aE.length:∀{xs:List AV}{vs:List Value},aE G w xs vs->vs.length=xs.length
 |[],vs,h=>by simp only[aE] at h;simp[h]
 |x::xs,vs,h=>by
  simp only[aE] at h;obtain ⟨v,us,rfl,_,h2⟩:=h;simp[aE.length h2]
theorem aE.get:∀{xs:List AV}{vs:List Value},aE G w xs vs->∀{i:Nat}{x:AV},xs[i]? =some x->∃v,vs[i]? =some v/\aC G w x v
 |[],vs,h,i,x,hx=>by simp at hx
 |y::xs,vs,h,i,x,hx=>by
  simp only[aE] at h;obtain ⟨v,us,rfl,h1,h2⟩:=h;cases i with
  |zero=>simp at hx;subst hx;exact ⟨v,by simp,h1⟩
  |succ i=>simp at hx;obtain ⟨u,hu,hr⟩:=aE.get h2 hx;exact ⟨u,by simpa using hu,hr⟩
theorem aE.drop:∀{xs:List AV}{vs:List Value}(n:Nat),aE G w xs vs->aE G w (xs.drop n) (vs.drop n)
 |xs,vs,0,h=>by simpa using h
 |[],vs,n+1,h=>by simp only[aE] at h;simp[h,aE]
 |x::xs,vs,n+1,h=>by
  simp only[aE] at h;obtain ⟨v,us,rfl,_,h2⟩:=h;simpa using aE.drop n h2
theorem aE.take:∀{xs:List AV}{vs:List Value}(n:Nat),aE G w xs vs->aE G w (xs.take n) (vs.take n)
 |xs,vs,0,h=>by simp[aE]
 |[],vs,n+1,h=>by simp only[aE] at h;simp[h,aE]
 |x::xs,vs,n+1,h=>by
  simp only[aE] at h;obtain ⟨v,us,rfl,h1,h2⟩:=h;simpa using aE.cons h1 (aE.take n h2)
theorem aE.append:∀{xs ys:List AV}{vs us:List Value},aE G w xs vs->aE G w ys us->aE G w (xs++ys) (vs++us)
 |[],ys,vs,us,h,h'=>by simp only[aE] at h;subst h;simpa using h'
 |x::xs,ys,vs,us,h,h'=>by
  simp only[aE] at h;obtain ⟨v,vs',rfl,h1,h2⟩:=h;simpa using aE.cons h1 (aE.append h2 h')
theorem wz{P:Program}{t:TypeId}{v:Value}{a:AV}(h:uV P t v=some a):aC G w a v:=by
 unfold uV at h;split at h<;>cases h<;>simp[aC,kI]
theorem tH{P:Program}:∀{ts:List TypeId}{vs:List Value}{l:List AV},kJ P ts vs=some l->aE G w l vs
 |[],[],l,h=>by simp[kJ] at h;subst h;exact .nil
 |[],_::_,l,h=>by simp[kJ] at h
 |_::_,[],l,h=>by simp[kJ] at h
 |t::ts,v::vs,l,h=>by
  simp only[kJ] at h;split at h
  ·rename_i a r h1 h2;cases h;exact .cons (wz h1) (tH h2)
  ·cases h
theorem eQ{t:TypeId}{v:Value}{a:AV}(h:dd P t v=some a):aC G w a v:=by
 unfold dd at h;split at h
 ·rename_i cs;simp only[Oc] at h;obtain ⟨l,h1,rfl⟩:=h;simp only[aC];exact ⟨cs.toList,by simp,tH h1⟩
 ·exact wz h
theorem aK{ty:TypeId}{x:Operand}{y:Opd}{t:Tm}{a:Act}(h:opd P ty x=some y)(ht:cG G w t a):aC G w (ev t y) (a.eval x):=by
 unfold opd at h;split at h
 ·cases h;exact ht _
 ·simp only[Oc] at h;obtain ⟨b,h1,rfl⟩:=h;exact eQ h1
 ·cases h;simp only[ev,aC,Act.eval];exact ⟨[],[],rfl,.nil,.nil⟩
 ·cases h
theorem iv{t:Tm}{a:Act}(ht:cG G w t a):∀{ts:List TypeId}{xs:List Operand}{l:List Opd},ny P ts xs=some l->aE G w (l.map (ev t)) (xs.map a.eval)
 |[],[],l,h=>by simp[ny] at h;subst h;exact .nil
 |_::_,[],l,h=>by simp[ny] at h;subst h;exact .nil
 |[],x::xs,l,h=>by
  simp only[ny] at h;split at h
  ·rename_i a' r h1 h2;cases h;exact .cons (aK h1 ht) (iv ht h2)
  ·cases h
 |t::ts,x::xs,l,h=>by
  simp only[ny] at h;split at h
  ·rename_i a' r h1 h2;cases h;exact .cons (aK h1 ht) (iv ht h2)
  ·cases h
def Plain(P:Program)(G:aT)(w:World)(a:Act)(o:Oper)(x:AV):Prop:=∃v,(execOp a.eval o).run P w= .ok (.value v) w/\aC G w x v
variable{t:Tm}{a:Act}{o:Oper}{h h':H}{x:AV}{en:Ent}
theorem Plain.mk{v:Value}(h1:(execOp a.eval o).run P w= .ok (.value v) w)(h2:aC G w x v):Plain P G w a o x:=⟨v,h1,h2⟩
theorem Cl{op:BinOp}{xT yT:TypeId}{x y:Operand}{b c:Opd}{z:AV}(hop:o.op= .binOp op xT x y yT)(h1:opd P xT x=some b)(h2:opd P yT y=some c)
  (ht:cG G w t a) (hz:bin op (ev t b) (ev t c)=some z):Plain P G w a o z:=by
 have r1:=aK h1 ht;have r2:=aK h2 ht;generalize ev t b=X at*
 generalize ev t c=Y at*
 unfold Plain;simp only[execOp,hop];generalize hx:a.eval x=vx at*
 generalize hy:a.eval y=vy at*
 unfold bin at hz;split at hz
 ·rename_i k n k' m;simp only[aC] at r1 r2;subst r1 r2;split at hz
  ·rename_i hk;subst hk;cases op<;>simp only[J9,Oc,Om] at hz<;>
    first
    |(cases hz;done)
    |(obtain ⟨r,hr,rfl⟩:=hz;simp[eqGuard,run_float_arith w _ _ k n m r hr,aC];done)
    |(subst hz;simp[eqGuard,binOp,Op.floatCmp,aC];done)
  ·cases hz
 ·rename_i p q r u;simp only[aC] at r1 r2;subst r1 r2;cases op<;>simp only[Ka,Oc] at hz<;>
   first
   |(cases hz;done)
   |(obtain ⟨⟨re,im⟩,hr,rfl⟩:=hz;simp[eqGuard,run_complex_sum w _ (.inl rfl) _ _ _ _ _ _ _ _ hr,aC];done)
   |(obtain ⟨⟨re,im⟩,hr,rfl⟩:=hz;simp[eqGuard,run_complex_sum w _ (.inr rfl) _ _ _ _ _ _ _ _ hr,aC];done)
   |(obtain ⟨⟨re,im⟩,hr,rfl⟩:=hz;simp[eqGuard,run_complex_mul w _ _ _ _ _ _ _ hr,aC];done)
 ·rename_i k n k' m;simp only[aC] at r1 r2;subst r1 r2;split at hz
  ·rename_i hs;unfold ry at hz;split at hz
   ·cases hz
   ·rename_i hb;cases op<;>simp[qG] at hs<;>simp only[Om] at hz<;>subst hz<;>simp[eqGuard,binOp,Op.shift,hb,aC]
  ·rename_i hs;split at hz
   ·rename_i hk;subst hk;cases op<;>simp[qG] at hs<;>simp only[ru,nZ,orI,lK,Hu] at hz<;>(try split at hz)<;>
     first
     |(cases hz;done)
     |(simp only[Om] at hz;subst hz;simp[eqGuard,binOp,Op.intArith,Op.intCmp,Op.intBits,Op.intDiv,aC, *];done)
     |(simp only[Om] at hz;subst hz;simp[eqGuard,binOp,Op.intArith,Op.intCmp,Op.intBits,Op.intDiv,aC, *];(first|rfl|(congr;funext;simp)))
   ·cases hz
 ·rename_i p q;simp only[aC] at r1 r2;subst r1 r2;have hb:∀(u v:List UInt8),(u == v)=decide (u=v):=λu v=>by
   rw[Q5];simp
  cases op<;>simp only[yE] at hz<;>(try split at hz)<;>
   first
   |(cases hz;done)
   |(simp only[Om] at hz;subst hz;simp[eqGuard,binOp,Op.stringOp,aC,hb];done)
   |skip
  rename_i hlt;simp only[Om] at hz;subst hz;have h1:(ByteArray.mk p.toArray).size=p.length:=by simp[ByteArray.size]
  have h2:(ByteArray.mk q.toArray).size=q.length:=by simp[ByteArray.size]
  have h3:¬((((ByteArray.mk p.toArray).size+(ByteArray.mk q.toArray).size:Nat):Int)>IntKind.i64.max):=by
   rw[h1,h2];simp[IntKind.max,IntKind.signed,IntKind.bits];omega
  simp only[eqGuard,binOp,Op.stringOp,aC];rw[Ob h3];refine ⟨_,by simp;rfl,?_⟩;all_goals first|rfl|(congr 1;done)|(congr 1;apply ByteArray.ext;simp)
 ·cases hz
theorem Cm{op:BinOp}{neg:Bool}{xT yT:TypeId}{x y:Operand}{b c:Opd}{z:AV}(hop:o.op= .binOp op xT x y yT)(hT:P.underlying xT=some .bool)
  (hn:op= .eql/\neg=false\/op= .neq/\neg=true) (h1:opd P xT x=some b) (h2:opd P yT y=some c)
  (ht:cG G w t a) (hz:eqB neg (ev t b) (ev t c)=some z):Plain P G w a o z:=by
 have r1:=aK h1 ht;have r2:=aK h2 ht;generalize ev t b=X at*
 generalize ev t c=Y at*
 unfold Plain;simp only[execOp,hop];generalize hx:a.eval x=vx at*
 generalize hy:a.eval y=vy at*
 unfold eqB at hz;split at hz
 ·rename_i p q;cases hz;simp only[aC] at r1 r2;subst r1 r2;rcases hn with ⟨rfl,rfl⟩|⟨rfl,rfl⟩
  ·simp[eqGuard,run_eql_bool _ _ _ _ hT,aC]
  ·simp[eqGuard,run_neq_bool _ _ _ _ hT,aC]
 ·cases hz
theorem jW{op:BinOp}{neg:Bool}{xT yT e:TypeId}{x y:Operand}{b c:Opd}{z:AV}(hop:o.op= .binOp op xT x y yT)(hT:P.underlying xT=some (.pointer e))
  (hn:op= .eql/\neg=false\/op= .neq/\neg=true) (h1:opd P xT x=some b) (h2:opd P yT y=some c)
  (ht:cG G w t a) (hz:eqP neg (ev t b) (ev t c)=some z):Plain P G w a o z:=by
 have r1:=aK h1 ht;have r2:=aK h2 ht;generalize ev t b=X at*
 generalize ev t c=Y at*
 unfold Plain;simp only[execOp,hop];generalize hx:a.eval x=vx at*
 generalize hy:a.eval y=vy at*
 have hT':P.underlying xT=some (.pointer (P.pointee xT)):=by
  rw[hT];simp[Program.pointee,hT]
 unfold eqP at hz;split at hz
 ·cases hz;simp only[aC] at r1 r2;obtain ⟨-,rfl⟩:=r1;subst r2;rcases hn with ⟨rfl,rfl⟩|⟨rfl,rfl⟩
  ·simp[eqGuard,run_eql_pointer_nil _ _ _ hT',aC]
  ·simp[eqGuard,run_neq_pointer_nil _ _ _ hT',aC]
 ·cases hz;simp only[aC] at r1 r2;obtain ⟨B,off,vs,rfl,-⟩:=r1;subst r2;rcases hn with ⟨rfl,rfl⟩|⟨rfl,rfl⟩
  ·simp[eqGuard,run_eql_pointer_nil _ _ _ hT',aC]
  ·simp[eqGuard,run_neq_pointer_nil _ _ _ hT',aC]
 ·cases hz;simp only[aC] at r1 r2;subst r1 r2;rcases hn with ⟨rfl,rfl⟩|⟨rfl,rfl⟩
  ·simp[eqGuard,run_eql_pointer_nil _ _ _ hT',aC]
  ·simp[eqGuard,run_neq_pointer_nil _ _ _ hT',aC]
 ·cases hz
theorem nz{k:EK}{x y:AV}{v u:Value}{b:Bool}{t:TypeId}{d:Nat}(hu:iE P t=some k)(r1:aC G w x v)(r2:aC G w y u)(h:iX k x y=some b):(Op.equalIn (d+1) t v u).run P w= .ok b w:=by
 unfold iE at hu;unfold iX at h;split at h
 ·split at h
  ·rename_i k a k' c hk;subst hk;cases h;simp only[aC] at r1 r2;subst r1 r2;split at hu<;>first|(cases hu;done)|skip
   rename_i hu';rw[run_equalIn_int w d t _ _ _ _ hu'];rfl
  ·cases h
 ·cases h;simp only[aC] at r1 r2;subst r1 r2;split at hu<;>first|(cases hu;done)|skip
  rename_i hu';rw[run_equalIn_string w d t _ _ hu'];congr 1;rw[ByteArray.toList_eq,ByteArray.toList_eq,Q5];simp
 ·cases h;simp only[aC] at r1 r2;subst r1 r2;split at hu<;>first|(cases hu;done)|skip
  rename_i hu';rw[run_equalIn_bool w d t _ _ hu']
 ·cases h
theorem dQ{k:EK}{t:TypeId}{xs:Array Value}{i:Nat}{v:Value}(hu:iE P t=some k)(hx:xs[i]? =some v):(Go.part t xs i).run P w= .ok v w:=by
 unfold iE at hu;split at hu<;>first|(cases hu;done)|skip
 all_goals
  rename_i hu';simp[Go.part,isAgg,run_underlying hu',hx]
theorem qe{d:Nat}{X Y:Array Value}:∀{i:Nat}{fs:List Field}{ks:List EK}{xs ys:List AV}{b:Bool},gv P i fs=some ks->aE G w xs (X.toList.drop i)->aE G w ys (Y.toList.drop i)->bw ks xs ys=some b->
  (Op.eqFields (d+1) X Y fs).run P w= .ok b w
 |i,[],ks,xs,ys,b,hf,r1,r2,h=>by
  simp only[gv,Om] at hf;subst hf;cases xs<;>cases ys<;>simp only[bw] at h<;>first|(cases h;done)|skip
  cases h;simp[Op.eqFields]
 |i,f::fs,ks,xs,ys,b,hf,r1,r2,h=>by
  simp only[gv] at hf;split at hf
  ·rename_i k ks' hk hks;split at hf
   ·rename_i hn;obtain ⟨hn,ho⟩:=hn;cases hf;cases xs with
    |nil=>simp[bw] at h
    |cons x xs=>
     cases ys with
     |nil=>simp[bw] at h
     |cons y ys=>
      simp only[aE] at r1 r2;obtain ⟨v,vs,e1,r1,q1⟩:=r1;obtain ⟨u,us,e2,r2,q2⟩:=r2;have g1:X[i]? =some v:=by
       have:=Pj (λl=>l[0]?) e1;simpa using this
      have g2:Y[i]? =some u:=by
       have:=Pj (λl=>l[0]?) e2;simpa using this
      have t1:X.toList.drop (i+1)=vs:=by
       have:=Pj (List.drop 1) e1;simpa [PK] using this
      have t2:Y.toList.drop (i+1)=us:=by
       have:=Pj (List.drop 1) e2;simpa [PK] using this
      simp only[bw] at h;split at h
      ·rename_i p q hp hq;cases h;have rec':=qe (d:=d) (i:=i+1) hks (t1▸q1) (t2▸q2) hq;simp only[Op.eqFields,hn,ne_eq,not_false_eq_true,Of,Sem.run_bind,ho,dQ hk g1,dQ hk g2,Result.andThen_ok,nz hk r1 r2 hp];cases p
       ·simp
       ·simpa using rec'
      ·cases h
   ·cases hf
  ·cases hf
theorem gO(w:World)(t e:TypeId)(a:Option Addr)(n c:Nat)(h:P.underlying t=some (.slice e)):
  (binOp .eql t (.slice a n c) (.slice none 0 0)).run P w= .ok (.bool a.isNone) w/\(binOp .neq t (.slice a n c) (.slice none 0 0)).run P w= .ok (.bool (!a.isNone)) w:=by
 have hq:∀d:Nat,(Op.equalIn (d+1) t (.slice a n c) (.slice none 0 0)).run P w= .ok a.isNone w:=λd=>by
  cases a<;>simp[Op.equalIn,run_underlying h]
 constructor
 ·simp only[binOp];simp[Op.equal,Op.maxDepth,hq 9999]
 ·simp only[binOp];simp[Op.equal,Op.maxDepth,hq 9999]
theorem Cn{op:BinOp}{neg:Bool}{xT yT e:TypeId}{x y:Operand}{b:Opd}{z:AV}(hop:o.op= .binOp op xT x y yT)(hT:P.underlying xT=some (.slice e))(hy:y= .const (.slice none 0 0))
  (hn:op= .eql/\neg=false\/op= .neq/\neg=true) (h1:opd P xT x=some b)
  (ht:cG G w t a) (hz:eqN neg (ev t b)=some z):Plain P G w a o z:=by
 have r1:=aK h1 ht;generalize ev t b=X at*
 unfold Plain;subst hy;simp only[execOp,hop];have he:a.eval (.const (.slice none 0 0))= .slice none 0 0:=rfl;rw[he];generalize hx:a.eval x=vx at*
 unfold eqN at hz;split at hz
 ·cases hz;simp only[aC] at r1;rcases r1 with ⟨h,-⟩|⟨B,off,C,vs,h1,-⟩
  ·cases h
  ·subst h1;rcases hn with ⟨rfl,rfl⟩|⟨rfl,rfl⟩ <;>simp[eqGuard,(gO w xT e _ _ _ hT).1,(gO w xT e _ _ _ hT).2,aC]
 ·cases hz;simp only[aC] at r1;obtain ⟨-,⟨C,c,T,fr,rfl,-⟩|⟨-,⟨a0,rfl⟩,-⟩⟩:=r1<;>
  rcases hn with ⟨rfl,rfl⟩|⟨rfl,rfl⟩ <;>simp[eqGuard,(gO w xT e _ _ _ hT).1,(gO w xT e _ _ _ hT).2,aC]
 ·cases hz;simp only[aC] at r1;subst r1;rcases hn with ⟨rfl,rfl⟩|⟨rfl,rfl⟩ <;>simp[eqGuard,(gO w xT e _ _ _ hT).1,(gO w xT e _ _ _ hT).2,aC]
 ·cases hz
theorem Ev{op:UnOp}{xT:TypeId}{x:Operand}{b:Opd}{z:AV}(hop:o.op= .unOp op xT x)(h1:opd P xT x=some b)
  (ht:cG G w t a) (hz:unop op (ev t b)=some z):Plain P G w a o z:=by
 have r1:=aK h1 ht;generalize ev t b=X at*
 unfold Plain;simp only[execOp,hop];generalize hx:a.eval x=vx at*
 unfold unop at hz;split at hz
 ·cases hz;simp only[aC] at r1;subst r1;simp[Op.unary,aC]
 ·cases hz;simp only[aC] at r1;subst r1;simp[Op.unary,Op.intArith,aC]
 ·simp only[ru,lK,Om] at hz;subst hz;simp only[aC] at r1;subst r1;simp[Op.unary,Op.intBits,aC]
 ·cases hz;simp only[aC] at r1;subst r1;simp[Op.unary,aC]
 ·cases hz
theorem tI{y:Opd}{z:Operand}{ty:TypeId}(hop:o.op= .move z\/o.op= .assign z)(h1:opd P ty z=some y)(ht:cG G w t a):Plain P G w a o (ev t y):=by
 have r1:=aK h1 ht;unfold Plain;rcases hop with hop|hop<;>exact ⟨a.eval z,by simp[execOp,hop],r1⟩
theorem yG{y1 y2 y3:Opd}{z1 z2 z3:Operand}{t1 t2 t3:TypeId}{c:Bool}(hop:o.op= .pick z1 z2 z3)(h1:opd P t1 z1=some y1)(h2:opd P t2 z2=some y2)(h3:opd P t3 z3=some y3)
  (ht:cG G w t a) (hc:ev t y1= .bool c):Plain P G w a o (if c then ev t y2 else ev t y3):=by
 have r1:=aK h1 ht;have r2:=aK h2 ht;have r3:=aK h3 ht;rw[hc] at r1;simp only[aC] at r1;refine ⟨if c then a.eval z2 else a.eval z3,?_,?_⟩
 ·simp[execOp,hop,r1,asBool]
 ·cases c<;>simpa
theorem Co{y:Opd}{z:Operand}{ty:TypeId}{i:Nat}{xs:List AV}(hop:o.op= .extract z i)(h1:opd P ty z=some y)(ht:cG G w t a)(hx:ev t y= .tup xs)(hi:xs[i]? =some x):Plain P G w a o x:=by
 have r1:=aK h1 ht;rw[hx] at r1;simp only[aC] at r1;obtain ⟨vs,hv,hr⟩:=r1;obtain ⟨v,hv',hr'⟩:=hr.get hi;exact ⟨v,by simp[execOp,hop,hv,Instr.extract,hv'],hr'⟩
theorem yH{fn:Fn}{f1 f2:Array Operand}{y1 y2:List Opd}(hop:o.op= .makeFunc fn f1 f2)(h1:ny P [] f1.toList=some y1)(h2:ny P [] f2.toList=some y2)(ht:cG G w t a):
  Plain P G w a o (.clo fn (y1.map (ev t)) (y2.map (ev t))):=by
 have r1:=iv ht h1;have r2:=iv ht h2;refine ⟨.func fn (f1.map a.eval) (f2.map a.eval),by simp[execOp,hop,Instr.makeFunc],?_⟩;simp only[aC];have e:∀f:Array Operand,f.map a.eval=(f.toList.map a.eval).toArray:=λf=>by cases f;simp
 exact ⟨f1.toList.map a.eval,f2.toList.map a.eval,by rw[e f1,e f2],r1,r2⟩
theorem qf{y:Opd}{z:Operand}{ty:TypeId}(hop:o.op= .nilCheck z)(h1:opd P ty z=some y)(ht:cG G w t a)(hx:(∃id off,ev t y= .ptr id off)\/∃cs,ev t y= .ref cs):Plain P G w a o (ev t y):=by
 have r1:=aK h1 ht;rcases hx with ⟨id,off,hx⟩|⟨cs,hx⟩ <;>rw[hx] at r1 |- <;>simp only[aC] at r1
 ·exact ⟨a.eval z,by simp[execOp,hop,r1.2],by simp only[aC];exact r1⟩
 ·obtain ⟨B,off,vs,e1,e2⟩:=id r1;exact ⟨a.eval z,by simp[execOp,hop,e1],by simp only[aC];exact r1⟩
theorem Cp{y1 y2:Opd}{z1 z2:Operand}{ty:TypeId}{k:IntKind}{i:Int}{l:List UInt8}(hT:P.underlying ty=some .string)(hop:o.op= .index ty z1 z2)(h1:opd P ty z1=some y1)(h2:opd P 0 z2=some y2)(ht:cG G w t a)
  (hx:ev t y1= .str l) (hi:ev t y2= .int k i) (hb:0<=i/\i<l.length):Plain P G w a o (byte (l.getD i.toNat 0)):=by
 have r1:=aK h1 ht;have r2:=aK h2 ht;rw[hx] at r1;rw[hi] at r2;simp only[aC] at r1 r2;have hlt:i.toNat<l.length:=by omega
 have hb':0<=i:=hb.1;refine ⟨.int .u8 (l.getD i.toNat 0).toNat,?_,by simp[byte,aC]⟩;have e1:(ByteArray.mk l.toArray)[i.toNat]? =some (l.getD i.toNat 0):=by
  have hs:(ByteArray.mk l.toArray).size=l.length:=by simp[ByteArray.size]
  rw[getElem?_pos _ _ (by rw[hs];exact hlt)];simp[List.getD,N5 hlt];rfl
 simp[execOp,hop,Instr.index,r1,r2,run_underlying hT,asIntOf,hb',e1]
theorem yI{y:Opd}{z:Operand}{ty:TypeId}{c:Call}{B:Nat}(hop:o.op= .call c)(hc:c.callee= .builtin .len)(ha:c.args.toList=[z])(hta:c.argTypes.toList=[ty])
  (h1:opd P ty z=some y) (ht:cG G w t a) (hT:P.underlying ty=some .string) (e1:ev t y= .sup B):Plain P G w a o (.wint .i64):=by
 have r1:=aK h1 ht;have ha':c.args= #[z]:=by rw[<-Array.toArray_toList (xs:=c.args),ha]
 have hta':c.argTypes= #[ty]:=by rw[<-Array.toArray_toList (xs:=c.argTypes),hta]
 rw[e1] at r1;simp only[aC] at r1;obtain ⟨l,r1,-⟩:=r1;have hs:(ByteArray.mk l.toArray).size=l.length:=by simp[ByteArray.size]
 refine ⟨.int .i64 l.length,?_,by simp[aC]⟩;simp[execOp,hop,resolve,hc,ha',hta',invoke,builtin,Builtin.len_,run_underlying hT,r1,goInt,hs]
theorem pf{y:Opd}{z:Operand}{ty:TypeId}{c:Call}{n:Nat}(hop:o.op= .call c)(hc:c.callee= .builtin .len)(ha:c.args.toList=[z])(hta:c.argTypes.toList=[ty])
  (h1:opd P ty z=some y) (ht:cG G w t a)
  (hx:(P.underlying ty=some .string/\∃l,ev t y= .str l/\n=l.length)\/(∃e,P.underlying ty=some (.slice e))/\((∃s xs c,ev t y= .sl s xs c/\n=xs.length)\/∃sz id off cap,ev t y= .tsl sz id off n cap)):Plain P G w a o (.int .i64 n):=by
 have r1:=aK h1 ht;have ha':c.args= #[z]:=by rw[<-Array.toArray_toList (xs:=c.args),ha]
 have hta':c.argTypes= #[ty]:=by rw[<-Array.toArray_toList (xs:=c.argTypes),hta]
 refine ⟨.int .i64 n,?_,by simp[aC]⟩;rcases hx with ⟨hT,l,e1,e2⟩|⟨⟨e,hT⟩,⟨s,xs,c',e1,e2⟩|⟨sz,id,off,cap,e1⟩⟩
 ·rw[e1] at r1;simp only[aC] at r1;have hs:(ByteArray.mk l.toArray).size=n:=by simp[ByteArray.size,e2]
  simp[execOp,hop,resolve,hc,ha',hta',invoke,builtin,Builtin.len_,run_underlying hT,r1,goInt,hs]
 ·rw[e1] at r1;simp only[aC] at r1;rcases r1 with ⟨rfl,⟨a0,r1⟩,-⟩|⟨B,off,C,vs,r1,-⟩ <;>
   simp[execOp,hop,resolve,hc,ha',hta',invoke,builtin,Builtin.len_,run_underlying hT,r1,goInt,e2]
 ·rw[e1] at r1;simp only[aC] at r1;obtain ⟨-,⟨C,c0,T0,fr,r1,-⟩|⟨h0,⟨a0,r1⟩,-⟩⟩:=r1
  ·simp[execOp,hop,resolve,hc,ha',hta',invoke,builtin,Builtin.len_,run_underlying hT,r1,goInt]
  ·simp[execOp,hop,resolve,hc,ha',hta',invoke,builtin,Builtin.len_,run_underlying hT,r1,goInt,h0]
theorem tJ{y:Opd}{z:Operand}{ty e:TypeId}{c:Call}{n:Nat}(hop:o.op= .call c)(hc:c.callee= .builtin .cap)(ha:c.args.toList=[z])(hta:c.argTypes.toList=[ty])
  (h1:opd P ty z=some y) (ht:cG G w t a) (hT:P.underlying ty=some (.slice e)) (hx:(∃s xs,ev t y= .sl s xs (.exact n))\/∃sz id off len,ev t y= .tsl sz id off len (some n)):Plain P G w a o (.int .i64 n):=by
 have r1:=aK h1 ht;have ha':c.args= #[z]:=by rw[<-Array.toArray_toList (xs:=c.args),ha]
 have hta':c.argTypes= #[ty]:=by rw[<-Array.toArray_toList (xs:=c.argTypes),hta]
 refine ⟨.int .i64 n,?_,by simp[aC]⟩;have key:∃ad len,a.eval z= .slice ad len n:=by
  rcases hx with ⟨s,xs,e1⟩|⟨sz,id,off,len,e1⟩
  ·rw[e1] at r1;simp only[aC] at r1;rcases r1 with ⟨-,⟨a0,r1⟩,hn⟩|⟨B,off,C,vs,r1,-,-,-,-,hC⟩
   ·simp only[kI] at hn;exact ⟨_,_,by rw[r1,hn]⟩
   ·simp only[dc] at hC;exact ⟨_,_,by rw[r1,hC]⟩
  ·rw[e1] at r1;simp only[aC] at r1;obtain ⟨-,⟨C,c0,T0,fr,r1,-,hk,-⟩|⟨h0,⟨a0,r1⟩,hk⟩⟩:=r1
   ·exact ⟨_,_,by rw[r1,hk n rfl]⟩
   ·exact ⟨_,_,by rw[r1,hk n rfl]⟩
 obtain ⟨ad,len,key⟩:=key;simp[execOp,hop,resolve,hc,ha',hta',invoke,builtin,Builtin.cap_,run_underlying hT,key,goInt]
theorem Cq{y:Opd}{z:Operand}{ty:TypeId}{d:TypeDesc}(hop:o.op= .makeInterface ty z)(hT:P.underlying ty=some d)(hd:∀q,d≠ .interface q)(h1:opd P ty z=some y)(ht:cG G w t a):Plain P G w a o (.ifc ty (ev t y)):=by
 have r1:=aK h1 ht;refine ⟨.iface ty (a.eval z),?_,by simp only[aC];exact ⟨_,rfl,r1⟩⟩;have hr:(Instr.makeInterface ty (a.eval z)).run P w= .ok (.iface ty (a.eval z)) w:=by
  cases d<;>first|exact absurd rfl (hd _)|simp[Instr.makeInterface,Sem.run_bind,run_underlying hT,Result.andThen]
 simp[execOp,hop,Sem.run_bind,hr,Result.andThen]
theorem wA{mx:Bool}{y1 y2:Opd}{z1 z2:Operand}{c:Call}{z:AV}(hop:o.op= .call c)(hc:c.callee= .builtin (if mx then .max else .min))(ha:c.args.toList=[z1,z2])
  (h1:opd P 0 z1=some y1) (h2:opd P 0 z2=some y2) (ht:cG G w t a) (hz:mm mx (ev t y1) (ev t y2)=some z):Plain P G w a o z:=by
 have r1:=aK h1 ht;have r2:=aK h2 ht;have ha':c.args= #[z1,z2]:=by rw[<-Array.toArray_toList (xs:=c.args),ha]
 generalize ev t y1=X at*
 generalize ev t y2=Y at*
 unfold mm at hz;split at hz
 ·rename_i k p k' q;cases hz;simp only[aC] at r1 r2;cases mx
  ·simp only[Oq,Od] at hc |-;exact ⟨_,by simp[execOp,hop,resolve,hc,ha',invoke,builtin,Builtin.min_,Builtin.min2,r1,r2];rfl,by simp[aC]⟩
  ·simp only[Of] at hc |-;exact ⟨_,by simp[execOp,hop,resolve,hc,ha',invoke,builtin,Builtin.max_,Builtin.max2,r1,r2];rfl,by simp[aC]⟩
 ·rename_i p q;cases hz;simp only[aC] at r1 r2;have hb:∀(u v:List UInt8),(u == v)=decide (u=v):=λu v=>by
   rw[Q5];simp
  cases mx
  ·simp only[Oq,Od] at hc |-;refine ⟨.string (if (Op.bytesLess p q||decide (p=q))=true then ⟨p.toArray⟩ else ⟨q.toArray⟩),?_,?_⟩
   ·simp[execOp,hop,resolve,hc,ha',invoke,builtin,Builtin.min_,Builtin.min2,r1,r2,Op.stringOp,asBool,ByteArray.toList_eq,hb]
   ·simp only[aC];split<;>rfl
  ·simp only[Of] at hc |-;refine ⟨.string (if (!Op.bytesLess p q)=true then ⟨p.toArray⟩ else ⟨q.toArray⟩),?_,?_⟩
   ·simp[execOp,hop,resolve,hc,ha',invoke,builtin,Builtin.max_,Builtin.max2,r1,r2,Op.stringOp,asBool,ByteArray.toList_eq,hb]
   ·simp only[aC];split<;>rfl
 ·cases hz
theorem yJ{c:Call}{z:Operand}{y:Opd}{T:TypeId}{sz id off:Nat}{cap:Option Nat}(hop:o.op= .call c)(hc:c.callee= .builtin .clear)(ha:c.args.toList=[z])(hta:c.argTypes.toList=[T])
  (hy:opd P T z=some y) (ht:cG G w t a) (hx:ev t y= .tsl sz id off 0 cap) (hT:∃d,P.underlying T=some d):Plain P G w a o .any:=by
 have r1:=aK hy ht;have ha':c.args= #[z]:=by rw[<-Array.toArray_toList (xs:=c.args),ha]
 have hta':c.argTypes= #[T]:=by rw[<-Array.toArray_toList (xs:=c.argTypes),hta]
 obtain ⟨d,hT⟩:=hT;rw[hx] at r1;simp only[aC] at r1;refine ⟨.tuple #[],?_,by simp[aC]⟩;obtain ⟨-,⟨C,c0,T0,fr,r1,-⟩|⟨-,⟨a0,r1⟩,-⟩⟩:=r1<;>
  cases d<;>simp[execOp,hop,resolve,hc,ha',hta',invoke,builtin,Builtin.clear_,run_underlying hT,r1]
end
section
variable{P:Program}{G:aT}{w:World}
theorem add_plain(B off k:Nat):(⟨B,off,none⟩:Addr).add k=⟨B,off+k,none⟩:=by
 unfold Addr.add;split<;>simp_all
theorem aL.length{sz:Nat}:∀{xs:List AV}{vs:List Value},aL G w sz xs vs->vs.length=xs.length*sz
 |[],vs,h=>by simp only[aL] at h;simp[h]
 |x::xs,vs,h=>by
  simp only[aL] at h;obtain ⟨v,us,rfl,h1,_,h2⟩:=h;simp[aL.length h2,h1,Pz];omega
theorem aL.drop{sz:Nat}:∀{xs:List AV}{vs:List Value}(n:Nat),aL G w sz xs vs->aL G w sz (xs.drop n) (vs.drop (n*sz))
 |xs,vs,0,h=>by simpa using h
 |[],vs,n+1,h=>by simp only[aL] at h;simp[h,aL]
 |x::xs,vs,n+1,h=>by
  simp only[aL] at h;obtain ⟨v,us,rfl,h1,_,h2⟩:=h;have e:(n+1)*sz=v.cells.toList.length+n*sz:=by simp[h1,Pz];omega
  have e2:(v.cells.toList++us).drop (v.cells.toList.length+n*sz)=us.drop (n*sz):=by
   rw[<-PK,List.drop_left]
  rw[e,e2];simpa using aL.drop n h2
theorem aL.take{sz:Nat}:∀{xs:List AV}{vs:List Value}(n:Nat),aL G w sz xs vs->aL G w sz (xs.take n) (vs.take (n*sz))
 |xs,vs,0,h=>by simp[aL]
 |[],vs,n+1,h=>by simp only[aL] at h;simp[h,aL]
 |x::xs,vs,n+1,h=>by
  simp only[aL] at h;obtain ⟨v,us,rfl,h1,h1',h2⟩:=h;have e:(n+1)*sz=v.cells.toList.length+n*sz:=by simp[h1,Pz];omega
  rw[e,List.take_length_add_append];simp only[List.take_succ_cons,aL];exact ⟨v,_,rfl,h1,h1',aL.take n h2⟩
theorem aL.append{sz:Nat}:∀{xs ys:List AV}{vs us:List Value},aL G w sz xs vs->aL G w sz ys us->aL G w sz (xs++ys) (vs++us)
 |[],ys,vs,us,h,h'=>by simp only[aL] at h;subst h;simpa using h'
 |x::xs,ys,vs,us,h,h'=>by
  simp only[aL] at h;obtain ⟨v,vs',rfl,h1,h2,h3⟩:=h;simp only[List.cons_append,aL,OX];exact ⟨v,_,rfl,h1,h2,aL.append h3 h'⟩
theorem aL.get{sz:Nat}:∀{xs:List AV}{vs:List Value}(i:Nat),aL G w sz xs vs->i<xs.length->
  ∃v:Value,v.cells.size=sz/\aC G w (xs.getD i .any) v/\∀j u,v.cells.toList[j]? =some u->vs[i*sz+j]? =some u
 |[],vs,i,h,hi=>by simp at hi
 |x::xs,vs,0,h,hi=>by
  simp only[aL] at h;obtain ⟨v,us,rfl,h1,h2,h3⟩:=h;refine ⟨v,h1,by simpa using h2,λj u hu=>?_⟩;have:j<v.cells.toList.length:=by
   rcases Py j v.cells.toList.length with h|h
   ·exact h
   ·rw[Pq h] at hu;cases hu
  rw[OW (by simpa using this)];simpa using hu
 |x::xs,vs,i+1,h,hi=>by
  simp only[aL] at h;obtain ⟨v,us,rfl,h1,h2,h3⟩:=h;obtain ⟨v',e1,e2,e3⟩:=aL.get i h3 (by simpa using hi);refine ⟨v',e1,by simpa using e2,λj u hu=>?_⟩;have e:(i+1)*sz+j=v.cells.toList.length+(i*sz+j):=by simp[h1,Pz];omega
  rw[e,PE ae];simpa using e3 j u hu
theorem dU{x:AV}{v:Value}(h:aC G w x v)(hx:cL x=true\/∃cs,x= .agg cs):aE G w (cellsOf x) v.cells.toList:=by
 rcases hx with hx|⟨cs,rfl⟩
 ·have hv:v.cells= #[v]:=by
   cases x<;>simp only[aC] at h<;>simp[cL] at hx<;>first
    |(subst h;rfl)
    |(obtain ⟨-,rfl⟩:=h;rfl)
    |skip
   ·rename_i u;cases u<;>simp_all<;>rfl
   ·rcases h with ⟨-,⟨_,rfl⟩,-⟩|⟨_,_,_,_,rfl,-⟩ <;>rfl
   ·obtain ⟨_,_,_,rfl,-⟩:=h;rfl
   ·obtain ⟨-,⟨_,_,_,_,rfl,-⟩|⟨-,⟨_,rfl⟩,-⟩⟩:=h<;>rfl
   ·obtain ⟨_,_,rfl,-⟩:=h;rfl
   ·obtain ⟨_,rfl,-⟩:=h;rfl
   ·obtain ⟨_,_,_,_,_,rfl,-⟩:=h;rfl
   ·obtain ⟨_,rfl,-⟩:=h;rfl
   ·obtain ⟨_,_,⟨-,_,rfl⟩|⟨_,_,_,rfl,-⟩⟩:=h<;>rfl
   ·obtain ⟨h1,h2⟩:=h;cases v<;>first|rfl|exact absurd rfl (h1 _)|exact absurd rfl (h2 _)
  rw[hv];have:cellsOf x=[x]:=by cases x<;>simp[cL] at hx<;>rfl
  rw[this];exact .cons h .nil
 ·simp only[aC] at h;obtain ⟨vs,rfl,hr⟩:=h;simpa [cellsOf,Value.cells] using hr
theorem yK{x:AV}{v:Value}(h:aC G w x v)(hx:cL x=true):One v:=by
 unfold One;cases x
 case sc u=>simp only[aC] at h;subst h;cases v<;>simp_all [cL]
 case sl=>simp only[aC] at h;rcases h with ⟨-,⟨_,rfl⟩,-⟩|⟨_,_,_,_,rfl,-⟩ <;>simp
 case ref=>simp only[aC] at h;obtain ⟨_,_,_,rfl,-⟩:=h;simp
 case tsl=>simp only[aC] at h;obtain ⟨-,⟨_,_,_,_,rfl,-⟩|⟨-,⟨_,rfl⟩,-⟩⟩:=h<;>simp
 case clo=>simp only[aC] at h;obtain ⟨_,_,rfl,-⟩:=h;simp
 case ifc=>simp only[aC] at h;obtain ⟨_,rfl,-⟩:=h;simp
 case slt=>simp only[aC] at h;obtain ⟨_,_,_,_,_,rfl,-⟩:=h;simp
 case sup=>simp only[aC] at h;obtain ⟨_,rfl,-⟩:=h;simp
 case supb=>simp only[aC] at h;obtain ⟨_,_,⟨-,_,rfl⟩|⟨_,_,_,rfl,-⟩⟩:=h<;>simp
 case wint=>simp only[aC] at h;obtain ⟨_,rfl⟩:=h;simp
 case one=>simp only[aC] at h;exact h
 all_goals first
  |(simp [cL] at hx;done)
  |(simp only[aC] at h;subst h;simp;done)
  |(simp only[aC] at h;obtain ⟨-,rfl⟩:=h;simp;done)
theorem Imm.drop{B off:Nat}{vs:List Value}(n:Nat)(h:Imm G w B off vs):Imm G w B (off+n) (vs.drop n):=by
 intro i v hv;rw[Qm] at hv;have:=h (n+i) v hv
 rwa [<-Rk] at this
theorem Imm.take{B off:Nat}{vs:List Value}(n:Nat)(h:Imm G w B off vs):Imm G w B off (vs.take n):=by
 intro i v hv;rw[List.getElem?_take] at hv;split at hv
 ·exact h i v hv
 ·cases hv
theorem Imm.nil{B off:Nat}:Imm G w B off []:=λi v hv=>by simp at hv
variable{t:Tm}{a:Act}{o:Oper}{h h':H}{x:AV}{en:Ent}
theorem jX(P:Program)(w:World)(ty:TypeId)(hs:(P.underlying ty).isSome=true):(isAgg ty).run P w= .ok (bQ P ty) w:=by
 obtain ⟨d,hd⟩:=QC.1 hs;simp only[isAgg,Sem.run_bind,run_underlying hd,Result.andThen_ok,bQ,hd];cases d<;>rfl
theorem fp(P:Program)(w:World){k:IntKind}{i:Int}{y:Nat}{code:BoundsCode}(h0:0<=i)(h1:i<=y):(Instr.sliceBound (.int k i) y code).run P w= .ok i.toNat w:=by
 simp[Instr.sliceBound,asIntOf,h0,h1]
theorem cH(P:Program)(w:World)(ty:TypeId)(hs:(P.info? ty).isSome=true):(sizeOf ty).run P w= .ok (P.cellsOf ty) w:=by
 obtain ⟨d,hd⟩:=QC.1 hs;simp[sizeOf,typeInfo,hd,Program.cellsOf]
theorem jz(P:Program)(w:World)(ty:TypeId)(B off:Nat)(cs:List Value)(h1:(P.info? ty).isSome=true)(h2:(P.underlying ty).isSome=true)(hagg:bQ P ty=true)
  (hn:cs.length=P.cellsOf ty) (hc:∀j v,cs[j]? =some v->w.cell? ⟨B,off+j,none⟩=some v):(loadVar ty ⟨B,off,none⟩).run P w= .ok (.agg cs.toArray) w:=by
 have hl:=run_loadCells_list (P:=P) w ⟨B,off,none⟩ cs (λj v hv=>by rw[add_plain];exact hc j v hv);simp only[loadVar,Sem.run_bind,jX P w ty h2,hagg,Result.andThen_ok,cH P w ty h1,<-hn,Of,Sem.run_map];simp[hl]
theorem jY(P:Program)(w:World)(ty:TypeId)(ad:Addr)(v:Value)(h2:(P.underlying ty).isSome=true)(hagg:bQ P ty=false)
  (hc:w.cell? ad=some v):(loadVar ty ad).run P w= .ok v w:=by
 simp[loadVar,jX P w ty h2,hagg,hc]
theorem nA{off:Nat}{n:Option Nat}{cs:List AV}{vs:List Value}(hr:aE G w cs vs)(hp:part off n cs=some x):
  (n=none/\∃v,vs[off]? =some v/\aC G w x v)\/∃m,n=some m/\off+m<=vs.length/\aC G w x (.agg ((vs.drop off).take m).toArray):=by
 unfold part at hp;split at hp
 ·obtain ⟨v,h1,h2⟩:=hr.get hp;exact .inl ⟨rfl,v,h1,h2⟩
 ·rename_i m;split at hp
  ·cases hp;refine .inr ⟨m,rfl,by rw[hr.length];assumption,?_⟩;simp only[aC];exact ⟨_,rfl,(hr.drop off).take m⟩
  ·cases hp
theorem nB{ty:TypeId}{z:Operand}{y:Opd}(hop:o.op= .load ty z)(h1:(P.info? ty).isSome=true)(h2:(P.underlying ty).isSome=true)(hy:opd P 0 z=some y)(ht:cG G w t a)
  {B off:Nat} {vs:List Value} {cs:List AV} (hv:a.eval z= .pointer (some ⟨B,off,none⟩)) (hr:aE G w cs vs) (hc:∀j v,vs[j]? =some v->w.cell? ⟨B,off+j,none⟩=some v)
  (hp:part 0 (if bQ P ty then some (P.cellsOf ty) else none) cs=some x):Plain P G w a o x:=by
 rcases nA hr hp with ⟨e,v,e1,e2⟩|⟨m,e,e1,e2⟩
 ·have hagg:bQ P ty=false:=by
   cases hh:bQ P ty<;>simp[hh] at e |-
  refine ⟨v,?_,e2⟩;have:=jY P w ty ⟨B,off,none⟩ v h2 hagg (by simpa using hc 0 v e1);simp[execOp,hop,Instr.loadAt,hv,Instr.sureAddr,this]
 ·have hagg:bQ P ty=true:=by
   cases hh:bQ P ty<;>simp[hh] at e |-
  have hm:m=P.cellsOf ty:=by simpa [hagg] using e.symm
  refine ⟨_,?_,e2⟩;have:=jz P w ty B off ((vs.drop 0).take m) h1 h2 hagg (by simp[hm] at e1 |-;omega) (λj v hj=>hc j v (by
   rw[List.getElem?_take] at hj;split at hj
   ·simpa using hj
   ·cases hj))
  rw[Pw] at this;simp[execOp,hop,Instr.loadAt,hv,Instr.sureAddr,this]
theorem wB(P:Program)(w:World)(ty:TypeId)(off:Nat)(cs:List AV)(vs:List Value)(h1:(P.info? ty).isSome=true)(h2:(P.underlying ty).isSome=true)(hr:aE G w cs vs)
  (hp:part off (if bQ P ty then some (P.cellsOf ty) else none) cs=some x):∃v,(Go.part ty vs.toArray off).run P w= .ok v w/\aC G w x v:=by
 rcases nA hr hp with ⟨e,v,e1,e2⟩|⟨m,e,e1,e2⟩
 ·have hagg:bQ P ty=false:=by
   cases hh:bQ P ty<;>simp[hh] at e |-
  refine ⟨v,?_,e2⟩;simp[Go.part,jX P w ty h2,hagg,e1]
 ·have hagg:bQ P ty=true:=by
   cases hh:bQ P ty<;>simp[hh] at e |-
  have hm:m=P.cellsOf ty:=by simpa [hagg] using e.symm
  refine ⟨_,?_,e2⟩;simp[Go.part,jX P w ty h2,hagg,cH P w ty h1,hm]
theorem Cr{ty:TypeId}{z:Operand}{y:Opd}{f:Nat}{fs:Array Field}{fd:Field}{cs:List AV}(hop:o.op= .field ty z f)(hu:P.underlying ty=some (.struct fs))(hf:fs[f]? =some fd)
  (h1:(P.info? fd.type).isSome=true) (h2:(P.underlying fd.type).isSome=true) (hy:opd P ty z=some y) (ht:cG G w t a) (hx:ev t y= .agg cs)
  (hp:part fd.offset (if bQ P fd.type then some (P.cellsOf fd.type) else none) cs=some x):Plain P G w a o x:=by
 have r:=aK hy ht;rw[hx] at r;simp only[aC] at r;obtain ⟨vs,hv,hr⟩:=r;obtain ⟨v,e1,e2⟩:=wB P w fd.type fd.offset cs vs h1 h2 hr hp;exact ⟨v,by simp[execOp,hop,Instr.field,run_underlying hu,hf,hv,asAgg,e1],e2⟩
theorem qg{ty:TypeId}{z:Operand}{y:Opd}{f:Nat}{fs:Array Field}{fd:Field}(hop:o.op= .fieldAddr ty z f)(hu:P.underlying ty=some (.struct fs))(hf:fs[f]? =some fd)
  (h1:(P.info? fd.type).isSome=true) (h2:0<P.cellsOf fd.type) (hy:opd P 0 z=some y) (ht:cG G w t a)
  (hx:(∃cs,ev t y= .ref cs/\x= .ref (cs.drop fd.offset))\/∃id off,ev t y= .ptr id off/\x= .ptr id (off+fd.offset)):Plain P G w a o x:=by
 have r:=aK hy ht;have hz:P.cellsOf fd.type≠0:=by omega
 rcases hx with ⟨cs,hx,rfl⟩|⟨id,off,hx,rfl⟩
 ·rw[hx] at r;simp only[aC] at r;obtain ⟨B,off,vs,hv,hr,hi⟩:=r;refine ⟨.pointer (some ⟨B,off+fd.offset,none⟩),?_,?_⟩
  ·simp[execOp,hop,Instr.fieldAt,run_underlying hu,hf,hv,Instr.sureAddr,fieldPlace,cH P w _ h1,hz,add_plain]
  ·simp only[aC];exact ⟨B,_,_,rfl,hr.drop _,hi.drop _⟩
 ·rw[hx] at r;simp only[aC] at r;obtain ⟨hd,hv⟩:=r;refine ⟨.pointer (some ⟨G.ι id,off+fd.offset,none⟩),?_,?_⟩
  ·simp[execOp,hop,Instr.fieldAt,run_underlying hu,hf,hv,Instr.sureAddr,fieldPlace,cH P w _ h1,hz,add_plain]
  ·simp only[aC];exact ⟨hd,trivial⟩
theorem qh{ty e:TypeId}{z1 z2:Operand}{y1 y2:Opd}{k:IntKind}{i:Int}(hop:o.op= .indexAddr ty z1 z2)(hu:P.underlying ty=some (.slice e))(h1:(P.info? e).isSome=true)
  (hy1:opd P ty z1=some y1) (hy2:opd P 0 z2=some y2) (ht:cG G w t a) (hi:ev t y2= .int k i) (h0:0<=i)
  (hx:(∃xs c,ev t y1= .sl (P.cellsOf e) xs c/\i<xs.length/\x= .ref (cellsOf (xs.getD i.toNat .any))/\(cL (xs.getD i.toNat .any)=true\/∃cs,xs.getD i.toNat .any= .agg cs))\/
   ∃id off len cap,ev t y1= .tsl (P.cellsOf e) id off len cap/\i<len/\x= .ptr id (off+i.toNat*P.cellsOf e)):Plain P G w a o x:=by
 have r1:=aK hy1 ht;have r2:=aK hy2 ht;rw[hi] at r2;simp only[aC] at r2;rcases hx with ⟨xs,c,hx,hlt,rfl,hcell⟩|⟨id,off,len,cap,hx,hlt,rfl⟩
 ·rw[hx] at r1;simp only[aC] at r1;rcases r1 with ⟨rfl,-⟩|⟨B,off,C,vs,hv,hC,hl,he,him,-⟩
  ·simp at hlt;omega
  ·have hlt':i.toNat<xs.length:=by omega
   obtain ⟨v,e1,e2,e3⟩:=he.get i.toNat hlt';refine ⟨.pointer (some ⟨B,off+i.toNat*P.cellsOf e,none⟩),?_,?_⟩
   ·have hlt2:i<(xs.length:Int):=hlt;simp[execOp,hop,Instr.indexAt,run_underlying hu,hv,r2,asIntOf,h0,hlt2,cH P w _ h1,add_plain]
   ·simp only[aC];refine ⟨B,_,v.cells.toList,rfl,dU e2 hcell,λj u hu'=>?_⟩;have:=him _ u (e3 j u hu');simpa [Rk] using this
 ·rw[hx] at r1;simp only[aC] at r1;obtain ⟨hd,⟨C,c0,T0,fr,hv,-⟩|⟨h0,-⟩⟩:=r1;rotate_left
  ·omega
  refine ⟨.pointer (some ⟨G.ι id,off+i.toNat*P.cellsOf e,none⟩),?_,?_⟩
  ·simp[execOp,hop,Instr.indexAt,run_underlying hu,hv,r2,asIntOf,h0,hlt,cH P w _ h1,add_plain]
  ·simp only[aC];exact ⟨hd,trivial⟩
def wC(lo:Option AV)(vl:Option Value):Prop:=
 match lo,vl with
 |none,none=>True
 |some x,some v=>∃k i,x= .int k i/\v= .int k i
 |_,_=>False
theorem fb{lo:Option AV}{vl:Option Value}{d u r:Nat}(hb:wC lo vl)(hr:bound lo d u=some r):
  (lo=none/\vl=none/\r=d)\/∃k i,lo=some (.int k i)/\vl=some (.int k i)/\0<=i/\i<=u/\r=i.toNat:=by
 cases lo with
 |none=>
  cases vl with
  |none=>simp[bound] at hr;exact .inl ⟨rfl,rfl,hr.symm⟩
  |some v=>cases hb
 |some x=>
  cases vl with
  |none=>cases hb
  |some v=>
   obtain ⟨k,i,rfl,rfl⟩:=hb;simp only[bound] at hr;split at hr
   ·rename_i hh;cases hr;exact .inr ⟨k,i,rfl,rfl,hh.1,hh.2,rfl⟩
   ·cases hr
theorem oc{P:Program}{w:World}{isSl:Bool}{lo hi:Option AV}{vl vh:Option Value}{len cap h l:Nat}(bl:wC lo vl)(bh:wC hi vh)(hh:bound hi len len=some h)(hl:bound lo 0 h=some l)(hc:len<=cap):
  (Instr.sliceBounds isSl len cap vl vh none).run P w= .ok (l,h,cap) w/\l<=h/\h<=len:=by
 have hhl:h<=len:=by
  rcases fb bh hh with ⟨_,_,rfl⟩|⟨k,i,_,_,h0,h1,rfl⟩ <;>omega
 have hlh:l<=h:=by
  rcases fb bl hl with ⟨_,_,rfl⟩|⟨k,i,_,_,h0,h1,rfl⟩ <;>omega
 refine ⟨?_,hlh,hhl⟩;unfold Instr.sliceBounds;rcases fb bh hh with ⟨_,rfl,rfl⟩|⟨k,i,_,rfl,h0,h1,rfl⟩ <;>
  rcases fb bl hl with ⟨_,rfl,rfl⟩|⟨k',i',_,rfl,h0',h1',rfl⟩
 ·simp
 ·simp[fp P w h0' h1']
 ·have h1c:i<=(cap:Int):=by omega
  simp[fp P w h0 h1c]
 ·have h1c:i<=(cap:Int):=by omega
  simp[fp P w h0 h1c,fp P w h0' h1']
theorem AY{P:Program}{w:World}{lo hi:Option AV}{vl vh:Option Value}{vm:Value}{k:IntKind}{j:Int}{len cap h l:Nat}(bl:wC lo vl)(bh:wC hi vh)(hvm:vm= .int k j)(hj:0<=j/\j<=len)(hsome:hi≠none)
  (hh:bound hi len j.toNat=some h) (hl:bound lo 0 h=some l) (hc:len<=cap):
  (Instr.sliceBounds true len cap vl vh (some vm)).run P w= .ok (l,h,j.toNat) w/\l<=h/\h<=j.toNat:=by
 have hhl:h<=j.toNat:=by
  rcases fb bh hh with ⟨e,_⟩|⟨k,i,_,_,h0,h1,rfl⟩
  ·exact absurd e hsome
  ·omega
 have hlh:l<=h:=by
  rcases fb bl hl with ⟨_,_,rfl⟩|⟨k,i,_,_,h0,h1,rfl⟩ <;>omega
 refine ⟨?_,hlh,hhl⟩;subst hvm;have hjc:j<=(cap:Int):=by omega
 unfold Instr.sliceBounds;rcases fb bh hh with ⟨e,_⟩|⟨k,i,_,rfl,h0,h1,rfl⟩
 ·exact absurd e hsome
 ·rcases fb bl hl with ⟨_,rfl,rfl⟩|⟨k',i',_,rfl,h0',h1',rfl⟩
  ·simp[fp P w hj.1 hjc,fp P w h0 h1]
  ·simp[fp P w hj.1 hjc,fp P w h0 h1,fp P w h0' h1']
theorem Cs{ty:TypeId}{vl vh:Option Value}{lo hi:Option AV}{l:List UInt8}{hh ll:Nat}(hu:P.underlying ty=some .string)(bl:wC lo vl)(bh:wC hi vh)
  (h1:bound hi l.length l.length=some hh) (h2:bound lo 0 hh=some ll):
  (Instr.sliceAt ty (.string ⟨l.toArray⟩) vl vh none).run P w= .ok (.string ⟨((l.take hh).drop ll).toArray⟩) w:=by
 have hs:(ByteArray.mk l.toArray).size=l.length:=by simp[ByteArray.size]
 obtain ⟨hb,hlh,hhl⟩:=oc (P:=P) (w:=w) (isSl:=false) bl bh h1 h2 (N4 _);have e:(ByteArray.mk l.toArray).extract ll hh=⟨((l.take hh).drop ll).toArray⟩:=by
  apply ByteArray.ext;simp[ByteArray.data_extract];rw[List.drop_take]
 simp[Instr.sliceAt,run_underlying hu,Instr.slice,hs,hb,e]
theorem tK{s sz:Nat}{xs:List AV}{c':Cap}{B off C ll hh m:Nat}{vs:List Value}(hs:s=sz\/xs=[])(hC:xs.length<=C)(hl:vs.length=xs.length*s)(he:aL G w s xs vs)(hi:Imm G w B off vs)
  (hlh:ll<=hh) (hhx:hh<=xs.length) (hhm:hh<=m)
  (hcap:dc G w c' B (off+ll*s) (hh - ll) (m - ll) s):
  aC G w (.sl s ((xs.take hh).drop ll) c') (.slice (some ⟨B,off+ll*s,none⟩) (hh - ll) (m - ll)):=by
 simp only[aC];have hlen:((xs.take hh).drop ll).length=hh - ll:=by simp[P4 hhx]
 refine .inr ⟨B,off+ll*s,m - ll,(vs.take (hh*s)).drop (ll*s),by rw[hlen],by rw[hlen];omega,?_,?_,(hi.take _).drop _,by rw[hlen];exact hcap⟩
 ·rw[hlen,OY,OV,hl,P4 (PD s hhx),Nat.sub_mul]
 ·exact (he.take hh).drop ll
theorem tL{ty e:TypeId}{z:Operand}{y:Opd}{lo hi mx:Option Operand}{ylo yhi ymx:Option Opd}{str:Bool}{sz:Nat}
  (hop:o.op= .slice ty z lo hi mx) (hT:(str=true/\P.underlying ty=some .string/\mx=none/\ymx=none)\/(str=false/\P.underlying ty=some (.slice e)/\(P.info? e).isSome=true/\sz=P.cellsOf e))
  (hy:opd P ty z=some y) (hlo:lM P lo=some ylo) (hhi:lM P hi=some yhi) (hmx:lM P mx=some ymx) (ht:cG G w t a)
  (hmh:ymx≠none->yhi≠none)
  (hx:slice str sz (ev t y) (ylo.map (ev t)) (yhi.map (ev t)) (ymx.map λm=>some (ev t m))=some x):Plain P G w a o x:=by
 have r:=aK hy ht;have hB:∀{l:Option Operand}{yl:Option Opd}(h:lM P l=some yl){d u r:Nat},bound (yl.map (ev t)) d u=some r->wC (yl.map (ev t)) (l.map a.eval):=by
  intro l yl h d u r hr;cases l with
  |none=>simp[lM] at h;subst h;trivial
  |some q=>
   simp only[lM,Oc] at h;obtain ⟨b,hb,rfl⟩:=h;have rr:=aK hb ht;simp only[Option.map_some] at hr |-;unfold bound at hr;split at hr
   ·rename_i e;cases e
   ·rename_i k i e;simp only[Om] at e;rw[e] at rr;simp only[aC] at rr;exact ⟨k,i,e,rr⟩
   ·cases hr
 unfold slice at hx;split at hx
 ·
  rename_i l hl;rw[hl] at r;simp only[aC] at r;split at hx
  ·rename_i hs;rcases hT with ⟨-,hu,hm1,hm2⟩|⟨h,_⟩
   ·subst hm1 hm2;simp only[Option.map_none,Oe,Oc] at hx;obtain ⟨hh,e1,ll,e2,rfl⟩:=hx;refine ⟨.string ⟨((l.take hh).drop ll).toArray⟩,?_,by simp only[aC]⟩;simp[execOp,hop,r,Cs hu (hB hlo e2) (hB hhi e1) e1 e2]
   ·simp[hs] at h
  ·cases hx
 ·rename_i s xs c hl;rw[hl] at r;split at hx
  ·rename_i hs;obtain ⟨hs1,hs⟩:=hs;rcases hT with ⟨h,_⟩|⟨-,hu,hinf,rfl⟩
   ·simp[hs1] at h
   ·simp only[aC] at r;have hrun:∀(vmx:Option Value)(l h m n C:Nat)(ad:Option Addr),(Instr.sliceBounds true n C (lo.map a.eval) (hi.map a.eval) vmx).run P w= .ok (l,h,m) w->
      (Instr.sliceAt ty (.slice ad n C) (lo.map a.eval) (hi.map a.eval) vmx).run P w= .ok (.slice (if m=l then ad else ad.map (·.add (l*P.cellsOf e))) (h - l) (m - l)) w:=by
     intro vmx l h m n C ad hb;simp[Instr.sliceAt,run_underlying hu,Instr.slice,hb,cH P w e hinf]
    have hmul:∀ll,ll<=xs.length->ll*P.cellsOf e=ll*s:=by
     intro ll hle;rcases hs with rfl|rfl
     ·rfl
     ·simp at hle;subst hle;simp
    split at hx
    ·
     rename_i hmn;have hmx0:mx=none:=by
      cases mx with
      |none=>rfl
      |some q=>
       simp only[lM,Oc] at hmx;obtain ⟨b,hb,rfl⟩:=hmx;simp at hmn
     subst hmx0;simp only[Oe,Oc] at hx;obtain ⟨hh,e1,ll,e2,rfl⟩:=hx;rcases r with ⟨rfl,⟨a0,hv⟩,hcn⟩|⟨B,off,C,vs,hv,hC,hvl,he,him,hcap⟩
     ·obtain ⟨hb,hlh,hhl⟩:=oc (P:=P) (w:=w) (isSl:=true) (hB hlo e2) (hB hhi e1) e1 e2 (N4 _);simp only[List.length_nil] at hhl hb;have hh0:hh=0:=by omega
      have ll0:ll=0:=by omega
      subst hh0 ll0;refine ⟨.slice a0 0 0,?_,?_⟩
      ·simp[execOp,hop,hv,hrun _ _ _ _ _ _ _ hb]
      ·unfold aC;refine .inl ⟨by simp,⟨a0,rfl⟩,?_⟩;cases c<;>simp[nw,kI] at hcn |-;exact hcn
     ·obtain ⟨hb,hlh,hhl⟩:=oc (P:=P) (w:=w) (isSl:=true) (hB hlo e2) (hB hhi e1) e1 e2 hC;have hr:=hrun _ _ _ _ _ _ (some ⟨B,off,none⟩) hb;by_cases hCl:C=ll
      ·subst hCl;have:hh=C:=by omega
       subst this;refine ⟨.slice (some ⟨B,off,none⟩) 0 0,?_,?_⟩
       ·simp[execOp,hop,hv,hr]
       ·simp only[aC];have hxs:(xs.take hh).drop hh=[]:=by simp
        rw[hxs];refine .inr ⟨B,off,0,[],by simp,by simp,by simp,by simp[aL],Imm.nil,?_⟩;have hlx:hh=xs.length:=by omega
        subst hlx;cases c with
        |any=>simp[nw,dc]
        |exact k=>simp[nw,dc] at hcap |-;omega
        |own tk=>simp[nw,dc]
      ·refine ⟨.slice (some ⟨B,off+ll*s,none⟩) (hh - ll) (C - ll),?_,?_⟩
       ·simp[execOp,hop,hv,hr,hCl,add_plain,hmul ll ae]
       ·refine tK hs hC hvl he him hlh hhl ae ?_;unfold nw;split
        ·rename_i hhe;subst hhe;cases c with
         |any=>simp[dc]
         |exact k=>simp[dc] at hcap |-;omega
         |own tk=>
          simp only[dc] at hcap |-;rcases hcap with hcap|⟨k1,k2,k3⟩
          ·exact .inl ae
          ·refine .inr ⟨k1,?_,?_⟩
           ·rw[k2,Rk,<-Pz];congr 4;omega
           ·have:off+ll*s+(C - ll)*s=off+C*s:=by
             rw[Rk,<-Pz];congr 2;omega
            rw[this];exact k3
        ·simp[dc]
    ·rename_i m hmn;have:∃q b,mx=some q/\ymx=some b/\opd P 0 q=some b/\m=some (ev t b):=by
      cases mx with
      |none=>simp[lM] at hmx;subst hmx;simp at hmn
      |some q=>
       simp only[lM,Oc] at hmx;obtain ⟨b,hb,rfl⟩:=hmx;simp at hmn;exact ⟨q,b,rfl,rfl,hb,hmn.symm⟩
     obtain ⟨q,b,rfl,rfl,hqb,rfl⟩:=this;simp only[Oe,Oc] at hx;obtain ⟨mm,e0,hh,e1,ll,e2,rfl⟩:=hx;have rq:=aK hqb ht;have:∃k j,ev t b= .int k j/\0<=j/\j<=xs.length/\mm=j.toNat:=by
      unfold bound at e0;split at e0
      ·rename_i e;cases e
      ·rename_i k i e;simp only[Om] at e;split at e0
       ·rename_i hh0;cases e0;exact ⟨k,i,e,hh0.1,hh0.2,rfl⟩
       ·cases e0
      ·cases e0
     obtain ⟨k,j,hj,hj0,hj1,rfl⟩:=this;rw[hj] at rq;simp only[aC] at rq;have hne:yhi.map (ev t)≠none:=by
      have:=hmh ah;cases yhi<;>simp_all
     rcases r with ⟨rfl,⟨a0,hv⟩,hcn⟩|⟨B,off,C,vs,hv,hC,hvl,he,him,hcap⟩
     ·obtain ⟨hb,hlh,hhl⟩:=AY (P:=P) (w:=w) (cap:=0) (hB hlo e2) (hB hhi e1) rq ⟨hj0,hj1⟩ hne e1 e2 (N4 _);simp only[List.length_nil] at hhl hb hj1;have hj00:j=0:=by simp at hj1;omega
      subst hj00;have hh0:hh=0:=by omega
      have ll0:ll=0:=by omega
      subst hh0 ll0;refine ⟨.slice a0 0 0,?_,?_⟩
      ·simp[execOp,hop,hv,hrun _ _ _ _ _ _ _ hb]
      ·simp only[aC];exact .inl ⟨by simp,⟨a0,rfl⟩,by simp[kI]⟩
     ·obtain ⟨hb,hlh,hhl⟩:=AY (P:=P) (w:=w) (hB hlo e2) (hB hhi e1) rq ⟨hj0,hj1⟩ hne e1 e2 hC;have hr:=hrun _ _ _ _ _ _ (some ⟨B,off,none⟩) hb;by_cases hCl:j.toNat=ll
      ·have:hh=ll:=by omega
       subst this;refine ⟨.slice (some ⟨B,off,none⟩) 0 0,?_,?_⟩
       ·simp[execOp,hop,hv,hr,hCl]
       ·simp only[aC];have hxs:(xs.take hh).drop hh=[]:=by simp
        rw[hxs];refine .inr ⟨B,off,0,[],by simp,by simp,by simp,by simp[aL],Imm.nil,by simp[dc];omega⟩
      ·refine ⟨.slice (some ⟨B,off+ll*s,none⟩) (hh - ll) (j.toNat - ll),?_,?_⟩
       ·simp[execOp,hop,hv,hr,hCl,add_plain,hmul ll ae]
       ·exact tK hs hC hvl he him hlh ae ae (by simp[dc])
  ·cases hx
 ·
  rename_i s id off len c hl;rw[hl] at r;split at hx
  ·rename_i hs;obtain ⟨hs1,rfl⟩:=hs;rcases hT with ⟨h,_⟩|⟨-,hu,hinf,rfl⟩
   ·simp[hs1] at h
   ·simp only[aC] at r;have hrun:∀(vmx:Option Value)(l h m n C:Nat)(ad:Option Addr),(Instr.sliceBounds true n C (lo.map a.eval) (hi.map a.eval) vmx).run P w= .ok (l,h,m) w->
      (Instr.sliceAt ty (.slice ad n C) (lo.map a.eval) (hi.map a.eval) vmx).run P w= .ok (.slice (if m=l then ad else ad.map (·.add (l*P.cellsOf e))) (h - l) (m - l)) w:=by
     intro vmx l h m n C ad hb;simp[Instr.sliceAt,run_underlying hu,Instr.slice,hb,cH P w e hinf]
    split at hx
    ·rename_i hmn;have hmx0:mx=none:=by
      cases mx with
      |none=>rfl
      |some q=>
       simp only[lM,Oc] at hmx;obtain ⟨b,hb,rfl⟩:=hmx;simp at hmn
     subst hmx0;simp only[Oe,Oc] at hx;obtain ⟨hh,e1,ll,e2,rfl⟩:=hx;obtain ⟨hd,hv⟩:=r;have hcap:∀(C k:Nat),(∀q,c=some q->C=q)->(c.map λk=>k - ll)=some k->C - ll=k:=by
      intro C k h1 h2;cases c with
      |none=>cases h2
      |some q=>cases h2;rw[h1 q rfl]
     rcases hv with ⟨C,cc,T,fr,hv,⟨hC,hC63⟩,hk,hg,hroom⟩|⟨h0,⟨a0,hv⟩,hk⟩
     ·obtain ⟨hb,hlh,hhl⟩:=oc (P:=P) (w:=w) (isSl:=true) (hB hlo e2) (hB hhi e1) e1 e2 hC;have hr:=hrun _ _ _ _ _ _ (some ⟨G.ι id,off,none⟩) hb;by_cases hCl:C=ll
      ·subst hCl;refine ⟨.slice (some ⟨G.ι id,off,none⟩) 0 0,?_,?_⟩
       ·have:hh - C=0:=by omega
        simp[execOp,hop,hv,hr,this]
       ·unfold aC;exact ⟨hd,.inr ⟨ae,⟨_,rfl⟩,λk hk'=>by have:=hcap C k hk hk';omega⟩⟩
      ·refine ⟨.slice (some ⟨G.ι id,off+ll*P.cellsOf e,none⟩) (hh - ll) (C - ll),?_,?_⟩
       ·simp[execOp,hop,hv,hr,hCl,add_plain]
       ·unfold aC;refine ⟨hd,.inl ⟨C - ll,cc,T,fr,rfl,⟨ae,ae⟩,λk hk'=>hcap C k hk hk',hg,?_⟩⟩;have:(C - ll)*P.cellsOf e+ll*P.cellsOf e=C*P.cellsOf e:=by rw[<-Pz];congr 1;omega
        omega
     ·subst h0;obtain ⟨hb,hlh,hhl⟩:=oc (P:=P) (w:=w) (isSl:=true) (hB hlo e2) (hB hhi e1) e1 e2 (N4 _);have hh0:hh=0:=by omega
      have ll0:ll=0:=by omega
      subst hh0 ll0;refine ⟨.slice (some a0) 0 0,?_,?_⟩
      ·simp[execOp,hop,hv,hrun _ _ _ _ _ _ _ hb]
      ·unfold aC;refine ⟨hd,.inr ⟨rfl,⟨a0,rfl⟩,λk hk'=>?_⟩⟩;have:=hcap 0 k (λq hq=>(hk q hq).symm) hk';omega
    ·cases hx
  ·cases hx
 ·cases hx
end
section
variable{P:Program}{G:aT}{w:World}
def H.only(objs:Nat->Option Obj)(toks:List Nat)(n m:Nat):H:=⟨objs,n,toks,m⟩
def aB:Nat->Option Obj:=λ_=>none
def dw(w w':World)(o:Go.Obj):Prop:=w'.heap=w.heap.push o/\w'.os=w.os/\w'.output=w.output
theorem dw.old{w':World}{o:Go.Obj}(h:dw w w' o){B:Nat}(hB:B<w.heap.size):w'.heap[B]? =w.heap[B]? :=by
 rw[h.1,PO];split
 ·omega
 ·rfl
theorem dw.new{w':World}{o:Go.Obj}(h:dw w w' o):w'.heap[w.heap.size]? =some o:=by
 rw[h.1];simp
theorem dw.size{w':World}{o:Go.Obj}(h:dw w w' o):w'.heap.size=w.heap.size+1:=by
 rw[h.1];simp
theorem iY{w':World}{o:Go.Obj}(hp:dw w w' o){h h':H}{G':aT}(hO:∀B,¬h.O G B)(hT:∀B,h.T G B->G.lim B=G'.lim B)
  (d1:∀id,G.dom id->G'.dom id) (d2:∀id,G'.dom id->G.dom id\/(h.n<=id/\id<h'.n)) (d3:∀id,G.dom id->G'.ι id=G.ι id)
  (t1:∀id,G.tdom id->G'.tdom id) (t2:∀id,G'.tdom id->G.tdom id\/(h.m<=id/\id<h'.m)) (t3:∀id,G.tdom id->G'.τ id=G.τ id)
  (hn:h.n<=h'.n) (hm:h.m<=h'.m) (ho:∀B,B<w.heap.size->(G'.own B↔G.own B)) (hl:∀B,B<w.heap.size->G'.lim B=G.lim B)
  (hO':∀B,B<w.heap.size->¬h'.O G' B) (hT':∀B,B<w.heap.size->h'.T G' B->h.T G B)
  (on:∀j o,h'.objs j=some o->(∃o',h.objs j=some o')\/(h.n<=j/\j<h'.n)) (tn:∀t,t∈h'.toks->t∈h.toks\/(h.m<=t/\t<h'.m)):Trans G w h G' w' h' where
 dom_le:=d1
 dom_new:=d2
 ι_eq:=d3
 tdom_le:=t1
 tdom_new:=t2
 τ_eq:=t3
 n_le:=hn
 m_le:=hm
 size_le:=by rw[hp.size];omega
 os:=hp.2.1
 output:=hp.2.2
 form B hB:=by rw[hp.old hB];exact bS.refl _
 keep B hB _ _:=hp.old hB
 own_keep B hB _:=ho B hB
 lim_keep B hB _ _:=hl B hB
 tok_keep B hB ht _ e he:=⟨λj _=>by unfold World.cell?;simp only[hp.old hB],λe' he'=>by rw[<-hT B ht,he] at he';cases he';exact N4 _⟩
 O_new B hB x:=absurd x (hO' B hB)
 T_new B hB x:=hT' B hB x
 objs_new:=on
 toks_new:=tn
theorem rC{w':World}{cs:List AV}{vs rest:List Value}{T:TypeId}{n m:Nat}(hp:dw w w' (.cells (vs++rest).toArray T (0,0)))(hr:aE G w cs vs)(h1:∀v∈vs,One v)(hf:¬G.dom n):
  ∃G',Trans G w (.only aB [] n m) G' w' (.only (upd aB n (some (.cells cs))) [] (n+1) m)/\bj G' (.only (upd aB n (some (.cells cs))) [] (n+1) m) w'/\aC G' w' (.ptr n 0) (.pointer (some ⟨w.heap.size,0,none⟩)):=by
 let G':aT:={G with dom:=λid=>G.dom id\/id=n,ι:=upd G.ι n w.heap.size,own:=λB=>if B=w.heap.size then True else G.own B}
 have hi:G'.ι n=w.heap.size:=by simp[G',upd]
 have hO:∀B,¬(H.only aB [] n m).O G B:=λB ⟨id,o,ho,_⟩=>by simp[H.only,aB] at ho
 have hT:∀B,¬(H.only aB [] n m).T G B:=λB ⟨t,ht,_⟩=>by simp[H.only] at ht
 have hobj:∀{id o},(H.only (upd aB n (some (.cells cs))) [] (n+1) m).objs id=some o->id=n/\o= .cells cs:=by
  intro id o ho;simp only[H.only,upd,aB] at ho;split at ho
  ·cases ho;exact ⟨‹_›,rfl⟩
  ·cases ho
 have T:Trans G w (.only aB [] n m) G' w' (.only (upd aB n (some (.cells cs))) [] (n+1) m):=by
  refine iY hp hO (λB ht=>absurd ht (hT B)) (λ_=> .inl) ?_ ?_ (λ_ x=>x) (λ_=> .inl) (λ_ _=>rfl) (by simp[H.only]) (by simp[H.only]) ?_ (λ_ _=>rfl) ?_ ?_ ?_ ?_
  ·rintro id (x|rfl)
   ·exact .inl x
   ·exact .inr ⟨by simp[H.only],by simp[H.only]⟩
  ·intro id hd;simp only[G',upd];split
   ·rename_i e;subst e;exact absurd hd hf
   ·rfl
  ·intro B hB;simp only[G'];rw[Ob ae]
  ·rintro B hB ⟨id,o,ho,e⟩;obtain ⟨rfl,rfl⟩:=hobj ho;rw[hi] at e;omega
  ·rintro B hB ⟨t,ht,_⟩;simp[H.only] at ht
  ·intro j o ho;obtain ⟨rfl,rfl⟩:=hobj ho;exact .inr ⟨by simp[H.only],by simp[H.only]⟩
  ·intro t ht;simp[H.only] at ht
 have R0:bj G (.only aB [] n m) w:=⟨λid o ho=>by simp[H.only,aB] at ho,λid _ o _ ho=>by simp[H.only,aB] at ho,λt ht=>by simp[H.only] at ht,λt ht=>by simp[H.only] at ht⟩;refine ⟨G',T,⟨?_,?_,?_,?_⟩,?_⟩
 ·intro id o ho;obtain ⟨rfl,rfl⟩:=hobj ho;refine ⟨.inr rfl,by rw[hi];simp[G'],by rw[hi,hp.size];omega,?_⟩;rw[hi,hp.new];refine ⟨vs,rest,_,(0,0),rfl,aE.mono R0 T _ _ hr,rfl,h1⟩
 ·intro id id' o o' ho ho' _;rw[(hobj ho).1,(hobj ho').1]
 ·intro t ht;simp[H.only] at ht
 ·intro t ht;simp[H.only] at ht
 ·simp only[aC];exact ⟨.inr rfl,by rw[hi]⟩
theorem wD{w':World}{cs:Array Value}{T:TypeId}{fr:Nat × Nat}(hp:dw w w' (.cells cs T fr))(j:Nat):w'.cell? ⟨w.heap.size,j,none⟩=cs[j]? :=by
 unfold World.cell?;simp only[hp.new];simp
theorem gw{toks:List Nat}{n m:Nat}(B:Nat):¬(H.only aB toks n m).O G B:=λ⟨id,o,ho,_⟩=>by simp[H.only,aB] at ho
theorem AZ{w':World}{cs:List AV}{vs:List Value}{T:TypeId}{n m:Nat}(hp:dw w w' (.cells vs.toArray T (0,0)))(hr:aE G w cs vs)(h1:∀v∈vs,One v)(hf:¬G.dom n):
  ∃G',Trans G w (.only aB [] n m) G' w' (.only (upd aB n (some (.cells cs))) [] (n+1) m)/\bj G' (.only (upd aB n (some (.cells cs))) [] (n+1) m) w'/\aC G' w' (.ptr n 0) (.pointer (some ⟨w.heap.size,0,none⟩)):=
 rC (rest:=[]) (by rw[OR];exact hp) hr h1 hf
theorem qH{w':World}{cs:List AV}{vs rest:List Value}{T:TypeId}{n m sz len C:Nat}(hp:dw w w' (.cells (vs++rest).toArray T (0,0)))(hr:aE G w cs vs)(h1:∀v∈vs,One v)(hf:¬G.dom n)(hC:len<=C/\C<=9223372036854775807)(hroom:C*sz<=vs.length+rest.length):
  ∃G',Trans G w (.only aB [] n m) G' w' (.only (upd aB n (some (.cells cs))) [] (n+1) m)/\bj G' (.only (upd aB n (some (.cells cs))) [] (n+1) m) w'/\aC G' w' (.tsl sz n 0 len none) (.slice (some ⟨w.heap.size,0,none⟩) len C):=by
 obtain ⟨G',T1,R1,V⟩:=rC (n:=n) (m:=m) hp hr h1 hf;refine ⟨G',T1,R1,?_⟩;simp only[aC] at V;obtain ⟨hd,hv⟩:=V;simp only[Value.pointer.injEq,Om,Addr.mk.injEq,Qk] at hv;unfold aC;refine ⟨hd,.inl ⟨C,(vs++rest).toArray,T,(0,0),by rw[hv],hC,(λ_ h=>by cases h),?_,by simpa using hroom⟩⟩;rw[<-hv];exact hp.new
theorem Hw{w':World}{xs:List AV}{vs:List Value}{T:TypeId}{sz n m:Nat}(hp:dw w w' (.cells vs.toArray T (0,0)))(he:aL G w sz xs vs)(hone:∀v∈vs,One v):
  ∃G',Trans G w (.only aB [] n m) G' w' (.only aB [] n m)/\bj G' (.only aB [] n m) w'/\aC G' w' (.sl sz xs (.exact xs.length)) (.slice (some ⟨w.heap.size,0,none⟩) xs.length xs.length):=by
 let G':aT:={G with own:=λB=>if B=w.heap.size then False else G.own B,lim:=upd G.lim w.heap.size none}
 have hT:∀{G:aT} B,¬(H.only aB [] n m).T G B:=λB ⟨t,ht,_⟩=>by simp[H.only] at ht
 have T:Trans G w (.only aB [] n m) G' w' (.only aB [] n m):=by
  refine iY hp (λB=>gw B) (λB ht=>absurd ht (hT B)) (λ_ x=>x) (λ_=> .inl) (λ_ _=>rfl) (λ_ x=>x) (λ_=> .inl) (λ_ _=>rfl) (N4 _) (N4 _) ?_ ?_ ?_ ?_ ?_ ?_
  ·intro B hB;simp only[G'];rw[Ob ae]
  ·intro B hB;simp only[G',upd];rw[Ob ae]
  ·exact λB _ x=>gw B x
  ·exact λB _ x=>absurd x (hT B)
  ·exact λj o x=> .inl ⟨o,x⟩
  ·exact λt x=> .inl x
 have R0:∀{G:aT}{w:World},bj G (.only aB [] n m) w:=⟨λid o ho=>by simp[H.only,aB] at ho,λid _ o _ ho=>by simp[H.only,aB] at ho,λt ht=>by simp[H.only] at ht,λt ht=>by simp[H.only] at ht⟩;refine ⟨G',T,R0,?_⟩;simp only[aC];refine .inr ⟨_,0,_,vs,rfl,N4 _,he.length,aL.mono R0 T _ _ _ he,λi v hv=>⟨?_,hone v (PY hv),by simp[G'],λe h=>by simp[G',upd] at h⟩,by simp[dc]⟩;rw[wD hp];simpa using hv
theorem qI{w':World}{xs:List AV}{vs rest:List Value}{T:TypeId}{fr:Nat × Nat}{sz n m C:Nat}{toks:List Nat}(hp:dw w w' (.cells (vs++rest).toArray T fr))(he:aL G w sz xs vs)
  (R:bj G (.only aB toks n m) w) (hC:xs.length<=C) (hroom:C*sz<=vs.length+rest.length) (hfr:∀j,j<vs.length+rest.length->¬(fr.1<=j/\j<fr.2)) (hm:¬G.tdom m) (hone:∀v∈vs,One v):
  ∃G',Trans G w (.only aB toks n m) G' w' (.only aB [m] n (m+1))/\bj G' (.only aB [m] n (m+1)) w'/\aC G' w' (.sl sz xs (.own m)) (.slice (some ⟨w.heap.size,0,none⟩) xs.length C):=by
 have hl:=he.length;let G':aT:={G with tdom:=λt=>G.tdom t\/t=m,τ:=upd G.τ m (some (w.heap.size,xs.length*sz)),own:=λB=>if B=w.heap.size then False else G.own B,lim:=upd G.lim w.heap.size (some (xs.length*sz))}
 have hτ:G'.τ m=some (w.heap.size,xs.length*sz):=by simp[G',upd]
 have T:Trans G w (.only aB toks n m) G' w' (.only aB [m] n (m+1)):=by
  refine iY hp (λB=>gw B) ?_ (λ_ x=>x) (λ_=> .inl) (λ_ _=>rfl) (λ_ x=> .inl x) ?_ ?_ (N4 _) (by simp[H.only]) ?_ ?_ ?_ ?_ ?_ ?_
  ·rintro B ⟨t,ht,e,hte⟩;have:=((R.tok t ht).2 B e hte).2.2;simp only[G',upd];rw[Ob ae]
  ·rintro t (x|rfl)
   ·exact .inl x
   ·exact .inr ⟨by simp[H.only],by simp[H.only]⟩
  ·intro t x;simp only[G',upd];split
   ·rename_i e;subst e;exact absurd x hm
   ·rfl
  ·intro B hB;simp only[G'];rw[Ob ae]
  ·intro B hB;simp only[G',upd];rw[Ob ae]
  ·exact λB _ x=>gw B x
  ·rintro B hB ⟨t,ht,e,hte⟩;simp only[H.only,Oj] at ht;subst ht;rw[hτ] at hte;simp at hte;omega
  ·exact λj o x=>by simp[H.only,aB] at x
  ·intro t ht;simp only[H.only,Oj] at ht;subst ht;exact .inr ⟨by simp[H.only],by simp[H.only]⟩
 refine ⟨G',T,⟨λid o ho=>by simp[H.only,aB] at ho,λid _ o _ ho=>by simp[H.only,aB] at ho,?_,?_⟩,?_⟩
 ·intro t ht;simp only[H.only,Oj] at ht;subst ht;refine ⟨.inr rfl,λB e hte=>?_⟩;rw[hτ] at hte;cases hte;exact ⟨by simp[G',upd],by simp[G'],by rw[hp.size];omega⟩
 ·intro t ht t' ht' _ _ _ _ _;simp only[H.only,Oj] at ht ht';rw[ht,ht']
 ·simp only[aC];refine .inr ⟨_,0,C,vs,rfl,hC,hl,aL.mono R T _ _ _ he,λi v hv=>⟨?_,hone v (PY hv),by simp[G'],λe h=>?_⟩,?_⟩
  ·rw[wD hp];have:i<vs.length:=by
    rcases Py i vs.length with h|h
    ·exact h
    ·rw[Pq h] at hv;cases hv
   simp[OW this,hv]
  ·simp only[G',upd,Of] at h;cases h;have:i<vs.length:=by
    rcases Py i vs.length with h|h
    ·exact h
    ·rw[Pq h] at hv;cases hv
   omega
  ·simp only[dc];refine .inr ⟨.inr rfl,by rw[hτ];simp,_,_,fr,hp.new,by simp;omega,?_⟩;simpa using hfr
theorem jZ{h:H}(R:bj G h w){id:Nat}{cs:List AV}(ho:h.objs id=some (.cells cs)):
  ∃vs rest T fr,w.heap[G.ι id]? =some (.cells (vs++rest).toArray T fr)/\aE G w cs vs/\fr.1=fr.2/\(∀v∈vs,One v):=(R.obj id _ ho).2.2.2
theorem fG(b:Nat)(T:TypeId)(fr:Nat × Nat):∀(vs:List Value)(o:Nat)(cur:List Value)(w:World),w.heap[b]? =some (.cells cur.toArray T fr)->o+vs.length<=cur.length->
  (w.setCells b o vs).heap[b]? =some (.cells (cur.take o++vs++cur.drop (o+vs.length)).toArray T fr)/\(∀k,k≠b->(w.setCells b o vs).heap[k]? =w.heap[k]?)/\(w.setCells b o vs).heap.size=w.heap.size/\(w.setCells b o vs).os=w.os/\(w.setCells b o vs).output=w.output
 |[],o,cur,w,hg,hl=>by simp[World.setCells,hg]
 |v::r,o,cur,w,hg,hl=>by
  simp only[List.length_cons] at hl;have hb:b<w.heap.size:=by
   rcases Py b w.heap.size with h|h
   ·exact h
   ·have:w.heap[b]? =none:=by simp;omega
    rw[this] at hg;cases hg
  have h1:(w.setCell ⟨b,o,none⟩ v).heap[b]? =some (.cells (cur.set o v).toArray T fr):=by
   simp[World.setCell,PZ,hg]
  have h2:∀k,k≠b->(w.setCell ⟨b,o,none⟩ v).heap[k]? =w.heap[k]? :=by
   intro k hk;simp[World.setCell,PZ,Ql hk]
  obtain ⟨a1,a2,a3,a4,a5⟩:=fG b T fr r (o+1) (cur.set o v) (w.setCell ⟨b,o,none⟩ v) h1 ar;refine ⟨?_,λk hk=>(a2 k hk).trans (h2 k hk),a3.trans (by simp[World.setCell]),a4,a5⟩;rw[World.setCells,a1];congr 3;have ho:o<cur.length:=by omega
  have e1:(cur.set o v).take (o+1)=cur.take o++[v]:=by
   rw[OD (by simpa using ho),List.take_set_of_le (N4 _)];simp
  have:o+1+r.length=o+(v::r).length:=by simp;omega
  rw[e1,List.drop_set_of_lt ae,this];simp
theorem tM{id n m off:Nat}{cs xs:List AV}{us:List Value}(R:bj G (.only (upd aB id (some (.cells cs))) [] n m) w)(hr:aE G w xs us)(h1:∀v∈us,One v)(hl:off+xs.length<=cs.length):
  ∃w',(storeCells ⟨G.ι id,off,none⟩ us 0).run P w= .ok () w'/\Trans G w (.only (upd aB id (some (.cells cs))) [] n m) G w' (.only (upd aB id (some (.cells (setAt cs off xs)))) [] n m)/\bj G (.only (upd aB id (some (.cells (setAt cs off xs)))) [] n m) w':=by
 have hobj:∀{c:List AV} {j o},(H.only (upd aB id (some (.cells c))) [] n m).objs j=some o->j=id/\o= .cells c:=by
  intro c j o ho;simp only[H.only,upd,aB] at ho;split at ho
  ·cases ho;exact ⟨‹_›,rfl⟩
  ·cases ho
 have hme:∀{c:List AV},(H.only (upd aB id (some (.cells c))) [] n m).objs id=some (.cells c):=by intro c;simp[H.only,upd]
 obtain ⟨d1,d2,d3,-⟩:=R.obj id _ hme;obtain ⟨vs,rest,T,fr,hg,hvs,hfr,hone⟩:=jZ R hme;have hlen:=hvs.length;have hul:=hr.length;have hc:∀j,j<vs.length->w.cell? ⟨G.ι id,j,none⟩=vs[j]? :=by
  intro j hj;unfold World.cell?;simp only[hg];simp[OW hj]
 have hcell:∀j,j<us.length->(w.cell? ⟨G.ι id,off+0+j,none⟩).isSome=true:=λj hj=>by rw[hc _ ae];simp;omega
 have hfrz:∀j,j<us.length->w.frozen? ⟨G.ι id,off+0+j,none⟩=false:=λj hj=>by
  unfold World.frozen?;simp only[hg];have:¬(fr.1<=off+0+j/\off+0+j<fr.2):=λh=>by omega
  simpa using this
 have honec:∀v∈us,v.oneCell'=true:=λv hv=>by
  obtain ⟨k1,k2⟩:=h1 v hv;cases v with
  |agg a=>exact absurd rfl (k1 a)
  |tuple a=>exact absurd rfl (k2 a)
  |_=>rfl
 have hrun:=run_storeCells_cells (P:=P) (G.ι id) off us 0 w hcell hfrz honec;rw[Nat.add_zero] at hrun;obtain ⟨a1,a2,a3,a4,a5⟩:=fG (G.ι id) T fr us off (vs++rest) w hg ar;have ecur:(vs++rest).take off++us++(vs++rest).drop (off+us.length)=(vs.take off++us++vs.drop (off+us.length))++rest:=by
  rw[Qy ae,List.drop_append_of_le_length ae];simp
 rw[ecur] at a1;clear hcell hfrz honec;generalize w.setCells (G.ι id) off us=w1 at*
 refine ⟨w1,hrun,?_⟩;have T1:Trans G w (.only (upd aB id (some (.cells cs))) [] n m) G w1 (.only (upd aB id (some (.cells (setAt cs off xs)))) [] n m):=by
  constructor
  ·exact λ_ x=>x
  ·exact λ_=> .inl
  ·exact λ_ _=>rfl
  ·exact λ_ x=>x
  ·exact λ_=> .inl
  ·exact λ_ _=>rfl
  ·exact N4 _
  ·exact N4 _
  ·rw[a3];exact N4 _
  ·exact a4
  ·exact a5
  ·intro B hB;by_cases hBi:B=G.ι id
   ·subst hBi;rw[a1,hg];exact ⟨_,_,rfl,by simp;omega,λ_ _ h=>h⟩
   ·rw[a2 B hBi];exact bS.refl _
  ·intro B hB hO _;exact a2 B λe=>hO ⟨id,_,hme,e.symm⟩
  ·exact λ_ _ _=>QL
  ·exact λ_ _ _ _=>rfl
  ·rintro B hB ⟨t,ht,_⟩;simp[H.only] at ht
  ·rintro B hB ⟨j,o,ho,e⟩;obtain ⟨rfl,rfl⟩:=hobj ho;exact ⟨_,_,hme,e⟩
  ·rintro B hB ⟨t,ht,_⟩;simp[H.only] at ht
  ·intro j o ho;obtain ⟨rfl,rfl⟩:=hobj ho;exact .inl ⟨_,hme⟩
  ·intro t ht;simp[H.only] at ht
 refine ⟨T1,?_,?_,?_,?_⟩
 ·intro j o ho;obtain ⟨rfl,rfl⟩:=hobj ho;refine ⟨d1,d2,by rw[a3];exact d3,?_⟩;rw[a1];refine ⟨_,rest,T,fr,rfl,?_,?_,?_⟩
  ·unfold setAt;rw[<-hul];exact ((aE.mono R T1 _ _ hvs).take off |>.append (aE.mono R T1 _ _ hr)).append ((aE.mono R T1 _ _ hvs).drop _)
  ·exact hfr
  ·intro v hv;simp only[OS] at hv;rcases hv with (hv|hv)|hv
   ·exact hone v (List.mem_of_mem_take hv)
   ·exact h1 v hv
   ·exact hone v (Q0 hv)
 ·intro j j' o o' ho ho' _;rw[(hobj ho).1,(hobj ho').1]
 ·intro t ht;simp[H.only] at ht
 ·intro t ht;simp[H.only] at ht
def Src(P:Program)(w:World)(sz:Nat)(x:Value)(n:Nat)(news:List Value):Prop:=
 ((Builtin.lenOf x).run P w= .ok n w)/\∀w':World,w'.heap=w.heap->(Builtin.firstCells sz n x).run P w'= .ok news.toArray w'
theorem cell_of_heap{w w':World}(h:w'.heap=w.heap)(a:Addr):w'.cell? a=w.cell? a:=by unfold World.cell?;rw[h]
theorem od{sz:Nat}(a0:Option Addr):Src P w sz (.slice a0 0 0) 0 []:=by
 refine ⟨by simp[Builtin.lenOf],λw' hw=>?_⟩;cases a0 with
 |none=>simp[Builtin.firstCells]
 |some a=>
  have:=run_loadCells_list (P:=P) w' a [] (λj u hu=>by simp at hu);simpa [Builtin.firstCells] using this
theorem ka{sz:Nat}{xs:List AV}{v:Value}{s:Nat}{c:Cap}(hs:s=sz\/xs=[])(hv:aC G w (.sl s xs c) v):
  ∃news,Src P w sz v xs.length news/\aL G w sz xs news/\(∀u∈news,One u):=by
 simp only[aC] at hv;rcases hv with ⟨rfl,⟨a0,rfl⟩,-⟩|⟨B,off,C,vs,rfl,hC,hl,he,him,-⟩
 ·exact ⟨[],od a0,by simp[aL],by simp⟩
 ·rcases hs with rfl|rfl
  ·refine ⟨vs,⟨by simp[Builtin.lenOf],λw' hw=>?_⟩,he,λu hu=>?_⟩
   ·have:=run_loadCells_list (P:=P) w' ⟨B,off,none⟩ vs (λj u hu=>by rw[add_plain,cell_of_heap hw];exact (him j u hu).1);simp only[Builtin.firstCells];rw[<-hl];exact this
   ·obtain ⟨j,hj⟩:=List.getElem?_of_mem hu;exact (him j u hj).2.1
  ·refine ⟨[],⟨by simp[Builtin.lenOf],λw' hw=>?_⟩,by simp[aL],by simp⟩;have:=run_loadCells_list (P:=P) w' ⟨B,off,none⟩ [] (λj u hu=>by simp at hu);simpa [Builtin.firstCells] using this
theorem lN(l:List UInt8):aL G w 1 (aD l) (l.map λb=> .int .u8 b.toNat):=by
 induction l with
 |nil=>simp[aD,aL]
 |cons b l ih=>
  simp only[aD,OJ,aL];exact ⟨.int .u8 b.toNat,_,rfl,rfl,by simp[byte,aC],ih⟩
theorem Hy(l:List UInt8)(sz:Nat):Src P w sz (.string ⟨l.toArray⟩) (aD l).length (l.map λb=> .int .u8 b.toNat):=by
 have hs:(ByteArray.mk l.toArray).size=l.length:=by simp[ByteArray.size]
 refine ⟨by simp[Builtin.lenOf,hs,aD],λw' _=>?_⟩;have:(ByteArray.mk l.toArray).extract 0 (aD l).length=⟨l.toArray⟩:=by
  apply ByteArray.ext;simp[ByteArray.data_extract,aD]
 simp[Builtin.firstCells,this]
theorem run_append_fits{t u ty e:TypeId}{d:TypeDesc}{i:TypeInfo}{x:Value}{n:Nat}{news:List Value}{base:Option Addr}{sLen sCap:Nat}{w':World}
  (ht:P.underlying t=some (.slice e)) (hu:P.underlying u=some d) (hd:(∃e',d= .slice e')\/d= .string) (hi:P.info? e=some i) (hx:Src P w i.size x n news)
  (hfit:sLen+n<=sCap) (hst:(match base with|some a=>(storeCells (a.add (sLen*i.size)) news).run P w|none=> .ok () w)= .ok () w'):
  (Builtin.append_ #[t,u] ty #[.slice base sLen sCap,x]).run P w= .ok (.slice base (sLen+n) sCap) w':=by
 obtain ⟨h1,h2⟩:=hx;have h2':=h2 w rfl;rcases hd with ⟨e',rfl⟩|rfl<;>
 ·simp[Builtin.append_,run_underlying ht,run_underlying hu,sizeOf,typeInfo,hi,h1,hfit,h2'];cases base with
  |none=>simp at hst |-;exact hst
  |some a=>simp only[] at hst;simp[hst]
theorem fq{t u ty e:TypeId}{d:TypeDesc}{i:TypeInfo}{z:Value}{x:Value}{n:Nat}{news vs:List Value}{base:Option Addr}{sLen sCap:Nat}
  (ht:P.underlying t=some (.slice e)) (hu:P.underlying u=some d) (hd:(∃e',d= .slice e')\/d= .string) (hi:P.info? e=some i) (hz:i.zero=some z) (hzs:z.cells.size=i.size) (hsz:0<i.size) (hx:Src P w i.size x n news)
  (hvs:Src P w i.size (.slice base sLen sCap) sLen vs) (hfit:¬sLen+n<=sCap) (hle:sLen<=sCap) (hb:(sLen+n)*i.bytes<=140737488355328) (hn:sLen+n<4611686018427387904):
  ∃w' C rest,(Builtin.append_ #[t,u] ty #[.slice base sLen sCap,x]).run P w= .ok (.slice (some ⟨w.heap.size,0,none⟩) (sLen+n) C) w'/\dw w w' (.cells (vs++news++rest).toArray e (0,0))/\(sLen+n<=C/\C<=9223372036854775807)/\C*i.size=(sLen+n)*i.size+rest.length:=by
 obtain ⟨h1,h2⟩:=hx;obtain ⟨-,k2⟩:=hvs;have hlt:sCap<sLen+n:=by omega
 have hg:=growslice_fits hlt hb;have hg':¬(281474976710656<Builtin.nextslicecap (sLen+n) sCap*i.bytes):=by omega
 have h63:¬((sLen:Int)+(n:Int)>9223372036854775807):=by omega
 let w1:World:=w.drew
 let C:=(Question.appendCap (sLen+n) sCap e).cut (w.tape w.drawn (.appendCap (sLen+n) sCap e))
 have hC:sLen+n<=C:=by simp[C,Question.cut]
 have hC63:C<=9223372036854775807:=by
  have:=Rc (w.tape w.drawn (.appendCap (sLen+n) sCap e)) (show 0<2^63 - (sLen+n) by omega);simp only[C,Question.cut];omega
 have e1:=h2 w1 rfl;have e2:=k2 w1 rfl;refine ⟨{w1 with heap:=w1.heap.push (.cells (vs++news++(Builtin.zeroCells z.cells (C - (sLen+n))).toList).toArray e)},C,(Builtin.zeroCells z.cells (C - (sLen+n))).toList,?_,⟨rfl,rfl,rfl⟩,⟨hC,hC63⟩,?_⟩
 ·rcases hd with ⟨e',rfl⟩|rfl<;>
  ·simp[Builtin.append_,run_underlying ht,run_underlying hu,sizeOf,typeInfo,hi,h1,hfit,IntKind.max,IntKind.signed,IntKind.bits,h63,hg',Question.forced,zeroValue,hz,newRow];rw[e2,Result.andThen_ok,e1,Result.andThen_ok];simp[C,w1];congr 2;apply Array.ext';simp
 ·simp[Builtin.zeroCells,hzs];rw[<-Pz];congr 1;omega
theorem iZ{n m:Nat}:bj G (.only aB [] n m) w:=⟨λid o ho=>by simp[H.only,aB] at ho,λid _ o _ ho=>by simp[H.only,aB] at ho,λt ht=>by simp[H.only] at ht,λt ht=>by simp[H.only] at ht⟩
theorem Ba{n m:Nat}{toks:List Nat}{q:Option (Nat × Nat)}(R:bj G (.only aB toks n m) w)(hm:¬G.tdom m)(hq:q=none\/∃tk,toks=[tk]/\G.τ tk=q):
  ∃G',Trans G w (.only aB toks n m) G' w (.only aB [m] n (m+1))/\bj G' (.only aB [m] n (m+1)) w/\G'.tdom m/\G'.τ m=q/\G'.own=G.own/\G'.lim=G.lim:=by
 let G':aT:={G with tdom:=λt=>G.tdom t\/t=m,τ:=upd G.τ m q}
 have hτ:G'.τ m=q:=by simp[G',upd]
 have hT:∀B,(H.only aB [m] n (m+1)).T G' B->(H.only aB toks n m).T G B:=by
  rintro B ⟨t,ht,e,hte⟩;simp only[H.only,Oj] at ht;subst ht;rw[hτ] at hte;rcases hq with rfl|⟨tk,rfl,hk⟩
  ·cases hte
  ·exact ⟨tk,by simp[H.only],e,hk.trans hte⟩
 refine ⟨G',?_,⟨λid o ho=>by simp[H.only,aB] at ho,λid _ o _ ho=>by simp[H.only,aB] at ho,?_,?_⟩,.inr rfl,hτ,rfl,rfl⟩
 ·constructor
  ·exact λ_ x=>x
  ·exact λ_=> .inl
  ·exact λ_ _=>rfl
  ·exact λ_=> .inl
  ·rintro t (x|rfl)
   ·exact .inl x
   ·exact .inr ⟨by simp[H.only],by simp[H.only]⟩
  ·intro t x;simp only[G',upd];split
   ·rename_i e;subst e;exact absurd x hm
   ·rfl
  ·exact N4 _
  ·simp[H.only]
  ·exact N4 _
  ·rfl
  ·rfl
  ·exact λB _=>bS.refl _
  ·exact λ_ _ _ _=>rfl
  ·exact λ_ _ _=>QL
  ·exact λ_ _ _ _=>rfl
  ·exact λB _ _ _ e he=>⟨λ_ _=>rfl,λe' he'=>by
    have:some e=some e':=he.symm.trans he';cases this;exact N4 _⟩
  ·exact λB _ x=>absurd x (gw B)
  ·exact λB _ x=>hT B x
  ·exact λj o x=>by simp[H.only,aB] at x
  ·intro t ht;simp only[H.only,Oj] at ht;subst ht;exact .inr ⟨by simp[H.only],by simp[H.only]⟩
 ·intro t ht;simp only[H.only,Oj] at ht;subst ht;refine ⟨.inr rfl,λB e hte=>?_⟩;rw[hτ] at hte;rcases hq with rfl|⟨tk,rfl,hk⟩
  ·cases hte
  ·exact (R.tok tk (by simp[H.only])).2 B e (hk.trans hte)
 ·intro t ht t' ht' _ _ _ _ _;simp only[H.only,Oj] at ht ht';rw[ht,ht']
theorem rD{s n m B off C:Nat}{tk:Nat}{xs ys:List AV}{vs news:List Value}(R:bj G (.only aB [tk] n m) w)(hm:¬G.tdom m)
  (hl:vs.length=xs.length*s) (he:aL G w s xs vs) (him:Imm G w B off vs) (hk:G.τ tk=some (B,off+xs.length*s)) (hroom:Room w B (off+C*s)) (hfit:xs.length+ys.length<=C)
  (hn:aL G w s ys news) (hone:∀u∈news,One u):
  ∃w' G',(storeCells ((⟨B,off,none⟩:Addr).add (xs.length*s)) news).run P w= .ok () w'/\Trans G w (.only aB [tk] n m) G' w' (.only aB [m] n (m+1))/\bj G' (.only aB [m] n (m+1)) w'/\
   aC G' w' (.sl s (xs++ys) (.own m)) (.slice (some ⟨B,off,none⟩) (xs.length+ys.length) C):=by
 obtain ⟨cs,T,fr,hg,hu,hfr⟩:=hroom;obtain ⟨htd,htk⟩:=R.tok tk (by simp[H.only]);obtain ⟨hlim,hown,hB⟩:=htk B _ hk;have hnl:=hn.length;have hCs:(xs.length+ys.length)*s<=C*s:=PD s hfit;rw[Pz] at hCs;generalize hE:off+xs.length*s=E at*
 have hEle:E+news.length<=cs.size:=by omega
 have hadd:(⟨B,off,none⟩:Addr).add (xs.length*s)=⟨B,E,none⟩:=by rw[add_plain,hE]
 have hc:∀j,w.cell? ⟨B,j,none⟩=cs[j]? :=by intro j;unfold World.cell?;simp only[hg];simp
 have hcell:∀j,j<news.length->(w.cell? ⟨B,E+0+j,none⟩).isSome=true:=λj hj=>by rw[hc];simp;omega
 have hfrz:∀j,j<news.length->w.frozen? ⟨B,E+0+j,none⟩=false:=λj hj=>by
  unfold World.frozen?;simp only[hg];have:=hfr (E+0+j) ae;simpa using this
 have honec:∀v∈news,v.oneCell'=true:=λv hv=>by
  obtain ⟨k1,k2⟩:=hone v hv;cases v with
  |agg a=>exact absurd rfl (k1 a)
  |tuple a=>exact absurd rfl (k2 a)
  |_=>rfl
 have hrun:=run_storeCells_cells (P:=P) B E news 0 w hcell hfrz honec;rw[Nat.add_zero] at hrun;have hg':w.heap[B]? =some (.cells cs.toList.toArray T fr):=by rw[hg]
 obtain ⟨a1,a2,a3,a4,a5⟩:=fG B T fr news E cs.toList w hg' (by simpa using hEle);clear hcell hfrz honec;generalize w.setCells B E news=w1 at*
 have hc1:∀j,w1.cell? ⟨B,j,none⟩=(cs.toList.take E++news++cs.toList.drop (E+news.length))[j]? :=by
  intro j;unfold World.cell?;simp only[a1];simp
 have hbelow:∀j,j<E->w1.cell? ⟨B,j,none⟩=w.cell? ⟨B,j,none⟩:=by
  intro j hj;rw[hc1,hc,OX,OW ar,List.getElem?_take];simp[hj]
 let G':aT:={G with tdom:=λt=>G.tdom t\/t=m,τ:=upd G.τ m (some (B,E+news.length)),lim:=upd G.lim B (some (E+news.length))}
 have hτ:G'.τ m=some (B,E+news.length):=by simp[G',upd]
 have hTB:∀B',(H.only aB [tk] n m).T G B'->B'=B:=by
  rintro B' ⟨t,ht,e,hte⟩;simp only[H.only,Oj] at ht;subst ht;rw[hk] at hte;cases hte;rfl
 have T1:Trans G w (.only aB [tk] n m) G' w1 (.only aB [m] n (m+1)):=by
  constructor
  ·exact λ_ x=>x
  ·exact λ_=> .inl
  ·exact λ_ _=>rfl
  ·exact λ_=> .inl
  ·rintro t (x|rfl)
   ·exact .inl x
   ·exact .inr ⟨by simp[H.only],by simp[H.only]⟩
  ·intro t x;simp only[G',upd];split
   ·rename_i e;subst e;exact absurd x hm
   ·rfl
  ·exact N4 _
  ·simp[H.only]
  ·rw[a3];exact N4 _
  ·exact a4
  ·exact a5
  ·intro B' hB';by_cases e:B'=B
   ·subst e;rw[a1,hg];exact ⟨_,_,rfl,by simp;omega,λ_ _ h=>h⟩
   ·rw[a2 B' e];exact bS.refl _
  ·intro B' hB' _ hT;exact a2 B' λe=>hT ⟨tk,by simp[H.only],_,e▸hk⟩
  ·exact λ_ _ _=>QL
  ·intro B' hB' _ hT;simp only[G',upd];rw[Ob λe=>hT ⟨tk,by simp[H.only],_,e▸hk⟩]
  ·intro B' hB' hT _ e he;obtain rfl:=hTB B' hT;rw[hlim] at he;cases he;refine ⟨hbelow,λe' he'=>?_⟩;simp only[G',upd,Of] at he';cases he';omega
  ·exact λB' _ x=>absurd x (gw B')
  ·rintro B' hB' ⟨t,ht,e,hte⟩;simp only[H.only,Oj] at ht;subst ht;rw[hτ] at hte;cases hte;exact ⟨tk,by simp[H.only],_,hk⟩
  ·exact λj o x=>by simp[H.only,aB] at x
  ·intro t ht;simp only[H.only,Oj] at ht;subst ht;exact .inr ⟨by simp[H.only],by simp[H.only]⟩
 refine ⟨w1,G',by rw[hadd];exact hrun,T1,⟨λid o ho=>by simp[H.only,aB] at ho,λid _ o _ ho=>by simp[H.only,aB] at ho,?_,?_⟩,?_⟩
 ·intro t ht;simp only[H.only,Oj] at ht;subst ht;refine ⟨.inr rfl,λB' e hte=>?_⟩;rw[hτ] at hte;cases hte;exact ⟨by simp[G',upd],hown,by rw[a3];exact hB⟩
 ·intro t ht t' ht' _ _ _ _ _;simp only[H.only,Oj] at ht ht';rw[ht,ht']
 ·simp only[aC];refine .inr ⟨B,off,C,vs++news,by simp,by simpa using hfit,by simp[hl,hnl,Pz],(aL.mono R T1 _ _ _ he).append (aL.mono R T1 _ _ _ hn),?_,?_⟩
  ·intro i v hv;rcases Py i vs.length with hi|hi
   ·rw[OW hi] at hv;obtain ⟨b1,b2,b3,b4⟩:=him i v hv;refine ⟨(hbelow _ ae).trans b1,b2,b3,λe he'=>?_⟩;simp only[G',upd,Of] at he';cases he';omega
   ·rw[PE hi] at hv;have hi2:i - vs.length<news.length:=by
     rcases Py (i - vs.length) news.length with h|h
     ·exact h
     ·rw[Pq h] at hv;cases hv
    refine ⟨?_,hone v (PY hv),hown,λe he'=>?_⟩
    ·rw[hc1,OW ar,PE ar];rw[<-hv];congr 1;simp;omega
    ·simp only[G',upd,Of] at he';cases he';omega
  ·simp only[dc];refine .inr ⟨.inr rfl,?_,_,T,fr,a1,?_,?_⟩
   ·rw[hτ,Og,Pz,hnl,<-hE,Rk]
   ·simp;omega
   ·intro j hj;exact hfr j (by simp at hj;omega)
theorem qi{t u ty e:TypeId}{i:TypeInfo}{x v:Value}{ys xs:List AV}{news:List Value}{c:Cap}{toks:List Nat}{n m:Nat}
  (hfits:∀(base:Option Addr)(sLen sCap:Nat)(w':World),sLen+ys.length<=sCap->(match base with|some a=>(storeCells (a.add (sLen*i.size)) news).run P w|none=> .ok () w)= .ok () w'->(Builtin.append_ #[t,u] ty #[.slice base sLen sCap,x]).run P w= .ok (.slice base (sLen+ys.length) sCap) w')
  (hgrows:∀(base:Option Addr)(sLen sCap:Nat)(vs:List Value),Src P w i.size (.slice base sLen sCap) sLen vs->¬sLen+ys.length<=sCap->sLen<=sCap->(sLen+ys.length)*i.bytes<=140737488355328->sLen+ys.length<4611686018427387904->
   ∃w' C rest,(Builtin.append_ #[t,u] ty #[.slice base sLen sCap,x]).run P w= .ok (.slice (some ⟨w.heap.size,0,none⟩) (sLen+ys.length) C) w'/\dw w w' (.cells (vs++news++rest).toArray e (0,0))/\sLen+ys.length<=C/\C*i.size=(sLen+ys.length)*i.size+rest.length)
  (hn:aL G w i.size ys news) (hone:∀u∈news,One u) (hv:aC G w (.sl i.size xs c) v) (hb:(xs.length+ys.length)*i.bytes<=140737488355328) (hlen:xs.length+ys.length<4611686018427387904)
  (R:bj G (.only aB toks n m) w) (hm:¬G.tdom m) (hc:(c= .exact xs.length/\toks=[])\/∃tk,c= .own tk/\toks=[tk]):
  ∃v' w' G',(Builtin.append_ #[t,u] ty #[v,x]).run P w= .ok v' w'/\Trans G w (.only aB toks n m) G' w' (.only aB [m] n (m+1))/\bj G' (.only aB [m] n (m+1)) w'/\aC G' w' (.sl i.size (xs++ys) (.own m)) v':=by
 have hv0:=hv;simp only[aC] at hv;rcases hv with ⟨rfl,⟨a0,rfl⟩,-⟩|⟨B,off,C,vs,rfl,hC,hl,he,him,hcap⟩
 ·by_cases hy:ys=[]
  ·subst hy;have hnn:news=[]:=by simpa [aL] using hn
   subst hnn;obtain ⟨G',T1,R1,k1,k2,k3,k4⟩:=Ba (q:=none) R hm (.inl rfl);refine ⟨.slice a0 0 0,w,G',?_,T1,R1,?_⟩
   ·exact hfits a0 0 0 w (N4 _) (by cases a0<;>rfl)
   ·simp only[aC];exact .inl ⟨rfl,⟨a0,rfl⟩,by simp[kI]⟩
  ·have hpos:0<ys.length:=Qn.2 hy;obtain ⟨w',C,rest,h1,h2,h3,h4⟩:=hgrows a0 0 0 []
    (od a0) ae (N4 _) (by simpa using hb) (by simpa using hlen)
   have hnl:=hn.length;simp only[List.nil_append] at h2 |-;obtain ⟨G',T1,R1,V⟩:=qI (n:=n) (m:=m) (C:=C) h2 hn R ae (by rw[Oo] at h4;omega) (λj _=>by simp) hm hone;refine ⟨_,w',G',h1,T1,R1,?_⟩;simpa using V
 ·by_cases hfit:xs.length+ys.length<=C
  ·
   by_cases hy:ys=[]
   ·subst hy;have hnn:news=[]:=by simpa [aL] using hn
    subst hnn;have hq:∃q,(q=none\/∃tk,toks=[tk]/\G.τ tk=q)/\(C=xs.length\/(q=some (B,off+xs.length*i.size)/\Room w B (off+C*i.size))):=by
     rcases hc with ⟨rfl,rfl⟩|⟨tk,rfl,rfl⟩
     ·exact ⟨none,.inl rfl,.inl (by simpa [dc] using hcap)⟩
     ·simp only[dc] at hcap;rcases hcap with hcap|⟨k1,k2,k3⟩
      ·exact ⟨none,.inl rfl,.inl hcap⟩
      ·exact ⟨_,.inr ⟨tk,rfl,rfl⟩,.inr ⟨k2,k3⟩⟩
    obtain ⟨q,hq1,hq2⟩:=hq;obtain ⟨G',T1,R1,k1,k2,k3,k4⟩:=Ba (q:=q) R hm hq1;refine ⟨_,w,G',hfits _ _ _ w hfit (by simp[storeCells]),T1,R1,?_⟩;simp only[aC];refine .inr ⟨B,off,C,vs,by simp,by simpa using hC,by simpa using hl,by simpa using aL.mono R T1 _ _ _ he,him.mono R T1,?_⟩;simp only[dc,OR];rcases hq2 with hq2|⟨hq2,hr⟩
    ·exact .inl hq2
    ·exact .inr ⟨k1,k2.trans hq2,hr⟩
   ·have hpos:0<ys.length:=Qn.2 hy;rcases hc with ⟨rfl,rfl⟩|⟨tk,rfl,rfl⟩
    ·simp only[dc] at hcap;omega
    ·simp only[dc] at hcap;rcases hcap with hcap|⟨k1,k2,k3⟩
     ·omega
     ·obtain ⟨w',G',r1,T1,R1,V⟩:=rD (P:=P) R hm hl he him k2 k3 hfit hn hone;exact ⟨_,w',G',hfits _ _ _ w' hfit (by simpa using r1),T1,R1,V⟩
  ·have hsrc:=(ka (P:=P) (w:=w) (.inl rfl) hv0);obtain ⟨vs',hs1,hs2,hs3⟩:=hsrc;obtain ⟨w',C',rest,h1,h2,h3,h4⟩:=hgrows _ _ _ _ hs1 hfit hC hb hlen;have hnl:=hn.length;have hl':=hs2.length;have hall:=hs2.append hn;have hlen':(vs'++news).length=(xs.length+ys.length)*i.size:=by simp[hl',hnl,Pz]
   obtain ⟨G',T1,R1,V⟩:=qI (n:=n) (m:=m) (C:=C') h2 hall R (by simpa using h3) ae (λj _=>by simp) hm (by
    intro u hu;rcases OS.1 hu with h|h
    ·exact hs3 u h
    ·exact hone u h)
   refine ⟨_,w',G',h1,T1,R1,?_⟩;simpa using V
theorem yL{t u ty e:TypeId}{d:TypeDesc}{i:TypeInfo}{z:Value}{x v:Value}{ys xs:List AV}{news:List Value}{c:Cap}{toks:List Nat}{n m:Nat}
  (ht:P.underlying t=some (.slice e)) (hu:P.underlying u=some d) (hd:(∃e',d= .slice e')\/d= .string) (hi:P.info? e=some i) (hz:i.zero=some z) (hzs:z.cells.size=i.size) (hsz:0<i.size) (hx:Src P w i.size x ys.length news)
  (hn:aL G w i.size ys news) (hone:∀u∈news,One u) (hv:aC G w (.sl i.size xs c) v) (hb:(xs.length+ys.length)*i.bytes<=140737488355328) (hlen:xs.length+ys.length<4611686018427387904)
  (R:bj G (.only aB toks n m) w) (hm:¬G.tdom m) (hc:(c= .exact xs.length/\toks=[])\/∃tk,c= .own tk/\toks=[tk]):
  ∃v' w' G',(Builtin.append_ #[t,u] ty #[v,x]).run P w= .ok v' w'/\Trans G w (.only aB toks n m) G' w' (.only aB [m] n (m+1))/\bj G' (.only aB [m] n (m+1)) w'/\aC G' w' (.sl i.size (xs++ys) (.own m)) v':=
 qi (e:=e) (λbase sLen sCap w' h1 h2=>run_append_fits ht hu hd hi hx h1 h2) (λbase sLen sCap vs h1 h2 h3 h4 h5=>let ⟨w',C,rest,a,b,c,d⟩:=fq ht hu hd hi hz hzs hsz hx h1 h2 h3 h4 h5;⟨w',C,rest,a,b,c.1,d⟩) hn hone hv hb hlen R hm hc
theorem pg{t u ty e:TypeId}{i:TypeInfo}{z:Value}{n:Nat}{base:Option Addr}{sLen sCap:Nat}{w':World}
  (ht:P.underlying t=some (.slice e)) (hu:P.underlying u=some (.int .i64)) (hi:P.info? e=some i) (hz:i.zero=some z) (hzs:z.cells.size=i.size) (hsz:0<i.size) (hn:n<4611686018427387904) (hb:n*i.bytes<=140737488355328)
  (hfit:sLen+n<=sCap) (hst:(match base with|some a=>(storeCells (a.add (sLen*i.size)) (Builtin.zeroCells z.cells n).toList).run P w|none=> .ok () w)= .ok () w'):
  (Builtin.append_ #[t,u] ty #[.slice base sLen sCap,.int .i64 n]).run P w= .ok (.slice base (sLen+n) sCap) w':=by
 have hw:IntKind.i64.wrap (n:Int)=n:=IntWalk.i64_in _ ae;have h0:¬((n:Int)<0):=by omega
 have hb':¬(281474976710656<(n:Int)*i.bytes):=by
  have:=Int.ofNat_le.2 hb;rw[Int.natCast_mul] at this;omega
 by_cases hz0:n*i.size=0
 ·have hn0:n=0:=by rcases Nat.mul_eq_zero.1 hz0 with h|h<;>omega
  subst hn0;have hw0:IntKind.i64.wrap 0=0:=by decide
  simp[Builtin.zeroCells] at hst;simp at hfit;simp[Builtin.append_,run_underlying ht,run_underlying hu,sizeOf,typeInfo,hi,asInt,asIntOf,hw0,hfit];cases base with
  |none=>simp at hst |-;exact hst
  |some a=>simp only[] at hst;simp[hst]
 ·simp[Builtin.append_,run_underlying ht,run_underlying hu,sizeOf,typeInfo,hi,asInt,asIntOf,hw,h0,hb',hfit,hz0,zeroValue,hz];cases base with
  |none=>simp at hst |-;exact hst
  |some a=>simp only[] at hst;simp[hst]
theorem oe{t u ty e:TypeId}{i:TypeInfo}{z:Value}{n:Nat}{vs:List Value}{base:Option Addr}{sLen sCap:Nat}
  (ht:P.underlying t=some (.slice e)) (hu:P.underlying u=some (.int .i64)) (hi:P.info? e=some i) (hz:i.zero=some z) (hzs:z.cells.size=i.size) (hsz:0<i.size)
  (hvs:Src P w i.size (.slice base sLen sCap) sLen vs) (hfit:¬sLen+n<=sCap) (hle:sLen<=sCap) (hb:(sLen+n)*i.bytes<=140737488355328) (hn:sLen+n<4611686018427387904):
  ∃w' C rest,(Builtin.append_ #[t,u] ty #[.slice base sLen sCap,.int .i64 n]).run P w= .ok (.slice (some ⟨w.heap.size,0,none⟩) (sLen+n) C) w'/\dw w w' (.cells (vs++(Builtin.zeroCells z.cells n).toList++rest).toArray e (0,0))/\(sLen+n<=C/\C<=9223372036854775807)/\C*i.size=(sLen+n)*i.size+rest.length:=by
 obtain ⟨-,k2⟩:=hvs;have hlt:sCap<sLen+n:=by omega
 have hg:=growslice_fits hlt hb;have hg':¬(281474976710656<Builtin.nextslicecap (sLen+n) sCap*i.bytes):=by omega
 have h63:¬((sLen:Int)+(n:Int)>9223372036854775807):=by omega
 have h63':¬(9223372036854775807<(sLen:Int)+(n:Int)):=by omega
 have hw:IntKind.i64.wrap (n:Int)=n:=IntWalk.i64_in _ ae;have h0:¬((n:Int)<0):=by omega
 have hb':¬(281474976710656<(n:Int)*i.bytes):=by
  have h1:n*i.bytes<=(sLen+n)*i.bytes:=PD _ ae;have:=Int.ofNat_le.2 (OI h1 hb);rw[Int.natCast_mul] at this;omega
 have hz0:¬(n*i.size=0):=by
  intro h;rcases Nat.mul_eq_zero.1 h with h|h<;>omega
 let w1:World:=w.drew
 let C:=(Question.appendCap (sLen+n) sCap e).cut (w.tape w.drawn (.appendCap (sLen+n) sCap e))
 have hC:sLen+n<=C:=by simp[C,Question.cut]
 have hC63:C<=9223372036854775807:=by
  have:=Rc (w.tape w.drawn (.appendCap (sLen+n) sCap e)) (show 0<2^63 - (sLen+n) by omega);simp only[C,Question.cut];omega
 have e2:=k2 w1 rfl;refine ⟨{w1 with heap:=w1.heap.push (.cells (vs++(Builtin.zeroCells z.cells n).toList++(Builtin.zeroCells z.cells (C - (sLen+n))).toList).toArray e)},C,(Builtin.zeroCells z.cells (C - (sLen+n))).toList,?_,⟨rfl,rfl,rfl⟩,⟨hC,hC63⟩,?_⟩
 ·simp[Builtin.append_,run_underlying ht,run_underlying hu,sizeOf,typeInfo,hi,asInt,asIntOf,hw,h0,hb',hfit,hz0,IntKind.max,IntKind.signed,IntKind.bits,h63,h63',hg',Question.forced,zeroValue,hz,newRow];rw[e2,Result.andThen_ok];simp[C,w1];congr 2;apply Array.ext';simp
 ·simp[Builtin.zeroCells,hzs];rw[<-Pz];congr 1;omega
end
end Go.Av
end
section
namespace Go.Av
section
variable{P:Program}
def Local(P:Program)(o:Oper)(t:Tm)(h1:H)(x:AV)(h1':H):Prop:=
 ∀G w a,cG G w t a->bj G h1 w->cB G h1 h1'->∃nx v w' G',(execOp a.eval o).run P w= .ok nx w'/\(nx= .value v\/nx= .skip/\v=undef)/\Trans G w h1 G' w' h1'/\bj G' h1' w'/\aC G' w' x v
structure Touch(h h1 h1':H)(h':H)(en:Ent):Prop where
 sub:h1.sub h
 n:h1.n=h.n
 m:h1.m=h.m
 eq:h'=h.patch h1 h1'
 rd:∀id,(h1.objs id).isSome->id∈en.rd\/id∈en.wr
 wr:∀id,h1.n<=id->id<h1'.n->id∈en.wr
 chg:∀id,(h1.objs id).isSome->id∉en.wr->h1'.objs id=h1.objs id
 tk:∀t,t∈h1.toks->t∈en.tk
 tn:∀t,t∈h1'.toks->t∈en.tk
 le:h1.n<=h1'.n
 lem:h1.m<=h1'.m
def Loc(P:Program)(o:Oper)(t:Tm)(h:H)(x:AV)(h':H)(en:Ent):Prop:=
 ∃h1 h1',Touch h h1 h1' h' en/\Local P o t h1 x h1'
theorem H.ext{h h':H}(a:∀j,h.objs j=h'.objs j)(b:h.n=h'.n)(c:h.toks=h'.toks)(d:h.m=h'.m):h=h':=by
 cases h;cases h';simp_all;exact funext a
theorem ft{l:List Nat}:l.filter (λ_=>true)=l:=by
 induction l with
 |nil=>rfl
 |cons a l ih=>simp[ih]
theorem bF(h:H):Touch h (.only aB [] h.n h.m) (.only aB [] h.n h.m) h aU where
 sub:=⟨λj o x=>by simp[H.only,aB] at x,λt x=>by simp[H.only] at x⟩
 n:=rfl
 m:=rfl
 eq:=H.ext (λj=>by simp[H.patch,H.only,aB];omega) rfl (by simp[H.patch,H.only,ft]) rfl
 rd id x:=by simp[H.only,aB] at x
 wr id a b:=by simp only[H.only] at a b;omega
 chg id x:=by simp[H.only,aB] at x
 tk t x:=by simp[H.only] at x
 tn t x:=by simp[H.only] at x
 le:=N4 _
 lem:=N4 _
variable{t:Tm}{o:Oper}{h h':H}{x:AV}{en:Ent}
theorem Loc.plain(hp:∀G w a,cG G w t a->Plain P G w a o x):Loc P o t h x h aU:=
 ⟨_,_,bF h,λG w a ht _ _=>by
  obtain ⟨v,h1,h2⟩:=hp G w a ht;exact ⟨_,v,w,G,h1,.inl rfl,Trans.refl _ _ _,iZ,h2⟩⟩
theorem dp(h:H){id:Nat}{ob:Obj}(ho:h.objs id=some ob):Touch h (.only (upd aB id (some ob)) [] h.n h.m) (.only (upd aB id (some ob)) [] h.n h.m) h ⟨[id],[],[]⟩ where
 sub:=⟨(λj o x=>by
  simp only[H.only,upd,aB] at x;split at x
  ·rename_i e;subst e;rw[ho];exact x
  ·cases x),λt x=>by simp[H.only] at x⟩
 n:=rfl
 m:=rfl
 eq:=H.ext (λj=>by
  simp only[H.patch,H.only,upd,aB];by_cases e:j=id
  ·subst e;simp[ho]
  ·simp[e];omega) rfl (by simp[H.patch,H.only,ft]) rfl
 rd j x:=by
  simp only[H.only,upd,aB] at x;split at x
  ·rename_i e;subst e;simp
  ·cases x
 wr id a b:=by simp only[H.only] at a b;omega
 chg _ _ _:=rfl
 tk t x:=by simp[H.only] at x
 tn t x:=by simp[H.only] at x
 le:=N4 _
 lem:=N4 _
theorem fc(h:H){id:Nat}{ob ob':Obj}(ho:h.objs id=some ob):Touch h (.only (upd aB id (some ob)) [] h.n h.m) (.only (upd aB id (some ob')) [] h.n h.m) {h with objs:=upd h.objs id (some ob')} ⟨[],[id],[]⟩ where
 sub:=(dp h ho).sub
 n:=rfl
 m:=rfl
 eq:=H.ext (λj=>by
  simp only[H.patch,H.only,upd,aB];by_cases e:j=id
  ·subst e;simp
  ·simp[e];omega) rfl (by simp[H.patch,H.only,ft]) rfl
 rd j x:=by
  simp only[H.only,upd,aB] at x;split at x
  ·rename_i e;subst e;simp
  ·cases x
 wr id a b:=by simp only[H.only] at a b;omega
 chg j x hj:=by
  simp only[H.only,upd,aB] at x;split at x
  ·rename_i e;subst e;simp at hj
  ·cases x
 tk t x:=by simp[H.only] at x
 tn t x:=by simp[H.only] at x
 le:=N4 _
 lem:=N4 _
theorem gP(h:H)(ob:Obj):Touch h (.only aB [] h.n h.m) (.only (upd aB h.n (some ob)) [] (h.n+1) h.m) {h with objs:=upd h.objs h.n (some ob),n:=h.n+1} ⟨[],[h.n],[]⟩ where
 sub:=(bF h).sub
 n:=rfl
 m:=rfl
 eq:=H.ext (λj=>by
  simp only[H.patch,H.only,upd,aB];by_cases e:j=h.n
  ·subst e;simp
  ·simp[e];intro a b;omega) rfl (by simp[H.patch,H.only,ft]) rfl
 rd j x:=by simp[H.only,aB] at x
 wr id a b:=by simp only[H.only] at a b;simp;omega
 chg j x hj:=by simp[H.only,aB] at x
 tk t x:=by simp[H.only] at x
 tn t x:=by simp[H.only] at x
 le:=by simp[H.only]
 lem:=N4 _
theorem kb(h:H):Touch h (.only aB [] h.n h.m) (.only aB [h.m] h.n (h.m+1)) {h with toks:=h.m::h.toks,m:=h.m+1} ⟨[],[],[h.m]⟩ where
 sub:=(bF h).sub
 n:=rfl
 m:=rfl
 eq:=H.ext (λj=>by simp[H.patch,H.only,aB];omega) rfl (by simp[H.patch,H.only,ft]) rfl
 rd j x:=by simp[H.only,aB] at x
 wr id a b:=by simp only[H.only] at a b;omega
 chg j x hj:=by simp[H.only,aB] at x
 tk t x:=by simp[H.only] at x
 tn t x:=by simpa [H.only] using x
 le:=N4 _
 lem:=by simp[H.only]
theorem qj(h:H){tk:Nat}(htk:tk∈h.toks):Touch h (.only aB [tk] h.n h.m) (.only aB [h.m] h.n (h.m+1)) {h with toks:=h.m::h.toks.filter (· ≠tk),m:=h.m+1} ⟨[],[],[tk,h.m]⟩ where
 sub:=⟨λj o x=>by simp[H.only,aB] at x,λt x=>by simp only[H.only,Oj] at x;subst x;exact htk⟩
 n:=rfl
 m:=rfl
 eq:=H.ext (λj=>by simp[H.patch,H.only,aB];omega) rfl (by
  simp only[H.patch,H.only,List.singleton_append,Pf,PC];apply List.filter_congr;intro y _;simp) rfl
 rd j x:=by simp[H.only,aB] at x
 wr id a b:=by simp only[H.only] at a b;omega
 chg j x hj:=by simp[H.only,aB] at x
 tk t x:=by simp only[H.only,Oj] at x;subst x;simp
 tn t x:=by simp only[H.only,Oj] at x;subst x;simp
 le:=N4 _
 lem:=by simp[H.only]
theorem kL{G:aT}{h1 h1':H}(F:cB G h1 h1')(hlt:h1.n<h1'.n):¬G.dom h1.n:=F.1 _ (N4 _) hlt
theorem mE{G:aT}{h1 h1':H}(F:cB G h1 h1')(hlt:h1.m<h1'.m):¬G.tdom h1.m:=F.2 _ (N4 _) hlt
theorem cells_one{G:aT}{w:World}:∀{cs:List AV}{vs:List Value},aE G w cs vs->cs.all cL=true->∀v∈vs,One v
 |[],vs,h,_=>by simp only[aE] at h;subst h;simp
 |c::cs,vs,h,ha=>by
  simp only[aE] at h;obtain ⟨v,us,rfl,h1,h2⟩:=h;simp only[List.all_cons,Oh] at ha;intro u hu;rcases OA.1 hu with rfl|hu
  ·exact yK h1 ha.1
  ·exact cells_one h2 ha.2 u hu
theorem eD(w:World)(o:Go.Obj):dw w {w with heap:=w.heap.push o} o:=⟨rfl,rfl,rfl⟩
theorem Bb{e:TypeId}{z:Operand}{y:Opd}{cs:List AV}(hop:o.op= .box e z)(hy:opd P e z=some y)(hc:(ev t y= .agg cs)\/(cL (ev t y)=true/\cs=[ev t y]))(hall:cs.all cL=true):
  Loc P o t h (.ptr h.n 0) {h with objs:=upd h.objs h.n (some (.cells cs)),n:=h.n+1} ⟨[],[h.n],[]⟩:=by
 refine ⟨_,_,gP h _,λG w a ht R F=>?_⟩;have r:=aK hy ht;have rc:aE G w cs (a.eval z).cells.toList:=by
  rcases hc with hc|⟨hc,rfl⟩
  ·have:=dU r (.inr ⟨cs,hc⟩)
   rwa [hc] at this
  ·have:=dU r (.inl hc);have e:cellsOf (ev t y)=[ev t y]:=by
    revert hc;generalize ev t y=X;intro hc;cases X<;>simp[cL] at hc<;>rfl
   rwa [e] at this
 obtain ⟨G',T1,R1,V⟩:=AZ (m:=h.m) (eD w (.cells (a.eval z).cells.toList.toArray e (0,0))) rc (cells_one rc hall) (kL F (by simp[H.only]));refine ⟨.value (.pointer (some ⟨w.heap.size,0,none⟩)),_,_,G',?_,.inl rfl,T1,R1,V⟩;simp[execOp,hop,Instr.box,newVar,newRow]
theorem Ct{e:TypeId}{z:Value}{b:AV}(hop:o.op= .alloc e)(hz:(P.info? e).bind (·.zero)=some z)(hb:dd P e z=some b)(hall:(cellsOf b).all cL=true):
  Loc P o t h (.ptr h.n 0) {h with objs:=upd h.objs h.n (some (.cells (cellsOf b))),n:=h.n+1} ⟨[],[h.n],[]⟩:=by
 refine ⟨_,_,gP h _,λG w a ht R F=>?_⟩;have r:aC G w b z:=eQ hb;have rc:aE G w (cellsOf b) z.cells.toList:=by
  by_cases hc:∃cs,b= .agg cs
  ·exact dU r (.inr hc)
  ·have e:cellsOf b=[b]:=by cases b<;>first|rfl|exact absurd ⟨_,rfl⟩ hc
   rw[e] at hall;exact dU r (.inl (by simpa using hall))
 obtain ⟨G',T1,R1,V⟩:=AZ (m:=h.m) (eD w (.cells z.cells.toList.toArray e (0,0))) rc (cells_one rc hall) (kL F (by simp[H.only]));refine ⟨.value (.pointer (some ⟨w.heap.size,0,none⟩)),_,_,G',?_,.inl rfl,T1,R1,V⟩;obtain ⟨i,hi,hzi⟩:=Oe.1 hz;simp[execOp,hop,Instr.alloc,newVar,newRow,zeroValue,typeInfo,hi,hzi]
theorem Cu{ty:TypeId}{z1 z2:Operand}{y1 y2:Opd}{id off:Nat}{cs:List AV}(hop:o.op= .store ty z1 z2)(h1:(P.info? ty).isSome=true)(hpos:0<P.cellsOf ty)(hy1:opd P 0 z1=some y1)(hy2:opd P ty z2=some y2)
  (hp:ev t y1= .ptr id off) (ho:h.objs id=some (.cells cs)) (hl:(cellsOf (ev t y2)).length=P.cellsOf ty) (hle:off+P.cellsOf ty<=cs.length) (hall:(cellsOf (ev t y2)).all cL=true):
  Loc P o t h .any {h with objs:=upd h.objs id (some (.cells (setAt cs off (cellsOf (ev t y2)))))} ⟨[],[id],[]⟩:=by
 refine ⟨_,_,fc h ho,λG w a ht R F=>?_⟩;have r1:=aK hy1 ht;have r2:=aK hy2 ht;rw[hp] at r1;simp only[aC] at r1;have rc:aE G w (cellsOf (ev t y2)) (a.eval z2).cells.toList:=by
  by_cases hc:∃cs,ev t y2= .agg cs
  ·exact dU r2 (.inr hc)
  ·have e:cellsOf (ev t y2)=[ev t y2]:=by
    revert hc;generalize ev t y2=X;intro hc;cases X<;>first|rfl|exact absurd ⟨_,rfl⟩ hc
   rw[e] at hall;exact dU r2 (.inl (by simpa using hall))
 obtain ⟨w',s1,T1,R1⟩:=tM (P:=P) R rc (cells_one rc hall) (by rw[hl];exact hle);refine ⟨.skip,undef,w',G,?_,.inr ⟨rfl,rfl⟩,T1,R1,by simp[aC]⟩;have hsz:(a.eval z2).cells.size=P.cellsOf ty:=by have:=rc.length;simpa [hl] using this
 simp[execOp,hop,Instr.storeAt,r1.2,Instr.sureAddr,storeVar,cH P w ty h1,hsz,s1]
theorem Ew{ty:TypeId}{z:Operand}{y:Opd}{id off:Nat}{cs:List AV}(hop:o.op= .load ty z)(h1:(P.info? ty).isSome=true)(h2:(P.underlying ty).isSome=true)(hy:opd P 0 z=some y)
  (hp:ev t y= .ptr id off) (ho:h.objs id=some (.cells cs)) (hx:part off (if bQ P ty then some (P.cellsOf ty) else none) cs=some x):
  Loc P o t h x h ⟨[id],[],[]⟩:=by
 refine ⟨_,_,dp h ho,λG w a ht R F=>?_⟩;have r1:=aK hy ht;rw[hp] at r1;simp only[aC] at r1;obtain ⟨vs,rest,T,fr,hg,hvs,-⟩:=jZ R (id:=id) (cs:=cs) (by simp[H.only,upd]);have hc:∀j v,vs[j]? =some v->w.cell? ⟨G.ι id,j,none⟩=some v:=by
  intro j v hj;have hj':j<vs.length:=(Pu.1 hj).1;unfold World.cell?;simp only[hg];simpa [OW hj'] using hj
 have hx':part 0 (if bQ P ty then some (P.cellsOf ty) else none) (cs.drop off)=some x:=by
  unfold part at hx |-;split at hx
  ·simpa using hx
  ·split at hx
   ·cases hx;rw[Oi ar];simp
   ·cases hx
 obtain ⟨v,e1,e2⟩:=nB hop h1 h2 hy ht r1.2 (hvs.drop off) (λj v hj=>hc _ v (by simpa [Qm] using hj)) hx';exact ⟨_,v,w,G,e1,.inl rfl,Trans.refl _ _ _,R,e2⟩
theorem qJ{c:Call}{zs zx:Operand}{ys yx:Opd}{T U e:TypeId}{d:TypeDesc}{i:TypeInfo}{s:Nat}{xs els:List AV}{cp:Cap}{h':H}(hop:o.op= .call c)(hc:c.callee= .builtin .append)(ha:c.args.toList=[zs,zx])(hta:c.argTypes.toList=[T,U])
  (hT:P.underlying T=some (.slice e)) (hU:P.underlying U=some d) (hd:(∃e',d= .slice e')\/d= .string) (hi:P.info? e=some i) (hz:i.zero.any (λz=>z.cells.size == i.size)=true) (hsz:0<i.size)
  (hys:opd P T zs=some ys) (hyx:opd P U zx=some yx) (hs:ev t ys= .sl s xs cp) (hx:(∃s' c',ev t yx= .sl s' els c'/\(s'=i.size\/els=[]))\/∃l,ev t yx= .str l/\els=aD l/\i.size=1)
  (hb:(xs.length+els.length)*i.bytes<=140737488355328) (hlen:xs.length+els.length<4611686018427387904)
  (hcap:((∃k,cp= .exact k/\k=xs.length)/\(s=i.size\/xs=[])/\h'= {h with toks:=h.m::h.toks,m:=h.m+1}/\en=⟨[],[],[h.m]⟩)\/
   ∃tk,cp= .own tk/\s=i.size/\tk∈h.toks/\h'= {h with toks:=h.m::h.toks.filter (· ≠tk),m:=h.m+1}/\en=⟨[],[],[tk,h.m]⟩):
  Loc P o t h (.sl i.size (xs++els) (.own h.m)) h' en:=by
 have ha':c.args= #[zs,zx]:=by rw[<-Array.toArray_toList (xs:=c.args),ha]
 have hta':c.argTypes= #[T,U]:=by rw[<-Array.toArray_toList (xs:=c.argTypes),hta]
 obtain ⟨z,hz1,hz2⟩:∃z,i.zero=some z/\z.cells.size=i.size:=by
  cases hzz:i.zero with
  |none=>rw[hzz] at hz;simp at hz
  |some z=>rw[hzz] at hz;exact ⟨z,rfl,by simpa using hz⟩
 have key:∀(toks:List Nat) G w a,cG G w t a->bj G (.only aB toks h.n h.m) w->¬G.tdom h.m->(s=i.size\/xs=[])->((cp= .exact xs.length/\toks=[])\/∃tk,cp= .own tk/\toks=[tk]/\s=i.size)->
   ∃nx v w' G',(execOp a.eval o).run P w= .ok nx w'/\(nx= .value v\/nx= .skip/\v=undef)/\Trans G w (.only aB toks h.n h.m) G' w' (.only aB [h.m] h.n (h.m+1))/\bj G' (.only aB [h.m] h.n (h.m+1)) w'/\aC G' w' (.sl i.size (xs++els) (.own h.m)) v:=by
  intro toks G w a ht R hm hsx hcc;have r1:=aK hys ht;have r2:=aK hyx ht;rw[hs] at r1;have hsrc:∃news,Src P w i.size (a.eval zx) els.length news/\aL G w i.size els news/\(∀u∈news,One u):=by
   rcases hx with ⟨s',c',hx,hs'⟩|⟨l,hx,rfl,h1⟩
   ·rw[hx] at r2;exact ka hs' r2
   ·rw[hx] at r2;simp only[aC] at r2;rw[r2,h1];exact ⟨_,Hy l 1,lN l,by
     intro u hu;obtain ⟨b,_,rfl⟩:=OC.1 hu;exact ⟨(λ_ e=>by cases e),(λ_ e=>by cases e)⟩⟩
  obtain ⟨news,n1,n2,n3⟩:=hsrc;have r1':aC G w (.sl i.size xs cp) (a.eval zs):=by
   rcases hsx with rfl|rfl
   ·exact r1
   ·simp only[aC] at r1 |-;rcases r1 with r1|⟨B,off,C,vs,q1,q2,q3,q4,q5,q6⟩
    ·exact .inl r1
    ·have hvs:vs=[]:=by simpa using q3
     subst hvs;refine .inr ⟨B,off,C,[],q1,q2,by simp,by simp[aL],Imm.nil,?_⟩;rcases hcc with ⟨rfl,_⟩|⟨tk,rfl,_,rfl⟩
     ·exact q6
     ·exact q6
  obtain ⟨v',w',G',e1,T1,R1,V⟩:=yL (ty:=o.type) hT hU hd hi hz1 hz2 hsz n1 n2 n3 r1' hb hlen R hm (hcc.imp (λz=>z) λ⟨tk,a,b,_⟩=>⟨tk,a,b⟩);refine ⟨.value v',v',w',G',?_,.inl rfl,T1,R1,V⟩;simp[execOp,hop,resolve,hc,ha',hta',invoke,builtin,e1]
 rcases hcap with ⟨⟨k,rfl,rfl⟩,hsx,rfl,rfl⟩|⟨tk,rfl,hsx,htk,rfl,rfl⟩
 ·exact ⟨_,_,kb h,λG w a ht R F=>key [] G w a ht R (mE F (by simp[H.only])) hsx (.inl ⟨rfl,rfl⟩)⟩
 ·exact ⟨_,_,qj h htk,λG w a ht R F=>key [tk] G w a ht R (mE F (by simp[H.only])) (.inl hsx) (.inr ⟨tk,rfl,rfl,hsx⟩)⟩
theorem Cv{src dst e:TypeId}{z:Operand}{y:Opd}{sz:Nat}{xs:List AV}{cp:Cap}{l:List UInt8}(hop:o.op= .convert src dst z)(hs:P.underlying src=some (.slice e))(he:P.underlying e=some (.int .u8))(hd:P.underlying dst=some .string)
  (hy:opd P src z=some y) (hx:ev t y= .sl sz xs cp) (hsz:sz=1\/xs=[]) (hl:gX xs=some l) {G:aT} {w:World} {a:Act} (ht:cG G w t a):Plain P G w a o (.str l):=by
 have r:=aK hy ht;rw[hx] at r;simp only[aC] at r;rcases r with ⟨rfl,⟨a0,hv⟩,-⟩|⟨B,off,C,vs,hv,hC,hvl,hve,him,-⟩
 ·simp[gX] at hl;subst hl;refine ⟨.string ByteArray.empty,?_,by simp[aC];rfl⟩;cases a0 with
  |none=>simp[execOp,hop,hv,run_convert_bytes_nil w src e hs he 0 0 dst hd]
  |some q=>
   have h0:(loadCells q 0).run P w= .ok (([]:List Int).map (Value.int .u8)).toArray w:=by
    have:=run_loadCells_list (P:=P) w q [] (λj u hu=>by simp at hu);simpa using this
   simp[execOp,hop,hv,run_convert_bytes_string w src dst e _ 0 0 hs he hd,run_bytesToString w q 0 0 [] h0]
 ·have hve':aL G w 1 xs vs:=by
   rcases hsz with rfl|rfl
   ·exact hve
   ·simpa [aL] using hve
  have hvl':=hve'.length;have key:∀(xs:List AV)(vs:List Value)(l:List UInt8),aL G w 1 xs vs->gX xs=some l->∃ns:List Int,vs=ns.map (Value.int .u8)/\l=ns.map (λn=>UInt8.ofNat n.toNat):=by
   intro xs;induction xs with
   |nil=>intro vs l h1 h2;simp only[aL] at h1;simp[gX] at h2;exact ⟨[],by simp[h1],by simp[h2]⟩
   |cons x xs ih=>
    intro vs l h1 h2;simp only[aL] at h1;obtain ⟨v,us,rfl,e1,e2,e3⟩:=h1;simp only[gX] at h2;split at h2
    ·rename_i b r hb hr;cases h2;obtain ⟨ns,rfl,rfl⟩:=ih us r e3 hr;cases x<;>simp[yD] at hb;rename_i k n;cases k<;>simp at hb;simp only[aC] at e2;subst e2;exact ⟨n::ns,by simp[Value.cells],by simp[hb]⟩
    ·cases h2
  obtain ⟨ns,rfl,rfl⟩:=key xs vs l hve' hl;have hnl:ns.length=xs.length:=by simpa using hvl'
  refine ⟨.string ⟨(ns.map λn=>UInt8.ofNat n.toNat).toArray⟩,?_,by simp only[aC]⟩;have:=run_convert_bytes_arg w src e hs he B off xs.length C ns hnl (λi hi=>by
   have hi':i<ns.length:=by omega
   have:=(him i (.int .u8 (ns.getD i 0)) (by simp[List.getD,N5 hi'])).1;exact this) dst hd
  simp[execOp,hop,hv,this,strOfNums]
theorem Ex{src dst e:TypeId}{z:Operand}{l:List UInt8}(hop:o.op= .convert src dst z)(hs:P.underlying src=some .string)(hd:P.underlying dst=some (.slice e))(he:P.underlying e=some (.int .u8))
  {G:aT} {w:World} {a:Act} (r:a.eval z= .string ⟨l.toArray⟩) (R:bj G (.only aB [] h.n h.m) w) (F:cB G (.only aB [] h.n h.m) (.only aB [h.m] h.n (h.m+1))):
  ∃nx v w' G',(execOp a.eval o).run P w= .ok nx w'/\(nx= .value v\/(nx= .skip/\v=undef))/\Trans G w (.only aB [] h.n h.m) G' w' (.only aB [h.m] h.n (h.m+1))/\bj G' (.only aB [h.m] h.n (h.m+1)) w'/\aC G' w' (.sl 1 (aD l) (.own h.m)) v:=by
 have hsz:(ByteArray.mk l.toArray).size=l.length:=by simp[ByteArray.size]
 have hrun:=run_bytes_of_string w src dst e ⟨l.toArray⟩ hs hd he;rw[hsz] at hrun;have hge:=grownCap_ge w l.length 0 e;generalize grownCap w l.length 0 e=C at*
 have hrow:bytesRow ⟨l.toArray⟩ C=(l.map (λ(b:UInt8)=>Value.int .u8 (b.toNat:Int))++List.replicate (C - l.length) (Value.int .u8 0)).toArray:=by
  simp[bytesRow,hsz]
 have hsz2:(l.map (λ(b:UInt8)=>Value.int .u8 (b.toNat:Int))++List.replicate (C - l.length) (Value.int .u8 0)).toArray.size=l.length+(C - l.length):=by simp
 rw[hrow,hsz2] at hrun;have hb:(aD l).length=l.length:=by simp[aD]
 obtain ⟨G',T1,R1,V⟩:=qI (n:=h.n) (m:=h.m) (toks:=[]) (C:=C) (T:=e) (fr:=(l.length+(C - l.length),l.length+(C - l.length)+1)) (w:=w) (w':=w.drew.alloc (.cells (l.map (λ(b:UInt8)=>Value.int .u8 (b.toNat:Int))++List.replicate (C - l.length) (Value.int .u8 0)).toArray e _)) ⟨rfl,rfl,rfl⟩ (lN l) R (by rw[hb];exact hge) ar
  (by intro j hj;simp[hb] at hj |-;omega) (mE F (by simp[H.only])) (by
   intro u hu;obtain ⟨b,_,rfl⟩:=OC.1 hu;exact ⟨(λ_ e=>by cases e),(λ_ e=>by cases e)⟩)
 rw[hb] at V;refine ⟨_,_,_,G',?_,.inl rfl,T1,R1,V⟩;simp only[execOp,hop,r,Sem.run_bind,hrun,Result.andThen_ok,Sem.run_pure]
theorem Hz{src dst e:TypeId}{z:Operand}{y:Opd}{l:List UInt8}(hop:o.op= .convert src dst z)(hs:P.underlying src=some .string)(hd:P.underlying dst=some (.slice e))(he:P.underlying e=some (.int .u8))
  (hy:opd P src z=some y) (hx:ev t y= .str l):Loc P o t h (.sl 1 (aD l) (.own h.m)) {h with toks:=h.m::h.toks,m:=h.m+1} ⟨[],[],[h.m]⟩:=by
 refine ⟨_,_,kb h,λG w a ht R F=>?_⟩;have r:=aK hy ht;rw[hx] at r;simp only[aC] at r;exact Ex hop hs hd he r R F
theorem tN{G:aT}{w:World}:∀(l:List UInt8)(vs:List Value),aL G w 1 (aD l) vs->vs=l.map λb=> .int .u8 b.toNat
 |[],vs,h=>by simpa [aD,aL] using h
 |b::l,vs,h=>by
  simp only[aD,OJ,aL] at h;obtain ⟨v,us,e,-,h1,h2⟩:=h;simp only[byte,aC] at h1;subst h1;rw[e,tN l us h2];rfl
theorem HA{G:aT}{w:World}{l:List UInt8}{c:Cap}{B:Nat}{v:Value}(hl:l.length<=B)(h:aC G w (.sl 1 (aD l) c) v):aC G w (.supb B) v:=by
 simp only[aC] at h |-;refine ⟨l,hl,?_⟩;rcases h with ⟨h1,h2,-⟩|⟨D,off,C,vs,h1,h2,h3,h4,h5,-⟩
 ·exact .inl ⟨by simpa [aD] using h1,h2⟩
 ·have hb:(aD l).length=l.length:=by simp[aD]
  rw[hb] at h1 h2;rw[tN l vs h4] at h5;exact .inr ⟨D,off,C,h1,h2,h5⟩
theorem Ey{src dst e:TypeId}{z:Operand}{y:Opd}{B:Nat}(hop:o.op= .convert src dst z)(hs:P.underlying src=some .string)(hd:P.underlying dst=some (.slice e))(he:P.underlying e=some (.int .u8))
  (hy:opd P src z=some y) (hx:ev t y= .sup B):Loc P o t h (.supb B) {h with toks:=h.m::h.toks,m:=h.m+1} ⟨[],[],[h.m]⟩:=by
 refine ⟨_,_,kb h,λG w a ht R F=>?_⟩;have r:=aK hy ht;rw[hx] at r;simp only[aC] at r;obtain ⟨l,r,hl⟩:=r;obtain ⟨nx,v,w',G',h1,h2,h3,h4,h5⟩:=Ex (h:=h) hop hs hd he r R F;exact ⟨nx,v,w',G',h1,h2,h3,h4,HA hl h5⟩
theorem tP(off:Nat):∀(vs:List Value)(k:Nat)(cs:Array Value),off+k+vs.length<=cs.size->
  ((vs.zipIdx k).foldl (λ(cs:Array Value) (x:Value × Nat)=>cs.setIfInBounds (off+x.2) x.1) cs).toList=cs.toList.take (off+k)++vs++cs.toList.drop (off+k+vs.length)
 |[],k,cs,_=>by simp
 |v::vs,k,cs,h=>by
  simp only[List.length_cons] at h;simp only[List.zipIdx_cons,List.foldl_cons];rw[tP off vs (k+1) _ ar];have ho:off+k<cs.toList.length:=by simp;omega
  have e1:(cs.toList.set (off+k) v).take (off+(k+1))=cs.toList.take (off+k)++[v]:=by
   rw[<-Rk,OD (by simpa using ho),List.take_set_of_le (N4 _)];simp
  rw[Array.toList_setIfInBounds,e1,List.drop_set_of_lt ae];have:off+(k+1)+vs.length=off+k+(v::vs).length:=by simp;omega
  rw[this];simp
theorem rE{place:Nat->Option (Nat × Nat)}{cells:Array Value}{i off size:Nat}{v:Value}{rest:List (Nat × Value)}(hp:place i=some (off,size))(hs:v.cells.size=size)(hl:off+size<=cells.size):
  Instr.fill place cells ((i,v)::rest)=Instr.fill place (cells.toList.take off++v.cells.toList++cells.toList.drop (off+size)).toArray rest:=by
 have e:(v.cells.zipIdx.foldl (λcs (x:Value × Nat)=>cs.setIfInBounds (off+x.2) x.1) cells)=(cells.toList.take off++v.cells.toList++cells.toList.drop (off+size)).toArray:=by
  apply Array.ext';have:=tP off v.cells.toList 0 cells (by simp[hs];omega);rw[<-Array.foldl_toList];simpa [hs] using this
 have hc:(v.cells.size≠size||off+v.cells.size>cells.size)=false:=by simp[hs];omega
 simp only[Instr.fill,hp,hc,Oq,Od];rw[<-e]
theorem jA{G:aT}{w:World}{a:Act}(ht:cG G w t a){e:TypeId}:∀{l:List (Nat × Operand)}{k:Nat}{ys:List Opd},iL P e k l=some ys->
  aE G w (ys.map (ev t)) (l.map λp=>a.eval p.2)/\l.map (·.1)=List.range' k l.length/\ys.length=l.length
 |[],k,ys,h=>by simp[iL] at h;subst h;exact ⟨.nil,rfl,rfl⟩
 |(i,x)::l,k,ys,h=>by
  simp only[iL] at h;split at h
  ·rename_i hk;subst hk;split at h
   ·rename_i b r hb hr;cases h;obtain ⟨h1,h2,h3⟩:=jA ht hr;refine ⟨.cons (aK hb ht) h1,?_,by simp[h3]⟩;simp[h2,Qz]
   ·cases h
  ·cases h
theorem kM{sz:Nat}{cells:Array Value}:∀(vs:List Value)(k:Nat)(done:List Value)(cells:Array Value),done.length=k*sz->cells.toList.take (k*sz)=done->cells.size=(k+vs.length)*sz->(∀v∈vs,v.cells.size=sz)->
  Instr.fill (λi=>some (i*sz,sz)) cells ((List.range' k vs.length).zip vs)=some (done++vs.flatMap (·.cells.toList)).toArray
 |[],k,done,cells,h1,h2,h3,h4=>by
  have:cells.toList=done:=by
   rw[<-h2,O8];simp at h3 |-;omega
  simp[Instr.fill,<-this]
 |v::vs,k,done,cells,h1,h2,h3,h4=>by
  simp only[List.length_cons] at h3;have hv:=h4 v ah;have e1:(k+(vs.length+1))*sz=k*sz+sz+vs.length*sz:=by
   rw[Pz,Pz];omega
  rw[e1] at h3;simp only[List.length_cons,Qz,List.zip_cons_cons];rw[rE (off:=k*sz) (size:=sz) rfl hv ae];have hk:(k+1)*sz=k*sz+sz:=by rw[Pz];omega
  rw[h2];rw[kM (sz:=sz) (cells:=cells) vs (k+1) (done++v.cells.toList) _ (by simp[h1,hv,hk]) (by
    have:(done++v.cells.toList).length=(k+1)*sz:=by simp[h1,hv,hk]
    rw[List.toList_toArray,<-this,List.take_left]) (by
    have:=h3;rw[show (k+1+vs.length)*sz=k*sz+sz+vs.length*sz by rw[Pz,Pz];omega];simp[h1,hv];omega) (λu hu=>h4 u (by simp[hu]))]
  simp
theorem eR{G:aT}{w:World}{sz:Nat}:∀{xs:List AV}{vs:List Value},aE G w xs vs->(∀v∈vs,v.cells.size=sz)->aL G w sz xs (vs.flatMap (·.cells.toList))
 |[],vs,h,_=>by simp only[aE] at h;subst h;simp[aL]
 |x::xs,vs,h,hs=>by
  simp only[aE] at h;obtain ⟨v,us,rfl,h1,h2⟩:=h;simp only[PS,aL];exact ⟨v,_,rfl,hs v ah,h1,eR h2 λu hu=>hs u (by simp[hu])⟩
theorem eE{G:aT}{w:World}{x:AV}{v:Value}(h:aC G w x v)(hs:shaped x=true):aE G w (cellsOf x) v.cells.toList/\(cellsOf x).all cL=true:=by
 unfold shaped at hs;cases hc:cL x
 ·rw[hc,PI] at hs;cases x<;>simp only[Oq] at hs;exact ⟨dU h (.inr ⟨_,rfl⟩),hs⟩
 ·have e:cellsOf x=[x]:=by cases x<;>simp[cL] at hc<;>rfl
  exact ⟨dU h (.inl hc),by rw[e];simpa using hc⟩
theorem wE{ty e:TypeId}{len:Nat}{parts:Array (Nat × Operand)}{ys:List Opd}{z:Value}(hop:o.op= .buildSlice ty len parts)(hu:P.underlying ty=some (.slice e))(hi:(P.info? e).isSome=true)(hn:parts.size=len)(hpos:0<P.cellsOf e)
  (hz:(P.info? e).bind (·.zero)=some z) (hzs:z.cells.size=P.cellsOf e)
  (hys:iL P e 0 parts.toList=some ys) (hs:∀y∈ys,(cellsOf (ev t y)).length=P.cellsOf e/\shaped (ev t y)=true) (hle:ys.length*P.cellsOf e<=16777216):
  Loc P o t h (.sl (P.cellsOf e) (ys.map (ev t)) (.exact ys.length)) h aU:=by
 refine ⟨_,_,bF h,λG w a ht R F=>?_⟩;obtain ⟨r1,r2,r3⟩:=jA ht hys;simp only[Array.length_toList,hn] at r2 r3;have hsz:∀v∈parts.toList.map (λp=>a.eval p.2),v.cells.size=P.cellsOf e/\∀u∈v.cells.toList,One u:=by
  intro v hv;obtain ⟨k,hk⟩:=List.getElem?_of_mem hv;have hlt:k<(parts.toList.map (λp=>a.eval p.2)).length:=by
   rcases Py k (parts.toList.map (λp=>a.eval p.2)).length with h|h
   ·exact h
   ·rw[Pq h] at hk;cases hk
  have hlt':k<ys.length:=by simp at hlt;omega
  obtain ⟨u,hu1,hu2⟩:=r1.get (i:=k) (x:=ev t ys[k]) (by simp[N5 hlt']);have e:u=v:=Rh (hu1.symm.trans hk);subst e;obtain ⟨s1,s2⟩:=hs ys[k] (Pk hlt');obtain ⟨c1,c2⟩:=eE hu2 s2;have:=c1.length;exact ⟨by simpa [s1] using this,cells_one c1 c2⟩
 generalize hV:parts.toList.map (λp=>a.eval p.2)=vals at*
 have hvl:vals.length=len:=by rw[<-hV];simp[hn]
 have he:=eR r1 λv hv=>(hsz v hv).1;have hfl:(vals.flatMap (·.cells.toList)).length=len*P.cellsOf e:=by
  have:=he.length;rw[this];simp[r3]
 have hfill:∀cells:Array Value,cells.size=len*P.cellsOf e->Instr.fill (λi=>some (i*P.cellsOf e,P.cellsOf e)) cells ((parts.map λ(i,x)=>(i,a.eval x)).toList)=some (vals.flatMap (·.cells.toList)).toArray:=by
  intro cells hc;have hz:(parts.map λ(i,x)=>(i,a.eval x)).toList=(List.range' 0 vals.length).zip vals:=by
   have:∀l:List (Nat × Operand),l.map (λ(i,x)=>(i,a.eval x))=(l.map (·.1)).zip (l.map λp=>a.eval p.2):=by
    intro l;induction l with
    |nil=>rfl
    |cons p l ih=>simp[ih]
   rw[Array.toList_map,this,r2,hV,hvl]
  rw[hz];have:=kM (sz:=P.cellsOf e) (cells:=cells) vals 0 [] cells ah ah (by rw[hc,hvl];simp) (λv hv=>(hsz v hv).1);simpa using this
 have hle':¬(len*P.cellsOf e>16777216):=by rw[<-r3];omega
 obtain ⟨G',T1,R1,V⟩:=Hw (n:=h.n) (m:=h.m) (eD w (.cells (vals.flatMap (·.cells.toList)).toArray e (0,0))) he (by
  intro u hu;obtain ⟨v,hv,hu'⟩:=QT.1 hu;exact (hsz v hv).2 u hu')
 rw[show (ys.map (ev t)).length=len by simp[r3]] at V;refine ⟨.value (.slice (some ⟨w.heap.size,0,none⟩) len len),_,_,G',?_,.inl rfl,T1,R1,by rw[r3];exact V⟩;obtain ⟨i,hi1,hi2⟩:=Oe.1 hz;have hle2:¬(16777216<len*P.cellsOf e):=by omega
 have hmap:∀(zc:Array Value),((Array.range (len*P.cellsOf e)).map (zc[· %zc.size]!)).size=len*P.cellsOf e:=by intro zc;simp
 have hrz:(zeroValue e).run P w= .ok z w:=by simp[zeroValue,typeInfo,hi1,hi2]
 simp only[execOp,hop,Sem.run_bind,Instr.buildSlice,run_underlying hu,Result.andThen_ok,cH P w e hi,Ob hle2,Sem.run_pure,Sem.run_ite,hrz,hfill _ (hmap _)];by_cases h0:len*P.cellsOf e=0
 ·rw[Oi h0];simp[newRow]
 ·rw[Ob h0];simp[newRow]
theorem rF{G:aT}{w:World}{a:Act}(ht:cG G w t a){fs:Array Field}{place:Nat->Option (Nat × Nat)}(hplace:∀i f,fs[i]? =some f->place i=some (f.offset,P.cellsOf f.type)):
  ∀{l:List (Nat × Operand)}{ps:List (Nat × Nat × Opd)}{cs cs':List AV}{vs:List Value},partsOf P fs l=some ps->fF (ev t) ps cs=some cs'->aE G w cs vs->
   ∃vs',Instr.fill place vs.toArray (l.map λp=>(p.1,a.eval p.2))=some vs'.toArray/\aE G w cs' vs'
 |[],ps,cs,cs',vs,h1,h2,h3=>by
  simp[partsOf] at h1;subst h1;simp[fF] at h2;subst h2;exact ⟨vs,by simp[Instr.fill],h3⟩
 |(i,x)::l,ps,cs,cs',vs,h1,h2,h3=>by
  simp only[partsOf] at h1;split at h1
  ·cases h1
  ·rename_i f hf;split at h1
   ·rename_i b r hb hr;split at h1
    ·cases h1;simp only[fF] at h2;split at h2
     ·rename_i hc;obtain ⟨c1,c2,c3⟩:=hc;have rx:=aK hb ht;obtain ⟨s1,s2⟩:=eE rx c3;have hsz:(a.eval x).cells.size=P.cellsOf f.type:=by have:=s1.length;simpa [c1] using this
      have hl:=h3.length;have hnew:aE G w (setAt cs f.offset (cellsOf (ev t b))) (vs.take f.offset++(a.eval x).cells.toList++vs.drop (f.offset+P.cellsOf f.type)):=by
       unfold setAt;rw[c1];exact ((h3.take _).append s1).append (h3.drop _)
      obtain ⟨vs',e1,e2⟩:=rF ht hplace hr h2 hnew;refine ⟨vs',?_,e2⟩;rw[OJ,rE (hplace i f hf) hsz ar];exact e1
     ·cases h2
    ·cases h1
   ·cases h1
theorem Cw{ty:TypeId}{parts:Array (Nat × Operand)}{fs:Array Field}{z:Value}{zc cs:List AV}{ps:List (Nat × Nat × Opd)}(hop:o.op= .build ty parts)(hu:P.underlying ty=some (.struct fs))(hz:(P.info? ty).bind (·.zero)=some z)
  (hzc:dd P ty z=some (.agg zc)) (hps:partsOf P fs parts.toList=some ps) (hfs:fs.all (λf=>(P.info? f.type).isSome)=true) (hcs:fF (ev t) ps zc=some cs) {G:aT} {w:World} {a:Act} (ht:cG G w t a):Plain P G w a o (.agg cs):=by
 have r:=eQ (G:=G) (w:=w) hzc;simp only[aC] at r;obtain ⟨vs,rfl,hr⟩:=r;have hplaces:∀w:World,(fs.mapM λf=>do pure (f.offset,<-sizeOf f.type):Sem _).run P w= .ok (fs.map λf=>(f.offset,P.cellsOf f.type)) w:=by
  intro w;rw[Array.mapM_eq_mapM_toList];have:∀l:List Field,(∀f∈l,(P.info? f.type).isSome=true)->(l.mapM (λf=>Prod.mk f.offset <$> sizeOf f.type):Sem _).run P w= .ok (l.map λf=>(f.offset,P.cellsOf f.type)) w:=by
   intro l;induction l with
   |nil=>intro _;simp
   |cons f l ih=>intro hl;simp[cH P w _ (hl f ah),ih λg hg=>hl g (by simp[hg])]
  simp[this fs.toList (λf hf=>by
   rw[Array.all_eq_true_iff_forall_mem] at hfs;exact hfs f (by simpa using hf))]
  apply Array.ext';simp
 obtain ⟨vs',e1,e2⟩:=rF (place:=λi=>(fs.map λf=>(f.offset,P.cellsOf f.type))[i]?) ht (by intro i f hf;simp[hf]) hps hcs hr;refine ⟨.agg vs'.toArray,?_,by simp only[aC];exact ⟨vs',rfl,e2⟩⟩;obtain ⟨i,hi1,hi2⟩:=Oe.1 hz;have hmap:(parts.map λ(i,x)=>(i,a.eval x)).toList=parts.toList.map λp=>(p.1,a.eval p.2):=by simp
 simp only[execOp,hop,Instr.build,Sem.run_bind,zeroValue,typeInfo,run_program,hi1,hi2,Result.andThen_ok,Sem.run_pure,run_underlying hu,hplaces,Value.cells,hmap,e1]
theorem rG{α:Type}(L:List α)(hL:0<L.length):∀(k j:Nat),j<k*L.length->((List.replicate k L).flatten)[j]? =L[j%L.length]?
 |0,j,h=>by simp at h
 |k+1,j,h=>by
  simp only[List.replicate_succ,List.flatten_cons];by_cases hj:j<L.length
  ·rw[OW hj,O7 hj]
  ·have hj':L.length<=j:=by omega
   rw[Pz,Po] at h;rw[PE hj',rG L hL k (j - L.length) ae,Nat.mod_eq_sub_mod (a:=j) hj']
theorem Ez{ty e:TypeId}{zl zc:Operand}{yl yc:Opd}{i:TypeInfo}{z:Value}{b:AV}{kl kc:IntKind}{l c:Int}(hop:o.op= .makeSlice ty zl zc)(hu:P.underlying ty=some (.slice e))(hi:P.info? e=some i)(hz:i.zero=some z)(hzs:z.cells.size=i.size)(hpos:0<i.size)
  (hb:dd P e z=some b) (hyl:opd P 0 zl=some yl) (hyc:opd P 0 zc=some yc) (hl:ev t yl= .int kl l) (hc:ev t yc= .int kc c) (h0:0<=l) (hlc:l<=c) (hbytes:c*i.bytes<=140737488355328) (hc63:c<9223372036854775808) (hsh:shaped b=true):
  Loc P o t h (.sl i.size (List.replicate l.toNat b) (.own h.m)) {h with toks:=h.m::h.toks,m:=h.m+1} ⟨[],[],[h.m]⟩:=by
 refine ⟨_,_,kb h,λG w a ht R F=>?_⟩;have r1:=aK hyl ht;have r2:=aK hyc ht;rw[hl] at r1;rw[hc] at r2;simp only[aC] at r1 r2;have rb:=eQ (G:=G) (w:=w) hb;obtain ⟨sc1,sc2⟩:=eE rb hsh;have hel:∀k:Nat,aL G w i.size (List.replicate k b) (List.replicate k z.cells.toList).flatten:=by
  intro k;induction k with
  |zero=>simp[aL]
  |succ k ih=>
   simp only[List.replicate_succ,List.flatten_cons,aL];exact ⟨z,_,rfl,hzs,rb,ih⟩
 have hone:∀k:Nat,∀u∈(List.replicate k z.cells.toList).flatten,One u:=by
  intro k u hu;obtain ⟨x,hx,hu'⟩:=Pn.1 hu;rw[(List.mem_replicate.1 hx).2] at hu';exact cells_one sc1 sc2 u hu'
 have hrow:∀k:Nat,(((Array.range (k*i.size)).map (z.cells[· %z.cells.size]!))).toList=(List.replicate k z.cells.toList).flatten:=by
  intro k;apply List.ext_getElem?;intro j;have hL:z.cells.toList.length=i.size:=by simp[hzs]
  rcases Py j (k*i.size) with hj|hj
  ·rw[rG z.cells.toList ae k j (by rw[hL];exact hj),hL];have hm:j%i.size<z.cells.size:=by rw[hzs];exact Rc _ hpos
   have hb2:z.cells[j%i.size]? =some z.cells[j%i.size]! :=by rw[getElem!_pos z.cells (j%i.size) hm];exact O3 hm
   simp[hj,hzs,hb2]
  ·rw[Pq ar,Pq (by simp[hzs];omega)]
 have hrow2:((Array.range (c.toNat*i.size)).map (z.cells[· %z.cells.size]!))=((List.replicate l.toNat z.cells.toList).flatten++(List.replicate (c.toNat - l.toNat) z.cells.toList).flatten).toArray:=by
  apply Array.ext';rw[hrow];have:c.toNat=l.toNat+(c.toNat - l.toNat):=by omega
  rw[this,<-List.replicate_append_replicate,PN];simp
 have hlen:∀k:Nat,((List.replicate k z.cells.toList).flatten).length=k*i.size:=by intro k;simp[hzs]
 have hcle:(c.toNat:Int)*i.bytes<=140737488355328:=by rw[Int.toNat_of_nonneg ae];exact hbytes
 obtain ⟨G',T1,R1,V⟩:=qI (n:=h.n) (m:=h.m) (C:=c.toNat) (eD w (.cells ((List.replicate l.toNat z.cells.toList).flatten++(List.replicate (c.toNat - l.toNat) z.cells.toList).flatten).toArray e (0,0))) (hel l.toNat) R
  ar (by rw[hlen,hlen,<-Pz];exact PD _ ae) (λj _=>by simp) (mE F (by simp[H.only])) (hone _)
 rw[List.length_replicate] at V;refine ⟨.value (.slice (some ⟨w.heap.size,0,none⟩) l.toNat c.toNat),_,_,G',?_,.inl rfl,T1,R1,V⟩;have hwl:IntKind.i64.wrap l=l:=by
  simp[IntKind.wrap,IntKind.bits,IntKind.signed];omega
 have hwc:IntKind.i64.wrap c=c:=by
  simp[IntKind.wrap,IntKind.bits,IntKind.signed];omega
 have hcc:i.bytes*c<=140737488355328:=by rw[Int.mul_comm];exact hbytes
 have e1:¬(c<0):=by omega
 have e2:¬(281474976710656<(i.bytes:Int)*c):=by omega
 have e3:¬(l<0):=by omega
 have e4:¬(c<l):=by omega
 have hrz:(zeroValue e).run P w= .ok z w:=by simp[zeroValue,typeInfo,hi,hz]
 have hsize:(sizeOf e).run P w= .ok i.size w:=by simp[sizeOf,typeInfo,hi]
 simp only[execOp,hop,Instr.makeSlice,Sem.run_bind,run_underlying hu,Result.andThen_ok,r1,r2,asInt,asIntOf,Sem.run_pure,typeInfo,run_program,hi,hwl,hwc];simp[e1,e2,e3,e4,hsize,hrz,newRow];split
 ·rename_i hz0;have hc0:c.toNat=0:=by
   rcases Nat.mul_eq_zero.1 hz0 with h|h
   ·exact h
   ·omega
  have hl0:l.toNat=0:=by omega
  have hr0:Array.range 0= #[]:=rfl;simp[hc0,hl0,hr0]
 ·have hrow3:=hrow2;simp only[hrow3]
theorem lR{z:Value}{sz:Nat}(hz:z.cells.size=sz)(hpos:0<sz)(k:Nat):(Builtin.zeroCells z.cells k).toList=(List.replicate k z.cells.toList).flatten:=by
 subst hz;unfold Builtin.zeroCells;apply List.ext_getElem?;intro j;have hL:z.cells.toList.length=z.cells.size:=by simp
 rcases Py j (k*z.cells.size) with hj|hj
 ·rw[rG z.cells.toList ae k j (by rw[hL];exact hj),hL];have hm:j%z.cells.size<z.cells.size:=Rc _ hpos;have hb2:z.cells[j%z.cells.size]? =some z.cells[j%z.cells.size]! :=by rw[getElem!_pos z.cells (j%z.cells.size) hm];exact O3 hm
  simp[hj,hb2]
 ·rw[Pq ar,Pq ar]
theorem wF{c:Call}{zs zx:Operand}{ys yx:Opd}{T U e:TypeId}{i:TypeInfo}{z:Value}{b:AV}{s:Nat}{xs:List AV}{cp:Cap}{n:Int}{h':H}(hop:o.op= .call c)(hc:c.callee= .builtin .append)(ha:c.args.toList=[zs,zx])(hta:c.argTypes.toList=[T,U])
  (hT:P.underlying T=some (.slice e)) (hU:P.underlying U=some (.int .i64)) (hi:P.info? e=some i) (hz:i.zero=some z) (hzs:z.cells.size=i.size) (hb0:dd P e z=some b) (hsz:0<i.size)
  (hys:opd P T zs=some ys) (hyx:opd P U zx=some yx) (hs:ev t ys= .sl s xs cp) (hx:ev t yx= .int .i64 n) (h0:0<=n) (hsh:shaped b=true) (hby:0<i.bytes)
  (hb:(xs.length+n.toNat)*i.bytes<=140737488355328) (hlen:xs.length+n.toNat<4611686018427387904)
  (hcap:((∃k,cp= .exact k/\k=xs.length)/\(s=i.size\/xs=[])/\h'= {h with toks:=h.m::h.toks,m:=h.m+1}/\en=⟨[],[],[h.m]⟩)\/
   ∃tk,cp= .own tk/\s=i.size/\tk∈h.toks/\h'= {h with toks:=h.m::h.toks.filter (· ≠tk),m:=h.m+1}/\en=⟨[],[],[tk,h.m]⟩):
  Loc P o t h (.sl i.size (xs++List.replicate n.toNat b) (.own h.m)) h' en:=by
 have ha':c.args= #[zs,zx]:=by rw[<-Array.toArray_toList (xs:=c.args),ha]
 have hta':c.argTypes= #[T,U]:=by rw[<-Array.toArray_toList (xs:=c.argTypes),hta]
 have key:∀(toks:List Nat) G w a,cG G w t a->bj G (.only aB toks h.n h.m) w->¬G.tdom h.m->(s=i.size\/xs=[])->((cp= .exact xs.length/\toks=[])\/∃tk,cp= .own tk/\toks=[tk]/\s=i.size)->
   ∃nx v w' G',(execOp a.eval o).run P w= .ok nx w'/\(nx= .value v\/nx= .skip/\v=undef)/\Trans G w (.only aB toks h.n h.m) G' w' (.only aB [h.m] h.n (h.m+1))/\bj G' (.only aB [h.m] h.n (h.m+1)) w'/\aC G' w' (.sl i.size (xs++List.replicate n.toNat b) (.own h.m)) v:=by
  intro toks G w a ht R hm hsx hcc;have r1:=aK hys ht;have r2:=aK hyx ht;rw[hs] at r1;rw[hx] at r2;simp only[aC] at r2;have rb:=eQ (G:=G) (w:=w) hb0;obtain ⟨sc1,sc2⟩:=eE rb hsh;have hel:∀k:Nat,aL G w i.size (List.replicate k b) (List.replicate k z.cells.toList).flatten:=by
   intro k;induction k with
   |zero=>simp[aL]
   |succ k ih=>
    simp only[List.replicate_succ,List.flatten_cons,aL];exact ⟨z,_,rfl,hzs,rb,ih⟩
  have hone:∀u∈(List.replicate n.toNat z.cells.toList).flatten,One u:=by
   intro u hu;obtain ⟨x,hx,hu'⟩:=Pn.1 hu;rw[(List.mem_replicate.1 hx).2] at hu';exact cells_one sc1 sc2 u hu'
  have r1':aC G w (.sl i.size xs cp) (a.eval zs):=by
   rcases hsx with rfl|rfl
   ·exact r1
   ·simp only[aC] at r1 |-;rcases r1 with r1|⟨B,off,C,vs,q1,q2,q3,q4,q5,q6⟩
    ·exact .inl r1
    ·have hvs:vs=[]:=by simpa using q3
     subst hvs;refine .inr ⟨B,off,C,[],q1,q2,by simp,by simp[aL],Imm.nil,?_⟩;rcases hcc with ⟨rfl,_⟩|⟨tk,rfl,_,rfl⟩
     ·exact q6
     ·exact q6
  have hnn:(n.toNat:Int)=n:=Int.toNat_of_nonneg h0;have hlr:(List.replicate n.toNat b).length=n.toNat:=by simp
  have hzf:=lR hzs hsz n.toNat;obtain ⟨v',w',G',e1,T1,R1,V⟩:=qi (P:=P) (t:=T) (u:=U) (ty:=o.type) (e:=e) (x:= .int .i64 n) (ys:=List.replicate n.toNat b) (news:=(List.replicate n.toNat z.cells.toList).flatten)
   (λbase sLen sCap w' q1 q2=>by
    rw[hlr] at q1 |-;rw[<-hnn];refine pg hT hU hi hz hzs hsz ae (OI (PD _ ae) hb) q1 ?_;rw[hzf];exact q2)
   (λbase sLen sCap vs q1 q2 q3 q4 q5=>by
    rw[hlr] at q2 q4 q5 |-;have hgr:=oe (ty:=o.type) hT hU hi hz hzs hsz q1 q2 q3 q4 q5;rw[hnn,hzf] at hgr;obtain ⟨w9,C9,rest9,g1,g2,g3,g4⟩:=hgr;exact ⟨w9,C9,rest9,g1,g2,g3.1,g4⟩)
   (hel n.toNat) hone r1' (by rw[hlr];exact hb) (by rw[hlr];exact hlen) R hm (hcc.imp (λz=>z) λ⟨tk,a,b,_⟩=>⟨tk,a,b⟩)
  refine ⟨.value v',v',w',G',?_,.inl rfl,T1,R1,V⟩;simp[execOp,hop,resolve,hc,ha',hta',invoke,builtin,r2,e1]
 rcases hcap with ⟨⟨k,rfl,rfl⟩,hsx,rfl,rfl⟩|⟨tk,rfl,hsx,htk,rfl,rfl⟩
 ·exact ⟨_,_,kb h,λG w a ht R F=>key [] G w a ht R (mE F (by simp[H.only])) hsx (.inl ⟨rfl,rfl⟩)⟩
 ·exact ⟨_,_,qj h htk,λG w a ht R F=>key [tk] G w a ht R (mE F (by simp[H.only])) (.inl hsx) (.inr ⟨tk,rfl,rfl,hsx⟩)⟩
theorem rH{src dst:TypeId}{z:Operand}{y:Opd}{k0 k k':IntKind}{n:Int}(hop:o.op= .convert src dst z)(hs:P.underlying src=some (.int k0))(hd:P.underlying dst=some (.int k))(hy:opd P src z=some y)
  (hx:ev t y= .int k' n) {G:aT} {w:World} {a:Act} (ht:cG G w t a):Plain P G w a o (.int k (k.wrap n)):=by
 have r:=aK hy ht;rw[hx] at r;simp only[aC] at r;refine ⟨.int k (k.wrap n),?_,by simp[aC]⟩;simp[execOp,hop,r,convert,run_underlying hs,run_underlying hd,Conv.intToInt]
theorem rI{src dst:TypeId}{z:Operand}{y:Opd}{l:List UInt8}(hop:o.op= .convert src dst z)(hs:P.underlying src=some .string)(hd:P.underlying dst=some .string)(hy:opd P src z=some y)
  (hx:ev t y= .str l) {G:aT} {w:World} {a:Act} (ht:cG G w t a):Plain P G w a o (.str l):=by
 have r:=aK hy ht;rw[hx] at r;simp only[aC] at r;refine ⟨.string ⟨l.toArray⟩,?_,by simp[aC]⟩;simp[execOp,hop,r,convert,run_underlying hs,run_underlying hd]
theorem wG{G:aT}{w:World}{l:List AV}{vs:List Value}(h:aE G w l vs):∀k,aE G w (List.replicate k l).flatten (List.replicate k vs).flatten
 |0=>by simp[aE]
 |k+1=>by
  rw[List.replicate_succ,List.replicate_succ,List.flatten_cons,List.flatten_cons];exact aE.append h (wG h k)
theorem HB{c:Call}{z:Operand}{y:Opd}{T e:TypeId}{i:TypeInfo}{zv:Value}{b:AV}{id off len:Nat}{cap:Option Nat}{cs:List AV}(hop:o.op= .call c)(hc:c.callee= .builtin .clear)(ha:c.args.toList=[z])(hta:c.argTypes.toList=[T])
  (hT:P.underlying T=some (.slice e)) (hi:P.info? e=some i) (hz:i.zero=some zv) (hzs:zv.cells.size=i.size) (hb0:dd P e zv=some b) (hsz:0<i.size)
  (hy:opd P T z=some y) (hx:ev t y= .tsl i.size id off len cap) (hlen:¬len=0) (ho:h.objs id=some (.cells cs)) (hlz:(cellsOf b).length=i.size) (hle:off+len*i.size<=cs.length) (hall:(cellsOf b).all cL=true):
  Loc P o t h .any {h with objs:=upd h.objs id (some (.cells (setAt cs off (List.replicate len (cellsOf b)).flatten)))} ⟨[],[id],[]⟩:=by
 have ha':c.args= #[z]:=by rw[<-Array.toArray_toList (xs:=c.args),ha]
 have hta':c.argTypes= #[T]:=by rw[<-Array.toArray_toList (xs:=c.argTypes),hta]
 refine ⟨_,_,fc h ho,λG w a ht R F=>?_⟩;have r1:=aK hy ht;rw[hx] at r1;simp only[aC] at r1;obtain ⟨-,⟨C,c0,T0,fr,r1,-⟩|⟨h0,-⟩⟩:=r1;rotate_left
 ·exact absurd h0 hlen
 have r:aC G w b zv:=eQ hb0;have rc:aE G w (cellsOf b) zv.cells.toList:=by
  by_cases hc:∃cs,b= .agg cs
  ·exact dU r (.inr hc)
  ·have e:cellsOf b=[b]:=by cases b<;>first|rfl|exact absurd ⟨_,rfl⟩ hc
   rw[e] at hall;exact dU r (.inl (by simpa using hall))
 have rr:=wG rc len;have hll:(List.replicate len (cellsOf b)).flatten.length=len*i.size:=by simp[List.length_flatten,hlz]
 obtain ⟨w',s1,T1,R1⟩:=tM (P:=P) (off:=off) R rr (λv hv=>by
  obtain ⟨l,hl,hvl⟩:=Pn.1 hv;rw[(List.mem_replicate.1 hl).2] at hvl;exact cells_one rc hall v hvl) (by rw[hll];exact hle)
 refine ⟨.value (.tuple #[]),_,w',G,?_,.inl rfl,T1,R1,by simp[aC]⟩;obtain ⟨k,rfl⟩:∃k,len=k+1:=⟨len - 1,ae⟩;have hzf:=lR hzs hsz (k+1);simp[execOp,hop,resolve,hc,ha',hta',invoke,builtin,Builtin.clear_,run_underlying hT,r1,zeroValue,typeInfo,hi,hz,hzf,s1]
end
end Go.Av
end
section
namespace Go.Av
open Go.MapKept
section
variable{P:Program}{G:aT}{w:World}{t:Tm}{o:Oper}{h:H}{a:Act}
def txt(k:List UInt8):Value:= .string ⟨k.toArray⟩
theorem rJ(a b:List UInt8):Instr.sameNow .string (txt a) (txt b)=some (decide (a=b)):=by
 have:((⟨a.toArray⟩:ByteArray) == ⟨b.toArray⟩)=decide (a=b):=by
  rw[Q5,bytes_beq];simp
 simp only[txt,Instr.sameNow,this]
theorem og{key:List UInt8}:∀{es:List (AV × AV)}{en:List MapEntry}{r:Option (Nat × AV)},lL key es=some r->Entries G w es en->
  (r=none->∀i,Instr.findNow .string (txt key) en i=some none)/\(∀p,r=some p->∃e,en[p.1]? =some e/\(∀i,Instr.findNow .string (txt key) en i=some (some (i+p.1,e.val)))/\aC G w p.2 e.val/\e.key=txt key)
 |[],en,r,hm,he=>by
  simp only[Entries] at he;subst he;simp only[lL,Om] at hm;subst hm;exact ⟨λ_ i=>rfl,λp hp=>by cases hp⟩
 |(a,v)::es,en,r,hm,he=>by
  obtain ⟨e,rst,rfl,h1,h2,h3⟩:=he;cases a<;>simp only[lL] at hm<;>try (cases hm;done)
  rename_i a;simp only[aC] at h1;have hk:e.key=txt a:=h1;split at hm
  ·rename_i ha;subst ha;simp only[Om] at hm;subst hm;refine ⟨λh=>(by cases h),λp hp=>?_⟩;cases hp;exact ⟨e,rfl,λi=>by simp[Instr.findNow,hk,rJ],h2,hk⟩
  ·rename_i ha;simp only[Oc] at hm;obtain ⟨r',hr',rfl⟩:=hm;obtain ⟨g1,g2⟩:=og hr' h3;have hf:decide (key=a)=false:=N6 λh=>ha h.symm;refine ⟨λhn i=>?_,λp hp=>?_⟩
   ·cases r' with
    |none=>simp[Instr.findNow,hk,rJ,hf,g1 rfl]
    |some q=>cases hn
   ·cases r' with
    |none=>cases hp
    |some q=>
     simp only[Option.map_some,Om] at hp;subst hp;obtain ⟨e',q1,q2,q3,q4⟩:=g2 q rfl;exact ⟨e',by simpa using q1,λi=>by simp[Instr.findNow,hk,rJ,hf,q2];omega,q3,q4⟩
theorem Entries.length:∀{es:List (AV × AV)}{en:List MapEntry},Entries G w es en->en.length=es.length
 |[],en,h=>by simp only[Entries] at h;simp[h]
 |(k,v)::es,en,h=>by
  obtain ⟨e,r,rfl,-,-,h3⟩:=h;simp[Entries.length h3]
theorem Entries.append:∀{es fs:List (AV × AV)}{en fn:List MapEntry},Entries G w es en->Entries G w fs fn->Entries G w (es++fs) (en++fn)
 |[],fs,en,fn,h,h'=>by simp only[Entries] at h;subst h;simpa using h'
 |(k,v)::es,fs,en,fn,h,h'=>by
  obtain ⟨e,r,rfl,h1,h2,h3⟩:=h;exact ⟨e,r++fn,rfl,h1,h2,Entries.append h3 h'⟩
theorem Entries.set{k v:AV}{e':MapEntry}(hk:aC G w k e'.key)(hv:aC G w v e'.val):∀{es:List (AV × AV)}{en:List MapEntry}(j:Nat),Entries G w es en->Entries G w (es.set j (k,v)) (en.set j e')
 |[],en,j,h=>by simp only[Entries] at h;subst h;cases j<;>simp[Entries]
 |(k0,v0)::es,en,0,h=>by
  obtain ⟨e,r,rfl,h1,h2,h3⟩:=h;exact ⟨e',r,rfl,hk,hv,h3⟩
 |(k0,v0)::es,en,j+1,h=>by
  obtain ⟨e,r,rfl,h1,h2,h3⟩:=h;exact ⟨e,r.set j e',rfl,h1,h2,Entries.set hk hv j h3⟩
theorem Entries.erase:∀{es:List (AV × AV)}{en:List MapEntry}(j:Nat),Entries G w es en->Entries G w (es.eraseIdx j) (en.eraseIdx j)
 |[],en,j,h=>by simp only[Entries] at h;subst h;simp[Entries]
 |(k0,v0)::es,en,0,h=>by
  obtain ⟨e,r,rfl,h1,h2,h3⟩:=h;exact h3
 |(k0,v0)::es,en,j+1,h=>by
  obtain ⟨e,r,rfl,h1,h2,h3⟩:=h;exact ⟨e,r.eraseIdx j,rfl,h1,h2,Entries.erase j h3⟩
theorem kN{id n m:Nat}{es:List (AV × AV)}(R:bj G (.only (upd aB id (some (.map es))) [] n m) w):∃en ck,w.heap[G.ι id]? =some (.map en ck)/\Entries G w es en.toList:=by
 obtain ⟨en,ck,h1,h2⟩:=(R.obj id (.map es) (by simp[H.only,upd])).2.2.2;exact ⟨en,ck,h1,h2⟩
theorem jB{id n m:Nat}{es es':List (AV × AV)}{en en':Array MapEntry}{ck ck':Nat}(R:bj G (.only (upd aB id (some (.map es))) [] n m) w)(hg:w.heap[G.ι id]? =some (.map en ck))(he:Entries G w es' en'.toList):
  Trans G w (.only (upd aB id (some (.map es))) [] n m) G {w with heap:=w.heap.setIfInBounds (G.ι id) (.map en' ck')} (.only (upd aB id (some (.map es'))) [] n m)/\bj G (.only (upd aB id (some (.map es'))) [] n m) {w with heap:=w.heap.setIfInBounds (G.ι id) (.map en' ck')}:=by
 have hobj:∀{c:List (AV × AV)} {j o},(H.only (upd aB id (some (.map c))) [] n m).objs j=some o->j=id/\o= .map c:=by
  intro c j o ho;simp only[H.only,upd,aB] at ho;split at ho
  ·cases ho;exact ⟨‹_›,rfl⟩
  ·cases ho
 have hme:∀{c:List (AV × AV)},(H.only (upd aB id (some (.map c))) [] n m).objs id=some (.map c):=by intro c;simp[H.only,upd]
 obtain ⟨d1,d2,d3,-⟩:=R.obj id _ hme;obtain ⟨hs1,hs2⟩:=heap_set (o':=Go.Obj.map en' ck') hg;have T1:Trans G w (.only (upd aB id (some (.map es))) [] n m) G {w with heap:=w.heap.setIfInBounds (G.ι id) (.map en' ck')} (.only (upd aB id (some (.map es'))) [] n m):=by
  constructor
  ·exact λ_ x=>x
  ·exact λ_=> .inl
  ·exact λ_ _=>rfl
  ·exact λ_ x=>x
  ·exact λ_=> .inl
  ·exact λ_ _=>rfl
  ·exact N4 _
  ·exact N4 _
  ·simp
  ·rfl
  ·rfl
  ·intro B hB;by_cases hBi:B=G.ι id
   ·subst hBi;rw[hg];exact ⟨_,_,hs1⟩
   ·show bS _ (w.heap.setIfInBounds (G.ι id) (.map en' ck'))[B]?;rw[hs2 B hBi];exact bS.refl _
  ·intro B hB hO _;exact hs2 B λe=>hO ⟨id,_,hme,e.symm⟩
  ·exact λ_ _ _=>QL
  ·exact λ_ _ _ _=>rfl
  ·rintro B hB ⟨t,ht,_⟩;simp[H.only] at ht
  ·rintro B hB ⟨j,o,ho,e⟩;obtain ⟨rfl,rfl⟩:=hobj ho;exact ⟨_,_,hme,e⟩
  ·rintro B hB ⟨t,ht,_⟩;simp[H.only] at ht
  ·intro j o ho;obtain ⟨rfl,rfl⟩:=hobj ho;exact .inl ⟨_,hme⟩
  ·intro t ht;simp[H.only] at ht
 refine ⟨T1,?_,?_,?_,?_⟩
 ·intro j o ho;obtain ⟨rfl,rfl⟩:=hobj ho;exact ⟨d1,d2,by simpa using d3,en',ck',hs1,Entries.mono R T1 _ _ he⟩
 ·intro j j' o o' ho ho' _;rw[(hobj ho).1,(hobj ho').1]
 ·intro t ht;simp[H.only] at ht
 ·intro t ht;simp[H.only] at ht
theorem HC{w':World}{n m:Nat}(hp:dw w w' (.map #[] 0))(hf:¬G.dom n):
  ∃G',Trans G w (.only aB [] n m) G' w' (.only (upd aB n (some (.map []))) [] (n+1) m)/\bj G' (.only (upd aB n (some (.map []))) [] (n+1) m) w'/\aC G' w' (.mp n) (.map (some w.heap.size)):=by
 let G':aT:={G with dom:=λid=>G.dom id\/id=n,ι:=upd G.ι n w.heap.size,own:=λB=>if B=w.heap.size then True else G.own B}
 have hi:G'.ι n=w.heap.size:=by simp[G',upd]
 have hO:∀B,¬(H.only aB [] n m).O G B:=λB ⟨id,o,ho,_⟩=>by simp[H.only,aB] at ho
 have hT:∀B,¬(H.only aB [] n m).T G B:=λB ⟨t,ht,_⟩=>by simp[H.only] at ht
 have hobj:∀{id o},(H.only (upd aB n (some (.map []))) [] (n+1) m).objs id=some o->id=n/\o= .map []:=by
  intro id o ho;simp only[H.only,upd,aB] at ho;split at ho
  ·cases ho;exact ⟨‹_›,rfl⟩
  ·cases ho
 have T:Trans G w (.only aB [] n m) G' w' (.only (upd aB n (some (.map []))) [] (n+1) m):=by
  refine iY hp hO (λB ht=>absurd ht (hT B)) (λ_=> .inl) ?_ ?_ (λ_ x=>x) (λ_=> .inl) (λ_ _=>rfl) (by simp[H.only]) (by simp[H.only]) ?_ (λ_ _=>rfl) ?_ ?_ ?_ ?_
  ·rintro id (x|rfl)
   ·exact .inl x
   ·exact .inr ⟨by simp[H.only],by simp[H.only]⟩
  ·intro id hd;simp only[G',upd];split
   ·rename_i e;subst e;exact absurd hd hf
   ·rfl
  ·intro B hB;simp only[G'];rw[Ob ae]
  ·rintro B hB ⟨id,o,ho,e⟩;obtain ⟨rfl,rfl⟩:=hobj ho;rw[hi] at e;omega
  ·rintro B hB ⟨t,ht,_⟩;simp[H.only] at ht
  ·intro j o ho;obtain ⟨rfl,rfl⟩:=hobj ho;exact .inr ⟨by simp[H.only],by simp[H.only]⟩
  ·intro t ht;simp[H.only] at ht
 refine ⟨G',T,⟨?_,?_,?_,?_⟩,?_⟩
 ·intro id o ho;obtain ⟨rfl,rfl⟩:=hobj ho;refine ⟨.inr rfl,by rw[hi];simp[G'],by rw[hi,hp.size];omega,?_⟩;rw[hi,hp.new];exact ⟨#[],0,rfl,rfl⟩
 ·intro id id' o o' ho ho' _;rw[(hobj ho).1,(hobj ho').1]
 ·intro t ht;simp[H.only] at ht
 ·intro t ht;simp[H.only] at ht
 ·simp only[aC];exact ⟨.inr rfl,by rw[hi]⟩
theorem tQ{T kt et:TypeId}{r:Option Operand}(hop:o.op= .makeMap T r)(hT:P.underlying T=some (.map kt et))(hr:r=none\/∃k n,r=some (.const (.int k n))):
  Loc P o t h (.mp h.n) {h with objs:=upd h.objs h.n (some (.map [])),n:=h.n+1} ⟨[],[h.n],[]⟩:=by
 refine ⟨_,_,gP h _,λG w a ht R F=>?_⟩;obtain ⟨G',T1,R1,V⟩:=HC (m:=h.m) (eD w (.map #[] 0)) (kL F (by simp[H.only]));refine ⟨.value (.map (some w.heap.size)),_,_,G',?_,.inl rfl,T1,R1,V⟩;rcases hr with rfl|⟨k,n,rfl⟩
 ·simp[execOp,hop,Instr.makeMap]
 ·simp[execOp,hop,Instr.makeMap,run_underlying hT,asInt,asIntOf,Act.eval]
theorem Cy{T kt et:TypeId}{z1 z2:Operand}{y1 y2:Opd}{ok:Bool}{z:Value}{zz:AV}{id:Nat}{k:List UInt8}{es:List (AV × AV)}{r:Option (Nat × AV)}(hop:o.op= .lookup T z1 z2 ok)(hT:P.underlying T=some (.map kt et))(hk:P.underlying kt=some .string)(hz:(P.info? et).bind (·.zero)=some z)(hzz:dd P et z=some zz)
  (h1:opd P T z1=some y1) (h2:opd P kt z2=some y2) (hx:ev t y1= .mp id) (hy:ev t y2= .str k) (ho:h.objs id=some (.map es)) (hm:lL k es=some r):
  Loc P o t h (dT zz ok r) h ⟨[id],[],[]⟩:=by
 refine ⟨_,_,dp h ho,λG w a ht R F=>?_⟩;have r1:=aK h1 ht;have r2:=aK h2 ht;rw[hx] at r1;rw[hy] at r2;simp only[aC] at r1 r2;have r2:a.eval z2=txt k:=r2;obtain ⟨en,ck,hg,he⟩:=kN R;obtain ⟨f1,f2⟩:=og hm he;obtain ⟨i,hi,hzi⟩:=Oe.1 hz;have hzr:(zeroValue et).run P w= .ok z w:=by simp[zeroValue,typeInfo,hi,hzi]
 have hck:=run_checkKey (w:=w) hk (k:=txt k) trivial en.isEmpty 9999;have rz:aC G w zz z:=eQ hzz;cases r with
 |none=>
  have hf:=run_findKey (w:=w) hk (f1 rfl 0);refine ⟨.value (if ok then .tuple #[z,.bool false] else z),_,w,G,?_,.inl rfl,Trans.refl _ _ _,R,?_⟩
  ·cases ok<;>simp[execOp,hop,Instr.lookup,r1,r2,run_underlying hT,Ps hg,hck,hf,hzr]
  ·cases ok
   ·simpa [dT] using rz
   ·simp only[dT,Of,aC];exact ⟨[z,.bool false],rfl,aE.cons rz (aE.cons (by simp[aC]) aE.nil)⟩
 |some p=>
  obtain ⟨e,g1,g2,g3,g4⟩:=f2 p rfl;have hf:=run_findKey (w:=w) hk (g2 0);refine ⟨.value (if ok then .tuple #[e.val,.bool true] else e.val),_,w,G,?_,.inl rfl,Trans.refl _ _ _,R,?_⟩
  ·cases ok<;>simp[execOp,hop,Instr.lookup,r1,r2,run_underlying hT,Ps hg,hck,hf]
  ·cases ok
   ·simpa [dT] using g3
   ·simp only[dT,Of,aC];exact ⟨[e.val,.bool true],rfl,aE.cons g3 (aE.cons (by simp[aC]) aE.nil)⟩
theorem uW{T kt et:TypeId}{z1 z2:Operand}{y1 y2:Opd}{ok:Bool}{z:Value}{zz:AV}{k:List UInt8}(hop:o.op= .lookup T z1 z2 ok)(hT:P.underlying T=some (.map kt et))(hk:P.underlying kt=some .string)(hz:(P.info? et).bind (·.zero)=some z)(hzz:dd P et z=some zz)
  (h1:opd P T z1=some y1) (h2:opd P kt z2=some y2) (ht:cG G w t a) (hx:ev t y1= .sc (.map none)) (hy:ev t y2= .str k):Plain P G w a o (dT zz ok none):=by
 have r1:=aK h1 ht;have r2:=aK h2 ht;rw[hx] at r1;rw[hy] at r2;simp only[aC] at r1 r2;have r2:a.eval z2=txt k:=r2;obtain ⟨i,hi,hzi⟩:=Oe.1 hz;have hzr:(zeroValue et).run P w= .ok z w:=by simp[zeroValue,typeInfo,hi,hzi]
 have hck:=run_checkKey (w:=w) hk (k:=txt k) trivial true 9999;have hf:=run_findKey (w:=w) (l:=[]) (k:=txt k) hk (a:=none) rfl;have rz:aC G w zz z:=eQ hzz;refine ⟨if ok then .tuple #[z,.bool false] else z,?_,?_⟩
 ·cases ok<;>simp[execOp,hop,Instr.lookup,r1,r2,run_underlying hT,hck,hf,hzr]
 ·cases ok
  ·simpa [dT] using rz
  ·simp only[dT,Of,aC];exact ⟨[z,.bool false],rfl,aE.cons rz (aE.cons (by simp[aC]) aE.nil)⟩
theorem toList_modify(en:Array MapEntry)(j:Nat)(f:MapEntry->MapEntry){e:MapEntry}(h:en.toList[j]? =some e):(en.modify j f).toList=en.toList.set j (f e):=by
 apply List.ext_getElem?;intro i;rw[List.getElem?_set,Array.getElem?_toList,PZ];by_cases hij:j=i
 ·subst hij;have h':en[j]? =some e:=by simpa using h
  obtain ⟨hlt,he⟩:=O5.1 h';simp[h',hlt,he]
 ·simp[hij]
theorem wH{T kt et:TypeId}{z1 z2 z3:Operand}{y1 y2 y3:Opd}{id:Nat}{k:List UInt8}{es:List (AV × AV)}{r:Option (Nat × AV)}(hop:o.op= .mapUpdate T z1 z2 z3\/o.op= .insert T z1 z2 z3)(hT:P.underlying T=some (.map kt et))(hk:P.underlying kt=some .string)
  (h1:opd P T z1=some y1) (h2:opd P kt z2=some y2) (h3:opd P et z3=some y3) (hx:ev t y1= .mp id) (hy:ev t y2= .str k) (ho:h.objs id=some (.map es)) (hm:lL k es=some r):
  Loc P o t h .any {h with objs:=upd h.objs id (some (.map (Es es k (ev t y3) r)))} ⟨[],[id],[]⟩:=by
 refine ⟨_,_,fc h ho,λG w a ht R F=>?_⟩;have r1:=aK h1 ht;have r2:=aK h2 ht;have r3:=aK h3 ht;rw[hx] at r1;rw[hy] at r2;have r2':=r2;simp only[aC] at r1 r2;have r2:a.eval z2=txt k:=r2;obtain ⟨en,ck,hg,he⟩:=kN R;obtain ⟨f1,f2⟩:=og hm he;have hck:=run_checkKey (w:=w) hk (k:=txt k) trivial false 9999;have hop':(execOp a.eval o).run P w=((Instr.mapUpdate T (a.eval z1) (a.eval z2) (a.eval z3)).run P w).andThen λ_ w'=> .ok .skip w':=by
  rcases hop with hop|hop<;>simp[execOp,hop]
 cases r with
 |none=>
  have hf:=run_findKey (w:=w) hk (f1 rfl 0);obtain ⟨T1,R1⟩:=jB (ck':=ck+1) (en':=en.push {key:=txt k,val:=a.eval z3,born:=ck}) R hg (es':=es++[(.str k,ev t y3)]) (by
   rw[Array.toList_push];exact Entries.append he ⟨_,[],rfl,by simp[aC,txt],r3,rfl⟩)
  refine ⟨.skip,undef,_,G,?_,.inr ⟨rfl,rfl⟩,T1,R1,by simp[aC]⟩;rw[hop'];simp[Instr.mapUpdate,r1,r2,run_underlying hT,Ps hg,hck,hf,P8 _ hg]
 |some p=>
  obtain ⟨e,g1,g2,g3,g4⟩:=f2 p rfl;have hf:=run_findKey (w:=w) hk (g2 0);have hst:=run_keyThatStays (P:=P) (w:=w) (d:= .string) (k:=txt k) trivial;have g1':en[p.1]? =some e:=by simpa using g1
  obtain ⟨T1,R1⟩:=jB (ck':=ck) (en':=en.modify p.1 λe=>{e with key:=txt k,val:=a.eval z3}) R hg (es':=es.set p.1 (.str k,ev t y3)) (by
   rw[toList_modify _ _ _ g1];exact Entries.set (by simp[aC,txt]) r3 _ he)
  refine ⟨.skip,undef,_,G,?_,.inr ⟨rfl,rfl⟩,T1,R1,by simp[aC]⟩;rw[hop'];simp[Instr.mapUpdate,r1,r2,run_underlying hT,Ps hg,hck,hf,P8 _ hg,g1',g4,hst]
theorem EA{c:Call}{T kt et:TypeId}{z1 z2:Operand}{ts:List TypeId}{y1 y2:Opd}{id:Nat}{k:List UInt8}{es:List (AV × AV)}{r:Option (Nat × AV)}(hop:o.op= .call c)(hc:c.callee= .builtin .delete)(ha:c.args.toList=[z1,z2])(hta:c.argTypes.toList=T::ts)(hT:P.underlying T=some (.map kt et))(hk:P.underlying kt=some .string)
  (h1:opd P T z1=some y1) (h2:opd P kt z2=some y2) (hx:ev t y1= .mp id) (hy:ev t y2= .str k) (ho:h.objs id=some (.map es)) (hm:lL k es=some r):
  Loc P o t h .any {h with objs:=upd h.objs id (some (.map (rA es r)))} ⟨[],[id],[]⟩:=by
 have ha':c.args= #[z1,z2]:=by rw[<-Array.toArray_toList (xs:=c.args),ha]
 have hta':c.argTypes=(T::ts).toArray:=by rw[<-Array.toArray_toList (xs:=c.argTypes),hta]
 refine ⟨_,_,fc h ho,λG w a ht R F=>?_⟩;have r1:=aK h1 ht;have r2:=aK h2 ht;rw[hx] at r1;rw[hy] at r2;simp only[aC] at r1 r2;have r2:a.eval z2=txt k:=r2;obtain ⟨en,ck,hg,he⟩:=kN R;obtain ⟨f1,f2⟩:=og hm he;have hck:=run_checkKey (w:=w) hk (k:=txt k) trivial en.isEmpty 9999;cases r with
 |none=>
  have hf:=run_findKey (w:=w) hk (f1 rfl 0);obtain ⟨T1,R1⟩:=jB (ck':=ck) (en':=en) R hg (es':=es) he;refine ⟨.value (.tuple #[]),_,_,G,?_,.inl rfl,T1,R1,by simp[aC]⟩;simp[execOp,hop,resolve,hc,ha',hta',invoke,builtin,Builtin.delete_,r1,r2,run_underlying hT,Ps hg,hck,hf,P8 _ hg]
 |some p=>
  obtain ⟨e,g1,g2,g3,g4⟩:=f2 p rfl;have hf:=run_findKey (w:=w) hk (g2 0);have hlt:p.1<en.size:=by
   have:=(Pu.1 g1).1;simpa using this
  obtain ⟨T1,R1⟩:=jB (ck':=ck) (en':=en.eraseIdxIfInBounds p.1) R hg (es':=es.eraseIdx p.1) (by
   have:(en.eraseIdxIfInBounds p.1).toList=en.toList.eraseIdx p.1:=by
    unfold Array.eraseIdxIfInBounds;rw[dif_pos hlt,Array.toList_eraseIdx]
   rw[this];exact Entries.erase _ he)
  refine ⟨.value (.tuple #[]),_,_,G,?_,.inl rfl,T1,R1,by simp[aC]⟩;simp[execOp,hop,resolve,hc,ha',hta',invoke,builtin,Builtin.delete_,r1,r2,run_underlying hT,Ps hg,hck,hf,P8 _ hg]
theorem EB{c:Call}{T kt et:TypeId}{z1:Operand}{y1:Opd}{id:Nat}{es:List (AV × AV)}(hop:o.op= .call c)(hc:c.callee= .builtin .len)(ha:c.args.toList=[z1])(hta:c.argTypes.toList=[T])(hT:P.underlying T=some (.map kt et))
  (h1:opd P T z1=some y1) (hx:ev t y1= .mp id) (ho:h.objs id=some (.map es)):Loc P o t h (.int .i64 es.length) h ⟨[id],[],[]⟩:=by
 have ha':c.args= #[z1]:=by rw[<-Array.toArray_toList (xs:=c.args),ha]
 have hta':c.argTypes= #[T]:=by rw[<-Array.toArray_toList (xs:=c.argTypes),hta]
 refine ⟨_,_,dp h ho,λG w a ht R F=>?_⟩;have r1:=aK h1 ht;rw[hx] at r1;simp only[aC] at r1;obtain ⟨en,ck,hg,he⟩:=kN R;have hl:en.size=es.length:=by have:=Entries.length he;simpa using this
 refine ⟨.value (.int .i64 es.length),_,w,G,?_,.inl rfl,Trans.refl _ _ _,R,by simp[aC]⟩;simp[execOp,hop,resolve,hc,ha',hta',invoke,builtin,Builtin.len_,run_underlying hT,r1,Ps hg,goInt,hl]
theorem wI{c:Call}{T kt et:TypeId}{z1:Operand}{y1:Opd}(hop:o.op= .call c)(hc:c.callee= .builtin .len)(ha:c.args.toList=[z1])(hta:c.argTypes.toList=[T])(hT:P.underlying T=some (.map kt et))
  (h1:opd P T z1=some y1) (ht:cG G w t a) (hx:ev t y1= .sc (.map none)):Plain P G w a o (.int .i64 0):=by
 have ha':c.args= #[z1]:=by rw[<-Array.toArray_toList (xs:=c.args),ha]
 have hta':c.argTypes= #[T]:=by rw[<-Array.toArray_toList (xs:=c.argTypes),hta]
 have r1:=aK h1 ht;rw[hx] at r1;simp only[aC] at r1;exact ⟨.int .i64 0,by simp[execOp,hop,resolve,hc,ha',hta',invoke,builtin,Builtin.len_,run_underlying hT,r1,goInt],by simp[aC]⟩
theorem Cz(h:H){objs:Nat->Option Obj}{ids:List Nat}(ho:∀id o,objs id=some o->h.objs id=some o)(hi:∀id,(objs id).isSome->id∈ids):Touch h (.only objs [] h.n h.m) (.only objs [] h.n h.m) h ⟨ids,[],[]⟩ where
 sub:=⟨λj o x=>ho j o x,λt x=>by simp[H.only] at x⟩
 n:=rfl
 m:=rfl
 eq:=H.ext (λj=>by
  change h.objs j=if (objs j).isSome=true\/h.n<=j/\j<h.n then objs j else h.objs j
  by_cases hc:(objs j).isSome=true\/h.n<=j/\j<h.n
  ·rw[Oi hc];rcases hc with hc|hc
   ·obtain ⟨o,hx⟩:=QC.1 hc;rw[hx,ho j o hx]
   ·omega
  ·rw[Ob hc]) rfl (by simp[H.patch,H.only,ft]) rfl
 rd j x:= .inl (hi j x)
 wr id a b:=by simp only[H.only] at a b;omega
 chg j x hj:=rfl
 tk t x:=by simp[H.only] at x
 tn t x:=by simp[H.only] at x
 le:=N4 _
 lem:=N4 _
theorem rK{c:Array Value}{T:TypeId}{fr:Nat × Nat}{B off:Nat}{w:World}{v:Option Nat}(h:w.heap[B]? =some (.cells c T fr))(hfr:fr.1=fr.2):w.frozen? ⟨B,off,v⟩=false:=by
 unfold World.frozen?;simp only[h];have:¬(fr.1<=off/\off<fr.2):=λh=>by omega
 simp only[Bool.and_eq_false_iff,decide_eq_false_iff_not];omega
theorem uX{B B' a b:Nat}{w:World}{c c':Array Value}{T T':TypeId}{fr fr':Nat × Nat}(h:w.heap[B]? =some (.cells c T fr))(hfr:fr.1=fr.2)(h':w.heap[B']? =some (.cells c' T' fr'))(hfr':fr'.1=fr'.2):
  (sameAddr ⟨B,a,none⟩ ⟨B',b,none⟩).run P w= .ok (decide (B=B')&&decide (a=b)) w:=by
 by_cases hB:B=B'
 ·subst hB;by_cases ha:a=b
  ·subst ha;simp[sameAddr]
  ·simp[sameAddr,ha]
 ·have f1:=λoff=>rK (off:=off) (v:=none) h hfr;have f2:=λoff=>rK (off:=off) (v:=none) h' hfr';simp[sameAddr,hB,f1,f2,noView,viewAt,World.shape?,h,h',mayBeOne,stringish]
theorem Bc{op:BinOp}{neg:Bool}{xT yT e:TypeId}{x y:Operand}{b c:Opd}{i ai j aj:Nat}{ci cj:List AV}(hop:o.op= .binOp op xT x y yT)(hT:P.underlying xT=some (.pointer e))(hsz:yF P e y=true)
  (hn:op= .eql/\neg=false\/op= .neq/\neg=true) (h1:opd P xT x=some b) (h2:opd P yT y=some c)
  (hx:ev t b= .ptr i ai) (hy:ev t c= .ptr j aj) (ho1:h.objs i=some (.cells ci)) (ho2:h.objs j=some (.cells cj)):
  Loc P o t h (.bool (if neg then !(decide (i=j)&&decide (ai=aj)) else (decide (i=j)&&decide (ai=aj)))) h ⟨[i,j],[],[]⟩:=by
 have hin:∀k,k∈[i,j]↔k=i\/k=j:=λk=>by simp
 refine ⟨_,_,Cz h (objs:=λk=>if k=i\/k=j then h.objs k else none) (ids:=[i,j]) (λk p hk=>?_) (λk hk=>?_),λG w a ht R F=>?_⟩
 ·split at hk
  ·exact hk
  ·cases hk
 ·split at hk
  ·rename_i hc;simpa using hc
  ·cases hk
 have r1:=aK h1 ht;have r2:=aK h2 ht;rw[hx] at r1;rw[hy] at r2;simp only[aC] at r1 r2;obtain ⟨d1,r1⟩:=r1;obtain ⟨d2,r2⟩:=r2;have o1:(H.only (λk=>if k=i\/k=j then h.objs k else none) [] h.n h.m).objs i=some (.cells ci):=by
  show (if i=i\/i=j then h.objs i else none)=_;rw[Oi (.inl rfl)];exact ho1
 have o2:(H.only (λk=>if k=i\/k=j then h.objs k else none) [] h.n h.m).objs j=some (.cells cj):=by
  show (if j=i\/j=j then h.objs j else none)=_;rw[Oi (.inr rfl)];exact ho2
 obtain ⟨-,-,-,vs1,q1,T1,fr1,e1,-,f1,-⟩:=R.obj _ _ o1;obtain ⟨-,-,-,vs2,q2,T2,fr2,e2,-,f2,-⟩:=R.obj _ _ o2;have hij:decide (G.ι i=G.ι j)=decide (i=j):=by
  rw[Ra];exact ⟨λe=>R.inj _ _ _ _ o1 o2 e,λe=>by rw[e]⟩
 have hs:=uX (P:=P) (a:=ai) (b:=aj) e1 f1 e2 f2;rw[hij] at hs;simp only[yF,Oh,Option.any_eq_true,Ov] at hsz;obtain ⟨-,inf,hi,hz⟩:=hsz;have heq:(Op.equal xT (.pointer (some ⟨G.ι i,ai,none⟩)) (.pointer (some ⟨G.ι j,aj,none⟩))).run P w= .ok (decide (i=j)&&decide (ai=aj)) w:=by
  have h9:∀d:Nat,(Op.equalIn (d+1) xT (.pointer (some ⟨G.ι i,ai,none⟩)) (.pointer (some ⟨G.ι j,aj,none⟩))).run P w= .ok (decide (i=j)&&decide (ai=aj)) w:=λd=>by
   simp[Op.equalIn,run_underlying hT,sizeOf,typeInfo,hi,hz,hs]
  simp only[Op.equal,Op.maxDepth,h9 9999]
 refine ⟨.value (.bool (if neg then !(decide (i=j)&&decide (ai=aj)) else (decide (i=j)&&decide (ai=aj)))),_,w,G,?_,.inl rfl,Trans.refl _ _ _,R,by simp[aC]⟩;rcases hn with ⟨rfl,rfl⟩|⟨rfl,rfl⟩
 ·simp[execOp,hop,eqGuard,r1,r2,binOp,heq]
 ·simp[execOp,hop,eqGuard,r1,r2,binOp,heq]
theorem CA{op:BinOp}{neg:Bool}{xT yT kt et:TypeId}{x y:Operand}{b:Opd}{z:AV}(hop:o.op= .binOp op xT x y yT)(hT:P.underlying xT=some (.map kt et))(hy:y= .const (.map none))
  (hn:op= .eql/\neg=false\/op= .neq/\neg=true) (h1:opd P xT x=some b)
  (ht:cG G w t a) (hz:eqM neg (ev t b)=some z):Plain P G w a o z:=by
 have r1:=aK h1 ht;generalize ev t b=X at*
 unfold Plain;subst hy;simp only[execOp,hop];have he:a.eval (.const (.map none))= .map none:=rfl;rw[he];generalize hx:a.eval x=vx at*
 have run:∀q:Option Nat,(binOp .eql xT (.map q) (.map none)).run P w= .ok (.bool q.isNone) w/\(binOp .neq xT (.map q) (.map none)).run P w= .ok (.bool (!q.isNone)) w:=by
  intro q;have hq:=run_equalIn_map_nil w 9999 xT kt et q hT;constructor
  ·simp only[binOp];simp[Op.equal,Op.maxDepth,hq]
  ·simp only[binOp];simp[Op.equal,Op.maxDepth,hq]
 unfold eqM at hz;split at hz
 ·cases hz;simp only[aC] at r1;obtain ⟨-,rfl⟩:=r1;rcases hn with ⟨rfl,rfl⟩|⟨rfl,rfl⟩ <;>simp[eqGuard,(run _).1,(run _).2,aC]
 ·cases hz;simp only[aC] at r1;subst r1;rcases hn with ⟨rfl,rfl⟩|⟨rfl,rfl⟩ <;>simp[eqGuard,(run _).1,(run _).2,aC]
 ·cases hz
end
section
variable{P:Program}{G:aT}{w:World}{t:Tm}{o:Oper}{h:H}{a:Act}
theorem wJ{k:EK}{x y:AV}{v u:Value}(h:iX k x y=some true)(r1:aC G w x v)(r2:aC G w y u):v=u:=by
 unfold iX at h;split at h
 ·split at h
  ·rename_i hk;subst hk;simp only[Om,Ov] at h;subst h;simp only[aC] at r1 r2;rw[r1,r2]
  ·cases h
 ·simp only[Om,Ov] at h;subst h;simp only[aC] at r1 r2;rw[r1,r2]
 ·simp only[Om,Qi] at h;subst h;simp only[aC] at r1 r2;rw[r1,r2]
 ·cases h
theorem oh:∀{ks:List EK}{xs ys:List AV}{vs us:List Value},bw ks xs ys=some true->aE G w xs vs->aE G w ys us->vs=us
 |[],xs,ys,vs,us,h,r1,r2=>by
  cases xs<;>cases ys<;>simp only[bw] at h<;>first|(cases h;done)|skip
  simp only[aE] at r1 r2;rw[r1,r2]
 |k::ks,xs,ys,vs,us,h,r1,r2=>by
  cases xs<;>cases ys<;>simp only[bw] at h<;>first|(cases h;done)|skip
  simp only[aE] at r1 r2;obtain ⟨v,vs,rfl,r1,q1⟩:=r1;obtain ⟨u,us,rfl,r2,q2⟩:=r2;split at h
  ·rename_i p q hp hq;simp only[Om,Oh] at h;obtain ⟨rfl,rfl⟩:=h;rw[wJ hp r1 r2,oh hq q1 q2]
  ·cases h
theorem wK{k:EK}{x y:AV}{v:Value}{b:Bool}{n:Nat}(h:iX k x y=some b)(r1:aC G w x v):Instr.sameBits n v v=true:=by
 unfold iX at h;split at h<;>first|(cases h;done)|skip
 all_goals (simp only[aC] at r1;subst r1;simp[Instr.sameBits])
 rename_i k l l';exact (bytes_beq _ _).2 rfl
theorem oi{n:Nat}:∀{ks:List EK}{xs ys:List AV}{vs:List Value}{b:Bool},bw ks xs ys=some b->aE G w xs vs->((vs.zip vs).all λ(x,y)=>Instr.sameBits n x y)=true
 |[],xs,ys,vs,b,h,r1=>by
  cases xs<;>cases ys<;>simp only[bw] at h<;>first|(cases h;done)|skip
  simp only[aE] at r1;subst r1;rfl
 |k::ks,xs,ys,vs,b,h,r1=>by
  cases xs<;>cases ys<;>simp only[bw] at h<;>first|(cases h;done)|skip
  simp only[aE] at r1;obtain ⟨v,vs,rfl,r1,q1⟩:=r1;split at h
  ·rename_i p q hp hq;have h2:=oi (n:=n) hq q1;simp only[List.zip_cons_cons,List.all_cons,Oh];exact ⟨wK hp r1,h2⟩
  ·cases h
theorem CB{ks:List EK}{xs ys:List AV}{vs:List Value}{b:Bool}(h:bw ks xs ys=some b)(r1:aE G w xs vs):(Instr.keyThatStays (.agg vs.toArray) (.agg vs.toArray)).run P w= .ok (.agg vs.toArray) w:=by
 have:Instr.sameBits 10000 (.agg vs.toArray) (.agg vs.toArray)=true:=by
  have h9:∀d:Nat,Instr.sameBits (d+1) (.agg vs.toArray) (.agg vs.toArray)=true:=λd=>by
   simp only[Instr.sameBits,PJ,OM];exact oi h r1
  exact h9 9999
 simp[Instr.keyThatStays,this]
theorem JG{X:Array Value}:∀{i:Nat}{fs:List Field}{ks:List EK}{xs ys:List AV}{b:Bool},gv P i fs=some ks->aE G w xs (X.toList.drop i)->bw ks xs ys=some b->
  ∀f∈fs,f.name≠ "_" /\∃k v,iE P f.type=some k/\X[f.offset]? =some v
 |i,[],ks,xs,ys,b,hf,r1,h=>by intro f hf';cases hf'
 |i,f::fs,ks,xs,ys,b,hf,r1,h=>by
  simp only[gv] at hf;split at hf
  ·rename_i k ks' hk hks;split at hf
   ·rename_i hn;obtain ⟨hn,ho⟩:=hn;cases hf;cases xs with
    |nil=>simp[bw] at h
    |cons x xs=>
     cases ys with
     |nil=>simp[bw] at h
     |cons y ys=>
      simp only[aE] at r1;obtain ⟨v,vs,e1,r1,q1⟩:=r1;have g1:X[i]? =some v:=by
       have:=Pj List.head? e1;simpa [List.head?_drop] using this
      have t1:X.toList.drop (i+1)=vs:=by
       have:=Pj List.tail e1;simpa [List.tail_drop] using this
      simp only[bw] at h;split at h
      ·rename_i p q hp hq;intro g hg;rcases OA.1 hg with rfl|hg
       ·exact ⟨hn,k,v,hk,by rw[ho];exact g1⟩
       ·exact JG (i:=i+1) hks (t1▸q1) hq g hg
      ·cases h
   ·cases hf
  ·cases hf
theorem CC{em:Bool}{n:Nat}{t:TypeId}{k:EK}{v:Value}(hu:iE P t=some k):(Instr.checkKey em (n+1) t v).run P w= .ok () w:=by
 unfold iE at hu;split at hu<;>first|(cases hu;done)|skip
 all_goals
  rename_i hu';rw[Instr.checkKey];simp only[Sem.run_bind,run_underlying hu',Result.andThen_ok];cases v<;>rfl
theorem nC{em:Bool}{kt:TypeId}{fs:Array Field}{ks:List EK}{xs ys:List AV}{vs:List Value}{b:Bool}(hT:P.underlying kt=some (.struct fs))(hf:gv P 0 fs.toList=some ks)(r1:aE G w xs vs)(h:bw ks xs ys=some b):
  (Instr.checkKey em 10000 kt (.agg vs.toArray)).run P w= .ok () w:=by
 have each:=JG (X:=vs.toArray) (i:=0) hf (by simpa using r1) h;have h9:∀d:Nat,(Instr.checkKey em (d+2) kt (.agg vs.toArray)).run P w= .ok () w:=λd=>by
  rw[show d+2=(d+1)+1 from rfl,Instr.checkKey];simp only[Sem.run_bind,run_underlying hT,Result.andThen_ok];rw[<-Array.forIn_toList];generalize fs.toList=L at each;clear hf;induction L with
  |nil=>simp
  |cons f L ih=>
   obtain ⟨hn,k,v,hk,hx⟩:=each f ah;have p2:=CC (P:=P) (w:=w) (em:=em) (n:=d) (v:=v) hk;simp only[List.forIn_cons,Sem.run_bind,hn,ne_eq,not_false_eq_true,Of,Result.andThen_ok,dQ hk hx,p2,Sem.run_pure];exact ih (λy hy=>each y (by simp[hy]))
 exact h9 9998
theorem Kb{ks:List EK}{key:List AV}:∀{es:List (AV × AV)}{r:Option (Nat × AV)},eV ks key es=some r->∃ys b,bw ks key ys=some b
 |[],r,h=>by
  simp only[eV] at h;split at h
  ·rename_i hs;obtain ⟨b,hb⟩:=QC.1 hs;exact ⟨_,b,hb⟩
  ·cases h
 |(a,v)::es,r,h=>by
  cases a<;>simp only[eV] at h<;>try (cases h;done)
  split at h
  ·exact ⟨_,_,‹_›⟩
  ·exact ⟨_,_,‹_›⟩
  ·cases h
theorem om{kt:TypeId}{fs:Array Field}{ks:List EK}{key:List AV}{vs:List Value}(hT:P.underlying kt=some (.struct fs))(hh:P.stoodInHeld kt=false)(hf:gv P 0 fs.toList=some ks)(hk:aE G w key vs):
  ∀{es:List (AV × AV)}{en:List MapEntry}{r:Option (Nat × AV)},eV ks key es=some r->Entries G w es en->
  (r=none->∀i,(Instr.findAsking kt (.agg vs.toArray) en i).run P w= .ok none w)/\
  (∀p,r=some p->∃e,en[p.1]? =some e/\(∀i,(Instr.findAsking kt (.agg vs.toArray) en i).run P w= .ok (some (i+p.1,e.val)) w)/\aC G w p.2 e.val/\e.key= .agg vs.toArray)
 |[],en,r,hm,he=>by
  simp only[Entries] at he;subst he;simp only[eV] at hm;split at hm<;>cases hm;exact ⟨λ_ i=>by simp[Instr.findAsking],λp hp=>by cases hp⟩
 |(a,v)::es,en,r,hm,he=>by
  obtain ⟨e,rst,rfl,h1,h2,h3⟩:=he;cases a<;>simp only[eV] at hm<;>try (cases hm;done)
  rename_i xs;simp only[aC] at h1;obtain ⟨us,hu,h1⟩:=h1;have eqr:∀b,bw ks key xs=some b->(Op.equal kt (.agg vs.toArray) e.key).run P w= .ok b w:=λb hb=>by
   have hfs:P.fieldsOf kt=fs:=by simp[Program.fieldsOf,hT]
   rw[hu];have:(Op.equalIn 10000 kt (.agg vs.toArray) (.agg us.toArray)).run P w= .ok b w:=by
    rw[run_equalIn_struct w 9999 kt _ _ (by rw[hfs];exact hT) hh,hfs];exact qe (d:=9998) hf (by simpa using hk) (by simpa using h1) hb
   simpa only[Op.equal,Op.maxDepth] using this
  split at hm
  ·rename_i hq;have hq':=eqr _ hq;simp only[Om] at hm;subst hm;refine ⟨λh=>(by cases h),λp hp=>?_⟩;cases hp;exact ⟨e,rfl,λi=>by simp[Instr.findAsking,hq'],h2,by rw[hu,oh hq hk h1]⟩
  ·rename_i hq;have hq':=eqr _ hq;simp only[Oc] at hm;obtain ⟨r',hr',rfl⟩:=hm;obtain ⟨g1,g2⟩:=om hT hh hf hk hr' h3;refine ⟨λhn i=>?_,λp hp=>?_⟩
   ·cases r' with
    |none=>simp[Instr.findAsking,hq',g1 rfl]
    |some q=>cases hn
   ·cases r' with
    |none=>cases hp
    |some q=>
     simp only[Option.map_some,Om] at hp;subst hp;obtain ⟨e',q1,q2,q3,q4⟩:=g2 q rfl;exact ⟨e',by simpa using q1,λi=>by simp[Instr.findAsking,hq',q2];omega,q3,q4⟩
  ·cases hm
theorem fZ{kt:TypeId}{fs:Array Field}{v:Value}{en:List MapEntry}(hT:P.underlying kt=some (.struct fs)):(Instr.findKey kt v en).run P w=(Instr.findAsking kt v en).run P w:=by
 cases en with
 |nil=>simp[Instr.findKey,run_underlying hT,Instr.findNow,Instr.findAsking]
 |cons e en=>
  have:Instr.sameNow (.struct fs) v e.key=none:=by cases v<;>rfl
  simp[Instr.findKey,run_underlying hT,Instr.findNow,this]
theorem yM{T kt et:TypeId}{z1 z2:Operand}{y1 y2:Opd}{ok:Bool}{z:Value}{zz:AV}{id:Nat}{ks:List EK}{fs:Array Field}{k:List AV}{es:List (AV × AV)}{r:Option (Nat × AV)}(hop:o.op= .lookup T z1 z2 ok)(hT:P.underlying T=some (.map kt et))(hk:P.underlying kt=some (.struct fs))(hh:P.stoodInHeld kt=false)(hf:gv P 0 fs.toList=some ks)(hz:(P.info? et).bind (·.zero)=some z)(hzz:dd P et z=some zz)
  (h1:opd P T z1=some y1) (h2:opd P kt z2=some y2) (hx:ev t y1= .mp id) (hy:ev t y2= .agg k) (ho:h.objs id=some (.map es)) (hm:eV ks k es=some r):
  Loc P o t h (dT zz ok r) h ⟨[id],[],[]⟩:=by
 refine ⟨_,_,dp h ho,λG w a ht R F=>?_⟩;have r1:=aK h1 ht;have r2:=aK h2 ht;rw[hx] at r1;rw[hy] at r2;simp only[aC] at r1 r2;obtain ⟨vs,r2,rk⟩:=r2;obtain ⟨en,ck,hg,he⟩:=kN R;obtain ⟨f1,f2⟩:=om hk hh hf rk hm he;obtain ⟨i,hi,hzi⟩:=Oe.1 hz;have hzr:(zeroValue et).run P w= .ok z w:=by simp[zeroValue,typeInfo,hi,hzi]
 obtain ⟨ys,b,hfit⟩:=Kb hm;have hck:=nC (em:=en.isEmpty) hk hf rk hfit;have rz:aC G w zz z:=eQ hzz;cases r with
 |none=>
  have hf:=(fZ (v:= .agg vs.toArray) (en:=en.toList) hk).trans (f1 rfl 0);refine ⟨.value (if ok then .tuple #[z,.bool false] else z),_,w,G,?_,.inl rfl,Trans.refl _ _ _,R,?_⟩
  ·cases ok<;>simp[execOp,hop,Instr.lookup,r1,r2,run_underlying hT,Ps hg,hck,hf,hzr]
  ·cases ok
   ·simpa [dT] using rz
   ·simp only[dT,Of,aC];exact ⟨[z,.bool false],rfl,aE.cons rz (aE.cons (by simp[aC]) aE.nil)⟩
 |some p=>
  obtain ⟨e,g1,g2,g3,g4⟩:=f2 p rfl;have hf:=(fZ (v:= .agg vs.toArray) (en:=en.toList) hk).trans (g2 0);refine ⟨.value (if ok then .tuple #[e.val,.bool true] else e.val),_,w,G,?_,.inl rfl,Trans.refl _ _ _,R,?_⟩
  ·cases ok<;>simp[execOp,hop,Instr.lookup,r1,r2,run_underlying hT,Ps hg,hck,hf]
  ·cases ok
   ·simpa [dT] using g3
   ·simp only[dT,Of,aC];exact ⟨[e.val,.bool true],rfl,aE.cons g3 (aE.cons (by simp[aC]) aE.nil)⟩
theorem tR{T kt et:TypeId}{z1 z2 z3:Operand}{y1 y2 y3:Opd}{id:Nat}{ks:List EK}{fs:Array Field}{k:List AV}{es:List (AV × AV)}{r:Option (Nat × AV)}(hop:o.op= .mapUpdate T z1 z2 z3\/o.op= .insert T z1 z2 z3)(hT:P.underlying T=some (.map kt et))(hk:P.underlying kt=some (.struct fs))(hh:P.stoodInHeld kt=false)(hf:gv P 0 fs.toList=some ks)
  (h1:opd P T z1=some y1) (h2:opd P kt z2=some y2) (h3:opd P et z3=some y3) (hx:ev t y1= .mp id) (hy:ev t y2= .agg k) (ho:h.objs id=some (.map es)) (hm:eV ks k es=some r):
  Loc P o t h .any {h with objs:=upd h.objs id (some (.map (rB es k (ev t y3) r)))} ⟨[],[id],[]⟩:=by
 refine ⟨_,_,fc h ho,λG w a ht R F=>?_⟩;have r1:=aK h1 ht;have r2:=aK h2 ht;have r3:=aK h3 ht;rw[hx] at r1;rw[hy] at r2;simp only[aC] at r1 r2;obtain ⟨vs,r2,rk⟩:=r2;obtain ⟨en,ck,hg,he⟩:=kN R;obtain ⟨f1,f2⟩:=om hk hh hf rk hm he;obtain ⟨ys,b,hfit⟩:=Kb hm;have hck:=nC (em:=false) hk hf rk hfit;have rkv:aC G w (.agg k) (.agg vs.toArray):=by
  simp only[aC];exact ⟨vs,rfl,rk⟩
 have hop':(execOp a.eval o).run P w=((Instr.mapUpdate T (a.eval z1) (a.eval z2) (a.eval z3)).run P w).andThen λ_ w'=> .ok .skip w':=by
  rcases hop with hop|hop<;>simp[execOp,hop]
 cases r with
 |none=>
  have hf:=(fZ (v:= .agg vs.toArray) (en:=en.toList) hk).trans (f1 rfl 0);obtain ⟨T1,R1⟩:=jB (ck':=ck+1) (en':=en.push {key:= .agg vs.toArray,val:=a.eval z3,born:=ck}) R hg (es':=es++[(.agg k,ev t y3)]) (by
   rw[Array.toList_push];exact Entries.append he ⟨_,[],rfl,rkv,r3,rfl⟩)
  refine ⟨.skip,undef,_,G,?_,.inr ⟨rfl,rfl⟩,T1,R1,by simp[aC]⟩;rw[hop'];simp[Instr.mapUpdate,r1,r2,run_underlying hT,Ps hg,hck,hf,P8 _ hg]
 |some p=>
  obtain ⟨e,g1,g2,g3,g4⟩:=f2 p rfl;have hf:=(fZ (v:= .agg vs.toArray) (en:=en.toList) hk).trans (g2 0);have hst:=CB (P:=P) (w:=w) hfit rk;have g1':en[p.1]? =some e:=by simpa using g1
  obtain ⟨T1,R1⟩:=jB (ck':=ck) (en':=en.modify p.1 λe=>{e with key:= .agg vs.toArray,val:=a.eval z3}) R hg (es':=es.set p.1 (.agg k,ev t y3)) (by
   rw[toList_modify _ _ _ g1];exact Entries.set rkv r3 _ he)
  refine ⟨.skip,undef,_,G,?_,.inr ⟨rfl,rfl⟩,T1,R1,by simp[aC]⟩;rw[hop'];simp[Instr.mapUpdate,r1,r2,run_underlying hT,Ps hg,hck,hf,P8 _ hg,g1',g4,hst]
theorem CD{c:Call}{T kt et:TypeId}{z1 z2:Operand}{ts:List TypeId}{y1 y2:Opd}{id:Nat}{ks:List EK}{fs:Array Field}{k:List AV}{es:List (AV × AV)}{r:Option (Nat × AV)}(hop:o.op= .call c)(hc:c.callee= .builtin .delete)(ha:c.args.toList=[z1,z2])(hta:c.argTypes.toList=T::ts)(hT:P.underlying T=some (.map kt et))(hk:P.underlying kt=some (.struct fs))(hh:P.stoodInHeld kt=false)(hf:gv P 0 fs.toList=some ks)
  (h1:opd P T z1=some y1) (h2:opd P kt z2=some y2) (hx:ev t y1= .mp id) (hy:ev t y2= .agg k) (ho:h.objs id=some (.map es)) (hm:eV ks k es=some r):
  Loc P o t h .any {h with objs:=upd h.objs id (some (.map (rA es r)))} ⟨[],[id],[]⟩:=by
 have ha':c.args= #[z1,z2]:=by rw[<-Array.toArray_toList (xs:=c.args),ha]
 have hta':c.argTypes=(T::ts).toArray:=by rw[<-Array.toArray_toList (xs:=c.argTypes),hta]
 refine ⟨_,_,fc h ho,λG w a ht R F=>?_⟩;have r1:=aK h1 ht;have r2:=aK h2 ht;rw[hx] at r1;rw[hy] at r2;simp only[aC] at r1 r2;obtain ⟨vs,r2,rk⟩:=r2;obtain ⟨en,ck,hg,he⟩:=kN R;obtain ⟨f1,f2⟩:=om hk hh hf rk hm he;obtain ⟨ys,b,hfit⟩:=Kb hm;have hck:=nC (em:=en.isEmpty) hk hf rk hfit;cases r with
 |none=>
  have hf:=(fZ (v:= .agg vs.toArray) (en:=en.toList) hk).trans (f1 rfl 0);obtain ⟨T1,R1⟩:=jB (ck':=ck) (en':=en) R hg (es':=es) he;refine ⟨.value (.tuple #[]),_,_,G,?_,.inl rfl,T1,R1,by simp[aC]⟩;simp[execOp,hop,resolve,hc,ha',hta',invoke,builtin,Builtin.delete_,r1,r2,run_underlying hT,Ps hg,hck,hf,P8 _ hg]
 |some p=>
  obtain ⟨e,g1,g2,g3,g4⟩:=f2 p rfl;have hf:=(fZ (v:= .agg vs.toArray) (en:=en.toList) hk).trans (g2 0);have hlt:p.1<en.size:=by
   have:=(Pu.1 g1).1;simpa using this
  obtain ⟨T1,R1⟩:=jB (ck':=ck) (en':=en.eraseIdxIfInBounds p.1) R hg (es':=es.eraseIdx p.1) (by
   have:(en.eraseIdxIfInBounds p.1).toList=en.toList.eraseIdx p.1:=by
    unfold Array.eraseIdxIfInBounds;rw[dif_pos hlt,Array.toList_eraseIdx]
   rw[this];exact Entries.erase _ he)
  refine ⟨.value (.tuple #[]),_,_,G,?_,.inl rfl,T1,R1,by simp[aC]⟩;simp[execOp,hop,resolve,hc,ha',hta',invoke,builtin,Builtin.delete_,r1,r2,run_underlying hT,Ps hg,hck,hf,P8 _ hg]
end
end Go.Av
end
